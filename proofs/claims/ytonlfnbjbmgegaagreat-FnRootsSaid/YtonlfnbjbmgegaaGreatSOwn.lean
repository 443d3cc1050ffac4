/-
  Walks, the reference's side: numbers of their own; one term.
-/
import Derived.Test.YtonlfnbjbmgegaaGreatSForm
import Derived.Test.YtonlfnbjbmgegaaGreatWClone
import Derived.Test.YtonlfnbjbmgegaaGreatBD
namespace Go.Proofs.YtonlfnbjbmgegaaGreat
open Go.RowKit
set_option linter.unusedSimpArgs false
set_option linter.unusedVariables false

set_option maxHeartbeats 400000 in
theorem suGood_any (x : Sur) (X : Nat → Prop) (A : Option Addr) (c : Nat) (w : World) (sx : SSl X w x A c) :
    Calls Tryz.prog 40 #[.agg #[.slice A x.len c]] w fun e w' => e = .returned (.bool (sGood x)) ∧ Below w.heap.size w w' := by
  have k0 := (Blk.new w 26 #[.slice A x.len c])
  have hB0 : Below w.heap.size w (w.alloc (.cells #[.slice A x.len c] 26)) := by go_grown
  by_cases h1 : 0 ≤ leftP 6 60 x
  · have H := Lib.hid (show sformP 6 x = sGood x by rw [← sGood_spec]; simp [h1])
    go_enter Tryz.func40, Tryz.ntmps40
    go_wp2_with fail
    refine (suLeft_any _ x _ _ _ 6 60 _ (Nat.le_refl _) (sx.below hB0) (by omega) (by omega) (by omega) (by omega)).mono ?_
    rintro e1 w1 ⟨rfl, hb1⟩
    have hB1 := Below.call hB0 (by go_size) hb1
    obtain ⟨q1, _⟩ := (k0.call hb1).c1
    go_wp2_with fail
    refine (suForm_any _ x _ _ _ 6 _ (Nat.le_refl _) (sx.below hB1) (by omega) (by omega)).mono ?_
    rintro e2 w2 ⟨rfl, hb2⟩
    go_wp2
    go_ret
    exact ⟨by rw [← H.out]; rfl, hB1.trans (hb2.mono hB1.size)⟩
  · have H := Lib.hid (show sGood x = false by rw [← sGood_spec]; simp [h1])
    have hd : decide (0 ≤ leftP 6 60 x) = false := by simpa using h1
    go_enter Tryz.func40, Tryz.ntmps40
    go_wp2_with fail
    refine (suLeft_any _ x _ _ _ 6 60 _ (Nat.le_refl _) (sx.below hB0) (by omega) (by omega) (by omega) (by omega)).mono ?_
    rintro e1 w1 ⟨rfl, hb1⟩
    have hB1 := Below.call hB0 (by go_size) hb1
    go_wp2
    go_ret
    exact ⟨by rw [H.out]; rfl, hB1⟩

set_option maxHeartbeats 1600000 in
set_option maxRecDepth 100000 in
theorem suOwn_any (N : Nat) (hN : N ≤ 1099511627776) : ∀ (x : Sur) (X : Nat → Prop) (A : Option Addr) (c : Nat) (w : World), x.nodes ≤ N → SSl X w x A c →
    Calls Tryz.prog 44 #[.agg #[.slice A x.len c]] w (RetFresh w x) := by
  induction N with
  | zero => intro x X A c w hx; have := x.len_lt_nodes; omega
  | succ N ih =>
    intro x X A c w hx sx
    have IH := Lib.hid (ih (by omega)); clear ih
    obtain ⟨i0, hi0, iz0, iz1, iz2⟩ := info_parts infoST
    have lx := sx.cap
    have lx' := sx.le
    have lx2 := x.len_lt_nodes
    unfold maxLen at lx
    have hB0 : Below w.heap.size w (((w.alloc (.cells #[.slice A x.len c] 26)).alloc (.cells #[.slice none 0 0] 26)).alloc (.cells #[.slice none 0 0] 26)) := by go_grown
    have kx := ((Blk.new w 26 #[.slice A x.len c]).alloc (.cells #[.slice none 0 0] 26)).alloc (.cells #[.slice none 0 0] 26)
    have kr := (Blk.new' (g := w.heap.size + 1) (w.alloc (.cells #[.slice A x.len c] 26)) 26 #[.slice none 0 0] (by simp)).alloc (.cells #[.slice none 0 0] 26)
    have ko := (Blk.new' (g := w.heap.size + 1 + 1) ((w.alloc (.cells #[.slice A x.len c] 26)).alloc (.cells #[.slice none 0 0] 26)) 26 #[.slice none 0 0] (by simp))
    go_enter Tryz.func44, Tryz.ntmps44
    go_wp2
    go_loopw [10] (fun s wr => ∃ (k : Nat) (v : Value) (xs : List Value) (bs : List Nat), s = .int .i64 k ∧ k ≤ x.len ∧ Blk wr (w.heap.size + 1) 26 #[.slice none 0 0] ∧ Blk wr (w.heap.size + 1 + 1) 26 #[v] ∧
      wr.ownsRow (w.heap.size + 3) 70 3 v k xs ∧ TTRow wr (x.take k) xs bs ∧ bs.Nodup ∧ (∀ g ∈ bs, w.heap.size + 3 ≤ g) ∧ (∀ g, v.ownBlock = some g → g ∉ bs) ∧ Below w.heap.size w wr) (fun s _ => x.len - (intOf s).toNat)
    case atStart => exact ⟨0, .slice none 0 0, [], [], rfl, Nat.zero_le _, kr, ko, World.ownsRow_nil _ _ _ _, ⟨rfl, rfl⟩, List.nodup_nil, by simp, by simp, hB0⟩
    case round =>
      obtain ⟨k, v, xs, bs, rfl, hk, mr, mo, hown, hrow, hnd, hge, hnb, hB⟩ := hrel
      obtain ⟨p0, pf0⟩ := mo.c1
      have zo := mo.lt
      have zr := mr.lt
      clear kr ko kx
      have HR := Lib.hid hrow
      have HG := Lib.hid hge
      have HNB := Lib.hid hnb
      clear hrow hge hnb
      by_cases h1 : k < x.len
      · obtain ⟨b, o, e, n, d, A1, d1, rfl, hxk, f0, f1, f2, se, in_, id_, _, hbl⟩ := (sx.below hB).at_ h1
        have hne := Sur.nodes_drop hxk
        have HT := Lib.hid (x.take_succ k e n d _ hxk)
        clear hxk
        have se1 := Lib.hid fun W (h : Below wr.heap.size wr W) => se.below h
        have ag := own_ne hown (k := w.heap.size + 1 + 1) (.inl (by omega))
        have ak := own_ne hown (k := wr.heap.size) (.inr (Nat.le_refl _))
        go_wp2_with fail
        go_region_law (first | ((refine step_append_lies _ (by rfl) _ _ _ (by rfl) (w.heap.size + 3) 70 i0 _ 3 40 Tryz.underlying24 hi0 iz0 iz1 iz2 rfl (by omega) v k xs (by rfl) ((own_below ((hown.alloc _).drew) hb1).alloc _) ⟨w1.heap.size, 0, none⟩ 1 1 [.slice A2 e.len d2, .int .i64 n, .int .i64 d] (by rfl) (by rfl) (World.news_of_block (cs := #[.slice A2 e.len d2, .int .i64 n, .int .i64 d]) (t := 70) (fr := (0, 0)) (heap_alloc_new w1 _)) (by simp [Value.oneCell']) (by omega) (by unfold maxLen; omega) (by omega) (by go_size) (w1.heap.size + 1) (by simp) ?_); intro gg cap w2 hown1 hgrow hat hlt; go_must (have ko2 := (((mo.alloc (.cells #[.slice A1 e.len d1, .int .i64 n, .int .i64 d] 70)).drew.call hb1).alloc (.cells #[.slice A2 e.len d2, .int .i64 n, .int .i64 d] 70)).grown hgrow (Ne.symm ag)); go_must (obtain ⟨q0, qf0⟩ := ko2.c1)) | (go_simp; go_at_call 44; refine (IH.out e _ _ _ _ (by omega) (se1.out _ (by go_grown))).mono ?_; rintro e1 w1 ⟨A2, d2, rfl, hf, hb1⟩; obtain ⟨hc1, hf1⟩ := bcell hb1; have hz1 := hb1.size; simp only [World.size_alloc, World.size_drew] at hz1; have zo1 : w.heap.size + 1 + 1 < w1.heap.size := (by omega); have zt1 : wr.heap.size < w1.heap.size := (by omega)))
        all_goals
          go_wp2
          obtain ⟨bs', t1, t2, t3, t4⟩ := tt_step hown HR.out hnd HG.out HNB.out (Below.trans (by go_grown) (hb1.mono (by go_size))) hf (by go_size) (by go_size) in_ id_ hgrow hat (by omega) ⟨w.heap.size + 1 + 1, 0, none⟩ (by simp) (.slice (some ⟨gg, 0, none⟩) (k + 1) cap)
          have mr2 := ((((mr.alloc (.cells #[.slice A1 e.len d1, .int .i64 n, .int .i64 d] 70)).drew.call hb1).alloc (.cells #[.slice A2 e.len d2, .int .i64 n, .int .i64 d] 70)).grown hgrow (Ne.symm (own_ne hown (.inl (by omega))))).far (p := ⟨w.heap.size + 1 + 1, 0, none⟩) (by simp) (.slice (some ⟨gg, 0, none⟩) (k + 1) cap)
          have hB2 : Below w.heap.size w w2 := Below.grown (Below.alloc (Below.call (by go_grown) (by go_size) hb1) (by omega) _) hgrow (by go_size) (fun g hg => by have := hown.lt g hg; omega)
          refine ⟨⟨k + 1, _, _, bs', by go_num, by omega, mr2, ko2.set_ 0 _, own_setCell hown1 (own_ne hown1 (.inl (by simp))) _, by rw [HT.out]; exact t1, t2, t3, ?_, ?_⟩, by simp [intOf]; omega⟩
          · intro g hg
            have : gg = g := by simpa [Value.ownBlock] using hg
            subst this; exact t4
          · exact hB2.setCell (by simp; omega) _
      · obtain rfl : k = x.len := by omega
        obtain ⟨Av, cv, rfl⟩ := own_slice hown
        obtain ⟨r0, rf0⟩ := mr.c1
        have hsf : SFresh (w.heap.size + 3) wr x Av cv := by
          have := STree.of_own hown HR.out hnd HG.out HNB.out
          rw [x.take_len] at this
          exact this.2
        go_wp2
        refine bodyPost_ret (v := .agg #[.slice Av x.len cv]) (by simp [results, Tryz.results44, go_sem, r0]) rfl ?_
        exact ⟨Av, cv, rfl, (hsf.setCell (p := ⟨w.heap.size + 1, 0, none⟩) (by simp) _).mono (by omega), hB.setCell (by simp) _⟩

set_option maxHeartbeats 800000 in
theorem suIf_any (x : Sur) (X : Nat → Prop) (A : Option Addr) (c : Nat) (w : World) (sx : SSl X w x A c) :
    Calls Tryz.prog 73 #[.agg #[.slice A x.len c]] w (RetFreshB w (told x true)) := by
  have k0 := ((Blk.new w 26 #[.slice A x.len c]).alloc (.cells #[.slice none 0 0] 26))
  have k1 := (Blk.new' (g := w.heap.size + 1) (w.alloc (.cells #[.slice A x.len c] 26)) 26 #[.slice none 0 0] (by simp))
  have hB0 : Below w.heap.size w ((w.alloc (.cells #[.slice A x.len c] 26)).alloc (.cells #[.slice none 0 0] 26)) := by go_grown
  cases hx : sGood x
  · have H := Lib.hid (show told x true = none by simp [told, hx])
    go_enter Tryz.func73, Tryz.ntmps73
    go_wp2_with fail
    refine (suGood_any x _ _ _ _ (sx.below hB0)).mono ?_
    rintro e1 w1 ⟨rfl, hb1⟩
    have hB1 := Below.call hB0 (by go_size) hb1
    obtain ⟨q1, qf1⟩ := (k1.call hb1).c1
    rw [hx]
    go_wp2
    refine bodyPost_ret (v := .tuple #[.agg #[.slice none 0 0], .bool false]) (by simp [results, Tryz.results73, go_sem, q1]) rfl ?_
    rw [H.out]
    exact ⟨none, 0, rfl, SFresh.nil _ _, hB1.setCell (by simp) _⟩
  · have H := Lib.hid (show told x true = some x by simp [told, hx])
    have hnn := sOk_nodes hx
    go_enter Tryz.func73, Tryz.ntmps73
    go_wp2_with fail
    refine (suGood_any x _ _ _ _ (sx.below hB0)).mono ?_
    rintro e1 w1 ⟨rfl, hb1⟩
    have hB1 := Below.call hB0 (by go_size) hb1
    have k01 := k0.call hb1
    have k11 := k1.call hb1
    obtain ⟨p1, _⟩ := k01.c1
    rw [hx]
    go_wp2_with fail
    refine (suOwn_any 60 (by omega) x _ _ _ _ (by omega) (sx.below hB1)).mono ?_
    rintro e2 w2 ⟨A2, c2, rfl, hf, hb2⟩
    obtain ⟨q2, qf2⟩ := (k11.call hb2).c1
    go_wp2
    refine bodyPost_ret (v := .tuple #[.agg #[.slice A2 x.len c2], .bool true]) (by simp [results, Tryz.results73, go_sem, q2]) rfl ?_
    rw [H.out]
    have hz := k11.lt
    exact ⟨A2, c2, rfl, (hf.setCell (p := ⟨w.heap.size + 1, 0, none⟩) hz _).mono hB1.size, (hB1.trans (hb2.mono hB1.size)).setCell (by simp) _⟩

set_option maxHeartbeats 400000 in
theorem suZero_any (x : Sur) (A : Option Addr) (c : Nat) (w : World) :
    Calls Tryz.prog 59 #[.agg #[.slice A x.len c]] w fun e w' => e = .returned (.bool ((x.len : Int) == 0)) ∧ Below w.heap.size w w' := by
  go_enter Tryz.func59, Tryz.ntmps59
  go_wp2
  go_ret
  exact ⟨by simp, by go_grown⟩

set_option maxHeartbeats 800000 in
theorem suTerm_any (x : Sur) (n d : Int) (X : Nat → Prop) (A : Option Addr) (c : Nat) (w : World) (hX : ∀ k, X k → k < w.heap.size) (sx : SSl X w x A c) (in_ : I64 n) (id_ : I64 d) :
    Calls Tryz.prog 80 #[.agg #[.slice A x.len c], .agg #[.int .i64 n, .int .i64 d]] w (RetS X w (termP x n d)) := by
  by_cases hn : n = 0
  · have H := Lib.hid (show termP x n d = .nil by simp [termP, hn])
    have e0 : (n == 0) = true := by simpa using hn
    clear hn
    go_enter Tryz.func80, Tryz.ntmps80
    go_wp2
    refine bodyPost_ret (v := .agg #[.slice none 0 0]) (by simp [results, Tryz.results80, go_sem]) rfl ?_
    rw [H.out]
    exact ⟨none, 0, rfl, SSl.nil _ _, by go_grown⟩
  · have H := Lib.hid (show termP x n d = .cons x n d .nil by simp [termP, hn])
    have e0 : (n == 0) = false := by simpa using hn
    clear hn
    go_enter Tryz.func80, Tryz.ntmps80
    go_wp2
    refine bodyPost_ret (v := .agg #[.slice (some ⟨w.heap.size + 1 + 1 + 1, 0, none⟩) 1 1]) (by simp [results, Tryz.results80, go_sem]) rfl ?_
    rw [H.out]
    exact ⟨_, _, rfl, SSl.one (Blk.new' _ _ _ (by simp)) (sx.below (by go_grown)) (fun h => by have := hX _ h; omega) in_ id_, by go_grown⟩

set_option maxHeartbeats 800000 in
theorem suReal_any (n d : Int) (X : Nat → Prop) (w : World) (hX : ∀ k, X k → k < w.heap.size) (in_ : I64 n) (id_ : I64 d) :
    Calls Tryz.prog 68 #[.agg #[.int .i64 n, .int .i64 d]] w (RetS X w (termP .nil n d)) := by
  have k0 := ((Blk.new w 68 #[.int .i64 n, .int .i64 d]).alloc (.cells #[.slice none 0 0] 26))
  have k1 := (Blk.new' (g := w.heap.size + 1) (w.alloc (.cells #[.int .i64 n, .int .i64 d] 68)) 26 #[.slice none 0 0] (by simp))
  have hB0 : Below w.heap.size w ((w.alloc (.cells #[.int .i64 n, .int .i64 d] 68)).alloc (.cells #[.slice none 0 0] 26)) := by go_grown
  go_enter Tryz.func68, Tryz.ntmps68
  go_wp2_with fail
  refine (suTerm_any .nil n d (Loc X w.heap.size 2) none 0 _ (loc_lt hX (by go_size)) (SSl.nil _ _) in_ id_).mono ?_
  rintro e1 w1 ⟨A1, c1, rfl, hs, hb1⟩
  obtain ⟨q1, qf1⟩ := (k1.call hb1).c1
  have hB1 := Below.call hB0 (by go_size) hb1
  go_wp2
  refine bodyPost_ret (v := .agg #[.slice A1 (termP .nil n d).len c1]) (by simp [results, Tryz.results68, go_sem, q1]) rfl ?_
  exact ⟨A1, c1, rfl, hs.setLoc (by simp) (by simp) _, hB1.setCell (by simp) _⟩

set_option maxHeartbeats 800000 in
theorem suInt_any (n : Int) (X : Nat → Prop) (w : World) (hX : ∀ k, X k → k < w.heap.size) (in_ : I64 n) :
    Calls Tryz.prog 77 #[.int .i64 n] w (RetS X w (termP .nil n 1)) := by
  have k1 := (Blk.new w 26 #[.slice none 0 0])
  have hB0 : Below w.heap.size w (w.alloc (.cells #[.slice none 0 0] 26)) := by go_grown
  go_enter Tryz.func77, Tryz.ntmps77
  go_wp2_with fail
  refine (shInt_any n _).mono ?_
  rintro e0 w0 ⟨rfl, hb0⟩
  have hB1 := Below.call hB0 (by go_size) hb0
  have l1 := k1.call hb0
  have hz0 := hb0.size
  simp only [World.size_alloc] at hz0
  go_wp2_with fail
  refine (suReal_any n 1 (Loc X w.heap.size 1) _ (loc_lt hX (by omega)) in_ ⟨by omega, by omega⟩).mono ?_
  rintro e1 w1 ⟨A1, c1, rfl, hs, hb1⟩
  obtain ⟨q1, qf1⟩ := (l1.call hb1).c1
  have hB2 := Below.call hB1 hB1.size hb1
  go_wp2
  refine bodyPost_ret (v := .agg #[.slice A1 (termP .nil n 1).len c1]) (by simp [results, Tryz.results77, go_sem, q1]) rfl ?_
  exact ⟨A1, c1, rfl, hs.setLoc (by simp) (by simp) _, hB2.setCell (by simp) _⟩

set_option maxHeartbeats 400000 in
theorem shNeg_any (n d : Int) (w : World) :
    Calls Tryz.prog 146 #[.agg #[.int .i64 n, .int .i64 d]] w fun e w' => e = .returned (.agg #[.int .i64 (negI n), .int .i64 d]) ∧ Below w.heap.size w w' := by
  have hnn : IntKind.i64.wrap (-n) = negI n := rfl
  go_enter Tryz.func146, Tryz.ntmps146
  go_wp2
  refine bodyPost_ret (v := .agg #[.int .i64 (negI n), .int .i64 d]) (by simp [results, Tryz.results146, go_sem]) rfl ?_
  exact ⟨rfl, by go_grown⟩
end Go.Proofs.YtonlfnbjbmgegaaGreat
