/-
  Walks, the reference's side: the parts of a number.
-/
import Derived.Test.YtphabopnbcgodaaGreatSOwn
namespace Go.Proofs.YtphabopnbcgodaaGreat
open Go.RowKit
set_option linter.unusedSimpArgs false
set_option linter.unusedVariables false

def highP : Sur → Sur
  | .nil => .nil
  | .cons e n d r => if order e .nil = 1 then .cons e n d (highP r) else highP r
def lowP : Sur → Sur
  | .nil => .nil
  | .cons e n d r => if order e .nil = -1 then .cons e n d (lowP r) else lowP r
def realP (a : Int × Int) : Sur → Int × Int
  | .nil => a
  | .cons e n d r => if order e .nil = 0 then realP (n, d) r else realP a r
theorem highP_app : ∀ (x y : Sur), highP (x.app y) = (highP x).app (highP y)
  | .nil, _ => rfl
  | .cons e n d r, y => by
    simp only [Sur.app, highP]
    split
    · rw [highP_app r y]; rfl
    · exact highP_app r y
theorem lowP_app : ∀ (x y : Sur), lowP (x.app y) = (lowP x).app (lowP y)
  | .nil, _ => rfl
  | .cons e n d r, y => by
    simp only [Sur.app, lowP]
    split
    · rw [lowP_app r y]; rfl
    · exact lowP_app r y
theorem realP_app : ∀ (x y : Sur) (a : Int × Int), realP a (x.app y) = realP (realP a x) y
  | .nil, _, _ => rfl
  | .cons e n d r, y, a => by
    simp only [Sur.app, realP]
    split <;> exact realP_app r y _
theorem highP_len : ∀ (x : Sur), (highP x).len ≤ x.len
  | .nil => Nat.le_refl _
  | .cons e n d r => by
    have := highP_len r
    simp only [highP]
    split <;> simp only [Sur.len] <;> omega
theorem lowP_len : ∀ (x : Sur), (lowP x).len ≤ x.len
  | .nil => Nat.le_refl _
  | .cons e n d r => by
    have := lowP_len r
    simp only [lowP]
    split <;> simp only [Sur.len] <;> omega
theorem highP_step {x : Sur} {i : Nat} {e : Sur} {n d : Int} (hx : x.drop i = .cons e n d (x.drop (i + 1))) : highP (x.take (i + 1)) = if order e .nil = 1 then (highP (x.take i)).app (.cons e n d .nil) else highP (x.take i) := by
  rw [x.take_succ i e n d _ hx, highP_app]
  simp only [highP]
  split
  · rfl
  · rw [Sur.app_nil]
theorem lowP_step {x : Sur} {i : Nat} {e : Sur} {n d : Int} (hx : x.drop i = .cons e n d (x.drop (i + 1))) : lowP (x.take (i + 1)) = if order e .nil = -1 then (lowP (x.take i)).app (.cons e n d .nil) else lowP (x.take i) := by
  rw [x.take_succ i e n d _ hx, lowP_app]
  simp only [lowP]
  split
  · rfl
  · rw [Sur.app_nil]
theorem realP_step {x : Sur} {i : Nat} {e : Sur} {n d : Int} {a : Int × Int} (hx : x.drop i = .cons e n d (x.drop (i + 1))) : realP a (x.take (i + 1)) = if order e .nil = 0 then (n, d) else realP a (x.take i) := by
  rw [x.take_succ i e n d _ hx, realP_app]
  simp only [realP]

theorem own_other {W w2 : World} {base : Nat} {e : TypeId} {size : Nat} {v : Value} {n : Nat} {xs : List Value} {row : Option Nat} (h : W.ownsRow base e size v n xs) (hg : W.grownBy w2 row) (hne : ∀ g, v.ownBlock = some g → some g ≠ row) : w2.ownsRow base e size v n xs := by
  obtain ⟨h1, h2⟩ := h
  refine ⟨h1, ?_⟩
  rcases h2 with h2 | ⟨g, cap, cur, hv, hb, hh, r⟩
  · exact .inl h2
  · exact .inr ⟨g, cap, cur, hv, hb, by rw [hg.block g (Array.getElem?_eq_some_iff.1 hh).1 (hne g (by rw [hv]; rfl))]; exact hh, r⟩

/-- the three parts -/
def RetParts (X : Nat → Prop) (w : World) (h : Sur) (a : Int × Int) (l : Sur) (e : Ending) (w' : World) : Prop :=
  ∃ A c A' c', e = .returned (.tuple #[.agg #[.slice A h.len c], .agg #[.int .i64 a.1, .int .i64 a.2], .agg #[.slice A' l.len c']]) ∧ SSl X w' h A c ∧ SSl X w' l A' c' ∧ Below w.heap.size w w'

set_option maxHeartbeats 3200000 in
set_option maxRecDepth 100000 in
theorem suParts_any (x : Sur) (X : Nat → Prop) (A : Option Addr) (c : Nat) (w : World) (hX : ∀ k, X k → k < w.heap.size) (sx : SSl X w x A c) (hl : x.len ≤ 1099511627776) :
    Calls Tryz.prog 114 #[.agg #[.slice A x.len c]] w (RetParts X w (highP x) (realP (0, 1) x) (lowP x)) := by
  obtain ⟨i0, hi0, iz0, iz1, iz2⟩ := info_parts infoST
  have lx := sx.cap
  have lx' := sx.le
  unfold maxLen at lx
  have k0 := ((((((Blk.new w 26 #[.slice A x.len c]).alloc (.cells #[.slice none 0 0] 26)).alloc (.cells #[.int .i64 0, .int .i64 0] 28)).alloc (.cells #[.slice none 0 0] 26)).alloc (.cells #[.slice none 0 0] 26)).alloc (.cells #[.slice none 0 0] 26))
  have k1 := (((((Blk.new' (g := w.heap.size + 1) (w.alloc (.cells #[.slice A x.len c] 26)) 26 #[.slice none 0 0] (by simp)).alloc (.cells #[.int .i64 0, .int .i64 0] 28)).alloc (.cells #[.slice none 0 0] 26)).alloc (.cells #[.slice none 0 0] 26)).alloc (.cells #[.slice none 0 0] 26))
  have k2 := ((((Blk.new' (g := w.heap.size + 1 + 1) ((w.alloc (.cells #[.slice A x.len c] 26)).alloc (.cells #[.slice none 0 0] 26)) 28 #[.int .i64 0, .int .i64 0] (by simp)).alloc (.cells #[.slice none 0 0] 26)).alloc (.cells #[.slice none 0 0] 26)).alloc (.cells #[.slice none 0 0] 26))
  have k3 := (((Blk.new' (g := w.heap.size + 1 + 1 + 1) (((w.alloc (.cells #[.slice A x.len c] 26)).alloc (.cells #[.slice none 0 0] 26)).alloc (.cells #[.int .i64 0, .int .i64 0] 28)) 26 #[.slice none 0 0] (by simp)).alloc (.cells #[.slice none 0 0] 26)).alloc (.cells #[.slice none 0 0] 26))
  have k4 := ((Blk.new' (g := w.heap.size + 1 + 1 + 1 + 1) ((((w.alloc (.cells #[.slice A x.len c] 26)).alloc (.cells #[.slice none 0 0] 26)).alloc (.cells #[.int .i64 0, .int .i64 0] 28)).alloc (.cells #[.slice none 0 0] 26)) 26 #[.slice none 0 0] (by simp)).alloc (.cells #[.slice none 0 0] 26))
  have k5 := (Blk.new' (g := w.heap.size + 1 + 1 + 1 + 1 + 1) (((((w.alloc (.cells #[.slice A x.len c] 26)).alloc (.cells #[.slice none 0 0] 26)).alloc (.cells #[.int .i64 0, .int .i64 0] 28)).alloc (.cells #[.slice none 0 0] 26)).alloc (.cells #[.slice none 0 0] 26)) 26 #[.slice none 0 0] (by simp))
  have hB0 : Below w.heap.size w ((((((w.alloc (.cells #[.slice A x.len c] 26)).alloc (.cells #[.slice none 0 0] 26)).alloc (.cells #[.int .i64 0, .int .i64 0] 28)).alloc (.cells #[.slice none 0 0] 26)).alloc (.cells #[.slice none 0 0] 26)).alloc (.cells #[.slice none 0 0] 26)) := by go_grown
  have tx := sx.low
  clear sx
  go_enter Tryz.func114, Tryz.ntmps114
  go_wp2_with fail
  refine (shInt_any 0 _).mono ?_
  rintro e1 w1 ⟨rfl, hb1⟩
  have hB1 := Below.call hB0 (by go_size) hb1
  have l0 := k0.call hb1
  have l1 := k1.call hb1
  have l2 := k2.call hb1
  have l3 := k3.call hb1
  have l4 := k4.call hb1
  have l5 := k5.call hb1
  clear k0 k1 k2 k3 k4 k5 hB0
  obtain ⟨q0, _⟩ := l0.c1
  have z5 := l5.lt
  have z0 := l0.lt
  go_wp2
  go_loopw [15] (fun s wr => ∃ (i : Nat) (vh vl : Value) (xh xl : List Value), s = .int .i64 i ∧ i ≤ x.len ∧
      Blk wr (w.heap.size + 1) 26 #[.slice none 0 0] ∧ Blk wr (w.heap.size + 1 + 1) 28 #[.int .i64 0, .int .i64 0] ∧ Blk wr (w.heap.size + 1 + 1 + 1) 26 #[.slice none 0 0] ∧
      Blk wr (w.heap.size + 1 + 1 + 1 + 1) 26 #[vh] ∧ Blk wr (w.heap.size + 1 + 1 + 1 + 1 + 1) 26 #[vl] ∧ Blk wr w1.heap.size 28 #[.int .i64 (realP (0, 1) (x.take i)).1, .int .i64 (realP (0, 1) (x.take i)).2] ∧
      wr.ownsRow (w1.heap.size + 1) 91 3 vh (highP (x.take i)).len xh ∧ TRow (Low X w.heap.size) wr (highP (x.take i)) xh ∧
      wr.ownsRow (w1.heap.size + 1) 91 3 vl (lowP (x.take i)).len xl ∧ TRow (Low X w.heap.size) wr (lowP (x.take i)) xl ∧
      (∀ g, vh.ownBlock = some g → vl.ownBlock ≠ some g) ∧ Below w.heap.size w wr) (fun s _ => x.len - (intOf s).toNat)
  case atStart => exact ⟨0, .slice none 0 0, .slice none 0 0, [], [], rfl, Nat.zero_le _, l1.alloc _, l2.alloc _, l3.alloc _, l4.alloc _, l5.alloc _, Blk.new _ _ _, World.ownsRow_nil _ _ _ _, rfl, World.ownsRow_nil _ _ _ _, rfl, by simp [Value.ownBlock], hB1.alloc hB1.size _⟩
  case round =>
    obtain ⟨i, vh, vl, xh, xl, rfl, hi, m1, m2, m3, m4, m5, m7, ownh, rowh, ownl, rowl, hdis, hB⟩ := hrel
    clear l0 l1 l2 l3 l4 l5 q0 hB1
    obtain ⟨p4, pf4⟩ := m4.c1
    obtain ⟨p5, pf5⟩ := m5.c1
    obtain ⟨p7, p7', pf7, pf7'⟩ := m7.c2
    have y7 := m7.lt
    have y5 := m5.lt
    have y4 := m4.lt
    have hi0' : (0 : Int) ≤ (i : Int) := by omega
    have HD := Lib.hid hdis
    clear hdis
    by_cases h1 : i < x.len
    · obtain ⟨b, o, e, n, d, A1, d1, rfl, hxk, f0, f1, f2, se, in_, id_, hXb, hbl⟩ := (tx.lowTo (Below.refl _ _) hB).at_ h1
      have HH := Lib.hid (highP_step hxk)
      have HL := Lib.hid (lowP_step hxk)
      have HR := Lib.hid (realP_step (a := (0, 1)) hxk)
      have hlh := highP_len (x.take i)
      have hll := lowP_len (x.take i)
      rw [Sur.len_take x i hi] at hlh hll
      clear hxk
      generalize highP (x.take i) = ah at *
      generalize lowP (x.take i) = al at *
      generalize realP (0, 1) (x.take i) = ar at *
      go_wp2_with fail
      refine (suSign_any e _ _ _ _ (se.below (by go_grown))).mono ?_
      rintro e4 w4 ⟨rfl, hb4⟩
      have hB4 : Below w.heap.size w w4 := hB.trans (Below.call (w := wr) (by go_grown) (by go_size) hb4)
      have n1 := Blk.thru m1 (by go_grown) hb4
      have n2 := Blk.thru m2 (by go_grown) hb4
      have n3 := Blk.thru m3 (by go_grown) hb4
      have n4 := Blk.thru m4 (by go_grown) hb4
      have n5 := Blk.thru m5 (by go_grown) hb4
      have n7 := Blk.thru m7 (by go_grown) hb4
      have n9 := Blk.call (Blk.new wr 91 #[.slice A1 e.len d1, .int .i64 n, .int .i64 d]) hb4
      have oh4 := own_thru ownh (by go_grown) hb4
      have ol4 := own_thru ownl (by go_grown) hb4
      have rh4 := rowh.lowTo hB hB4
      have rl4 := rowl.lowTo hB hB4
      have se4 := se.lowTo hB hB4
      clear m1 m2 m3 m4 m5 m7 p4 pf4 p5 pf5 p7 p7' pf7 pf7' y7 y5 y4 f0 f1 f2 ownh ownl rowh rowl
      obtain ⟨r4, rf4⟩ := n4.c1
      obtain ⟨r5, rf5⟩ := n5.c1
      obtain ⟨r7, r7', rf7, rf7'⟩ := n7.c2
      obtain ⟨r9, s9, t9, _, _, _⟩ := n9.c3
      have y9 := n9.lt
      have y7 := n7.lt
      have y5 := n5.lt
      have y4 := n4.lt
      have agh := own_ne oh4 (k := w.heap.size + 1 + 1 + 1 + 1) (.inl (by omega))
      have agl := own_ne ol4 (k := w.heap.size + 1 + 1 + 1 + 1 + 1) (.inl (by omega))
      rcases order_range e .nil with q | q | q
      · have HH2 := Lib.hid (HH.out.trans (if_neg (by omega)))
        have HL2 := Lib.hid (HL.out.trans (if_pos q))
        have HR2 := Lib.hid (HR.out.trans (if_neg (by omega)))
        rw [q]
        clear q
        go_wp2_with (at_builtin; go_must (refine wpList_append_lies _ rfl _ _ _ rfl (w1.heap.size + 1) 91 i0 _ 3 40 Tryz.underlying24 hi0 iz0 iz1 iz2 rfl (by omega) vl al.len xl (by rfl) (ol4.alloc _) ⟨w4.heap.size, 0, none⟩ 1 1 [.slice A1 e.len d1, .int .i64 n, .int .i64 d] (by rfl) (by rfl) (World.news_of_block (cs := #[.slice A1 e.len d1, .int .i64 n, .int .i64 d]) (t := 91) (fr := (0, 0)) (Blk.new' (g := w4.heap.size) w4 91 #[.slice A1 e.len d1, .int .i64 n, .int .i64 d] (by simp))) (by simp [Value.oneCell']) (by omega) (by unfold maxLen; omega) (by omega) (by go_size) (w4.heap.size + 1) (by simp) ?_); intro gg cap w2 hown1 hgrow hat hlt; obtain ⟨u5, uf5⟩ := (Blk.app n5 (by go_grown) hgrow (Ne.symm agl)).c1)
        obtain ⟨t1, t2, t3, t4, t5⟩ := low_step (ob := w.heap.size + 1 + 1 + 1 + 1 + 1) hB4 ol4 rl4 se4 in_ id_ (by go_grown) hown1 hgrow (by omega) hB4.size (by omega) (by omega)
        have oh5 := own_setCell (own_other (oh4.alloc _) hgrow (fun g hg e => HD.out g hg e.symm)) (p := ⟨w.heap.size + 1 + 1 + 1 + 1 + 1, 0, none⟩) (own_ne oh4 (.inl (by dsimp only; omega))) (.slice (some ⟨gg, 0, none⟩) (al.len + 1) cap)
        refine ⟨⟨i + 1, vh, .slice (some ⟨gg, 0, none⟩) (al.len + 1) cap, xh, xl ++ [.slice A1 e.len d1, .int .i64 n, .int .i64 d], by go_num, by omega, t4 _ _ _ (by omega) (by omega) n1, t4 _ _ _ (by omega) (by omega) n2, t4 _ _ _ (by omega) (by omega) n3, t4 _ _ _ (by omega) (by omega) n4, t5 _ _ n5, ?_, ?_, ?_, ?_, ?_, ?_, t1⟩, by simp [intOf]; omega⟩
        · rw [HR2.out]; exact t4 _ _ _ (by omega) (by omega) n7
        · rw [HH2.out]; exact oh5
        · rw [HH2.out]; exact rh4.lowTo hB4 t1
        · rw [HL2.out]; exact t2
        · rw [HL2.out]; exact t3
        · intro g hg he
          have hgg : gg = g := by simpa [Value.ownBlock] using he
          subst hgg
          rcases hat with h | h
          · exact HD.out _ hg h
          · have := oh4.lt _ hg; omega
      · have HH2 := Lib.hid (HH.out.trans (if_neg (by omega)))
        have HL2 := Lib.hid (HL.out.trans (if_neg (by omega)))
        have HR2 := Lib.hid (HR.out.trans (if_pos q))
        rw [q]
        clear q
        go_wp2
        have hB5 := (hB4.setCell (p := ⟨w1.heap.size, 0, none⟩) (by dsimp only; omega) (.int .i64 n)).setCell (p := ⟨w1.heap.size, 1, none⟩) (by dsimp only; omega) (.int .i64 d)
        refine ⟨⟨i + 1, vh, vl, xh, xl, by go_num, by omega, two_sets n1 (by omega) _ _, two_sets n2 (by omega) _ _, two_sets n3 (by omega) _ _, two_sets n4 (by omega) _ _, two_sets n5 (by omega) _ _, ?_, ?_, ?_, ?_, ?_, HD.out, hB5⟩, by simp [intOf]; omega⟩
        · rw [HR2.out]; exact (n7.set_ 0 _).set_ 1 _
        · rw [HH2.out]; exact own_setCell (own_setCell oh4 (own_ne oh4 (.inl (by dsimp only; omega))) _) (own_ne oh4 (.inl (by dsimp only; omega))) _
        · rw [HH2.out]; exact rh4.lowTo hB4 hB5
        · rw [HL2.out]; exact own_setCell (own_setCell ol4 (own_ne ol4 (.inl (by dsimp only; omega))) _) (own_ne ol4 (.inl (by dsimp only; omega))) _
        · rw [HL2.out]; exact rl4.lowTo hB4 hB5
      · have HH2 := Lib.hid (HH.out.trans (if_pos q))
        have HL2 := Lib.hid (HL.out.trans (if_neg (by omega)))
        have HR2 := Lib.hid (HR.out.trans (if_neg (by omega)))
        rw [q]
        clear q
        go_wp2_with (at_builtin; go_must (refine wpList_append_lies _ rfl _ _ _ rfl (w1.heap.size + 1) 91 i0 _ 3 40 Tryz.underlying24 hi0 iz0 iz1 iz2 rfl (by omega) vh ah.len xh (by rfl) (oh4.alloc _) ⟨w4.heap.size, 0, none⟩ 1 1 [.slice A1 e.len d1, .int .i64 n, .int .i64 d] (by rfl) (by rfl) (World.news_of_block (cs := #[.slice A1 e.len d1, .int .i64 n, .int .i64 d]) (t := 91) (fr := (0, 0)) (Blk.new' (g := w4.heap.size) w4 91 #[.slice A1 e.len d1, .int .i64 n, .int .i64 d] (by simp))) (by simp [Value.oneCell']) (by omega) (by unfold maxLen; omega) (by omega) (by go_size) (w4.heap.size + 1) (by simp) ?_); intro gg cap w2 hown1 hgrow hat hlt; obtain ⟨u5, uf5⟩ := (Blk.app n4 (by go_grown) hgrow (Ne.symm agh)).c1)
        obtain ⟨t1, t2, t3, t4, t5⟩ := low_step (ob := w.heap.size + 1 + 1 + 1 + 1) hB4 oh4 rh4 se4 in_ id_ (by go_grown) hown1 hgrow (by omega) hB4.size (by omega) (by omega)
        have ol5 := own_setCell (own_other (ol4.alloc _) hgrow (fun g hg e => HD.out g e.symm hg)) (p := ⟨w.heap.size + 1 + 1 + 1 + 1, 0, none⟩) (own_ne ol4 (.inl (by dsimp only; omega))) (.slice (some ⟨gg, 0, none⟩) (ah.len + 1) cap)
        refine ⟨⟨i + 1, .slice (some ⟨gg, 0, none⟩) (ah.len + 1) cap, vl, xh ++ [.slice A1 e.len d1, .int .i64 n, .int .i64 d], xl, by go_num, by omega, t4 _ _ _ (by omega) (by omega) n1, t4 _ _ _ (by omega) (by omega) n2, t4 _ _ _ (by omega) (by omega) n3, t5 _ _ n4, t4 _ _ _ (by omega) (by omega) n5, ?_, ?_, ?_, ?_, ?_, ?_, t1⟩, by simp [intOf]; omega⟩
        · rw [HR2.out]; exact t4 _ _ _ (by omega) (by omega) n7
        · rw [HH2.out]; exact t2
        · rw [HH2.out]; exact t3
        · rw [HL2.out]; exact ol5
        · rw [HL2.out]; exact rl4.lowTo hB4 t1
        · intro g hg he
          have hgg : gg = g := by simpa [Value.ownBlock] using hg
          subst hgg
          rcases hat with h | h
          · exact HD.out _ h he
          · have := ol4.lt _ he; omega
    · obtain rfl : i = x.len := by omega
      rw [x.take_len] at ownh rowh ownl rowl p7 p7' m7
      obtain ⟨Ah, ch, rfl⟩ := own_slice ownh
      obtain ⟨Al, cl, rfl⟩ := own_slice ownl
      obtain ⟨j1, jf1⟩ := m1.c1
      obtain ⟨j2, j2', jf2, jf2'⟩ := m2.c2
      obtain ⟨j3, jf3⟩ := m3.c1
      have y3 := m3.lt
      have y2 := m2.lt
      have y1 := m1.lt
      generalize realP (0, 1) x = ar at *
      have hne1 : ¬ w1.heap.size = w.heap.size + 1 := by omega
      have hne2 : ¬ w1.heap.size = w.heap.size + 1 + 1 := by omega
      have hne3 : ¬ w1.heap.size = w.heap.size + 1 + 1 + 1 := by omega
      go_wp2
      go_region
      all_goals
        go_wp2
        refine bodyPost_ret (v := .tuple #[.agg #[.slice Ah (highP x).len ch], .agg #[.int .i64 ar.1, .int .i64 ar.2], .agg #[.slice Al (lowP x).len cl]]) (by simp [results, Tryz.results114, go_sem, j1, j2, j2', j3]) rfl ?_
        have hB' := (((((hB.setCell (p := ⟨w.heap.size + 1, 0, none⟩) (by dsimp only; omega) (.slice Ah (highP x).len ch)).setCell (p := ⟨w.heap.size + 1 + 1, 0, none⟩) (by dsimp only; omega) (.int .i64 ar.1)).setCell (p := ⟨w.heap.size + 1 + 1, 1, none⟩) (by dsimp only; omega) (.int .i64 ar.2)).setCell (p := ⟨w.heap.size + 1 + 1 + 1, 0, none⟩) (by dsimp only; omega) (.slice Al (lowP x).len cl)).drew)
        have oh' := own_setCell (own_setCell (own_setCell (own_setCell ownh (p := ⟨w.heap.size + 1, 0, none⟩) (own_ne ownh (.inl (by dsimp only; omega))) (.slice Ah (highP x).len ch)) (p := ⟨w.heap.size + 1 + 1, 0, none⟩) (own_ne ownh (.inl (by dsimp only; omega))) (.int .i64 ar.1)) (p := ⟨w.heap.size + 1 + 1, 1, none⟩) (own_ne ownh (.inl (by dsimp only; omega))) (.int .i64 ar.2)) (p := ⟨w.heap.size + 1 + 1 + 1, 0, none⟩) (own_ne ownh (.inl (by dsimp only; omega))) (.slice Al (lowP x).len cl)
        have ol' := own_setCell (own_setCell (own_setCell (own_setCell ownl (p := ⟨w.heap.size + 1, 0, none⟩) (own_ne ownl (.inl (by dsimp only; omega))) (.slice Ah (highP x).len ch)) (p := ⟨w.heap.size + 1 + 1, 0, none⟩) (own_ne ownl (.inl (by dsimp only; omega))) (.int .i64 ar.1)) (p := ⟨w.heap.size + 1 + 1, 1, none⟩) (own_ne ownl (.inl (by dsimp only; omega))) (.int .i64 ar.2)) (p := ⟨w.heap.size + 1 + 1 + 1, 0, none⟩) (own_ne ownl (.inl (by dsimp only; omega))) (.slice Al (lowP x).len cl)
        exact ⟨Ah, ch, Al, cl, rfl, (SSl.of_own (own_below oh' (by go_grown)) (rowh.lowTo hB hB').unlow (fun k hk hXk => by have := ownh.lt k hk; have := hX k hXk; omega)).2, (SSl.of_own (own_below ol' (by go_grown)) (rowl.lowTo hB hB').unlow (fun k hk hXk => by have := ownl.lt k hk; have := hX k hXk; omega)).2, hB'⟩
end Go.Proofs.YtphabopnbcgodaaGreat
