/-
  Walks: a surreal number of its own.
-/
import Derived.Test.YtonlfnbjbmgegaaGreatBA
import Derived.Test.YtonlfnbjbmgegaaGreatBB
import Derived.Deep.RegionHeld3
import Derived.KernelRfl
import Derived.Deep.DeepMust
import Derived.Deep.RegionLaw
namespace Go.Proofs.YtonlfnbjbmgegaaGreat
open Go.RowKit
set_option linter.unusedSimpArgs false
set_option linter.unusedVariables false

theorem infoST : (Tryz.prog.info? 70).map (fun i => (i.zero, i.size, i.bytes)) = some (some (.agg #[.slice none 0 0, .int .i64 0, .int .i64 0]), 3, 40) := by kernel_rfl

/-- a new number: x itself, in blocks of its own -/
def RetFresh (w : World) (x : Sur) (e : Ending) (w' : World) : Prop := ∃ A c, e = .returned (.agg #[.slice A x.len c]) ∧ SFresh w.heap.size w' x A c ∧ Below w.heap.size w w'

set_option maxHeartbeats 1600000 in
set_option maxRecDepth 100000 in
theorem clone_any (N : Nat) (hN : N ≤ 1099511627776) : ∀ (x : Sur) (X : Nat → Prop) (A : Option Addr) (c : Nat) (w : World), x.nodes ≤ N → SSl X w x A c →
    Calls Tryz.prog 32 #[.agg #[.slice A x.len c]] w (RetFresh w x) := by
  induction N with
  | zero => intro x X A c w hx; have := x.len_lt_nodes; omega
  | succ N ih =>
    intro x X A c w hx sx
    have IH := Lib.hid (ih (by omega)); clear ih
    obtain ⟨i0, hi0, iz0, iz1, iz2⟩ := info_parts infoST
    have lx := sx.cap
    have lx' := sx.le
    have lx2 := x.len_lt_nodes
    unfold maxLen at lx
    have hB0 : Below w.heap.size w (((w.alloc (.cells #[.slice A x.len c] 26)).alloc (.cells #[.slice none 0 0] 26)).alloc (.cells #[.slice none 0 0] 26)) := by go_grown
    have kx := ((Blk.new w 26 #[.slice A x.len c]).alloc (.cells #[.slice none 0 0] 26)).alloc (.cells #[.slice none 0 0] 26)
    have kr := (Blk.new' (g := w.heap.size + 1) (w.alloc (.cells #[.slice A x.len c] 26)) 26 #[.slice none 0 0] (by simp)).alloc (.cells #[.slice none 0 0] 26)
    have ko := (Blk.new' (g := w.heap.size + 1 + 1) ((w.alloc (.cells #[.slice A x.len c] 26)).alloc (.cells #[.slice none 0 0] 26)) 26 #[.slice none 0 0] (by simp))
    go_enter Tryz.func32, Tryz.ntmps32
    go_wp2
    go_loopw [10] (fun s wr => ∃ (k : Nat) (v : Value) (xs : List Value) (bs : List Nat), s = .int .i64 k ∧ k ≤ x.len ∧ Blk wr (w.heap.size + 1) 26 #[.slice none 0 0] ∧ Blk wr (w.heap.size + 1 + 1) 26 #[v] ∧
      wr.ownsRow (w.heap.size + 3) 70 3 v k xs ∧ TTRow wr (x.take k) xs bs ∧ bs.Nodup ∧ (∀ g ∈ bs, w.heap.size + 3 ≤ g) ∧ (∀ g, v.ownBlock = some g → g ∉ bs) ∧ Below w.heap.size w wr) (fun s _ => x.len - (intOf s).toNat)
    case atStart => exact ⟨0, .slice none 0 0, [], [], rfl, Nat.zero_le _, kr, ko, World.ownsRow_nil _ _ _ _, ⟨rfl, rfl⟩, List.nodup_nil, by simp, by simp, hB0⟩
    case round =>
      obtain ⟨k, v, xs, bs, rfl, hk, mr, mo, hown, hrow, hnd, hge, hnb, hB⟩ := hrel
      obtain ⟨p0, pf0⟩ := mo.c1
      have zo := mo.lt
      have zr := mr.lt
      clear kr ko kx
      have HR := Lib.hid hrow
      have HG := Lib.hid hge
      have HNB := Lib.hid hnb
      clear hrow hge hnb
      by_cases h1 : k < x.len
      · obtain ⟨b, o, e, n, d, A1, d1, rfl, hxk, f0, f1, f2, se, in_, id_, _, hbl⟩ := (sx.below hB).at_ h1
        have hne := Sur.nodes_drop hxk
        have HT := Lib.hid (x.take_succ k e n d _ hxk)
        clear hxk
        have se1 := Lib.hid fun W (h : Below wr.heap.size wr W) => se.below h
        have ag := own_ne hown (k := w.heap.size + 1 + 1) (.inl (by omega))
        have ak := own_ne hown (k := wr.heap.size) (.inr (Nat.le_refl _))
        go_wp2_with fail
        go_region_law (first | ((refine step_append_lies _ (by rfl) _ _ _ (by rfl) (w.heap.size + 3) 70 i0 _ 3 40 Tryz.underlying24 hi0 iz0 iz1 iz2 rfl (by omega) v k xs (by rfl) ((own_below ((hown.alloc _).drew) hb1).alloc _) ⟨w1.heap.size, 0, none⟩ 1 1 [.slice A2 e.len d2, .int .i64 n, .int .i64 d] (by rfl) (by rfl) (World.news_of_block (cs := #[.slice A2 e.len d2, .int .i64 n, .int .i64 d]) (t := 70) (fr := (0, 0)) (heap_alloc_new w1 _)) (by simp [Value.oneCell']) (by omega) (by unfold maxLen; omega) (by omega) (by go_size) (w1.heap.size + 1) (by simp) ?_); intro gg cap w2 hown1 hgrow hat hlt; go_must (have ko2 := (((mo.alloc (.cells #[.slice A1 e.len d1, .int .i64 n, .int .i64 d] 70)).drew.call hb1).alloc (.cells #[.slice A2 e.len d2, .int .i64 n, .int .i64 d] 70)).grown hgrow (Ne.symm ag)); go_must (obtain ⟨q0, qf0⟩ := ko2.c1)) | (go_simp; go_at_call 32; refine (IH.out e _ _ _ _ (by omega) (se1.out _ (by go_grown))).mono ?_; rintro e1 w1 ⟨A2, d2, rfl, hf, hb1⟩; obtain ⟨hc1, hf1⟩ := bcell hb1; have hz1 := hb1.size; simp only [World.size_alloc, World.size_drew] at hz1; have zo1 : w.heap.size + 1 + 1 < w1.heap.size := (by omega); have zt1 : wr.heap.size < w1.heap.size := (by omega)))
        all_goals
          go_wp2
          obtain ⟨bs', t1, t2, t3, t4⟩ := tt_step hown HR.out hnd HG.out HNB.out (Below.trans (by go_grown) (hb1.mono (by go_size))) hf (by go_size) (by go_size) in_ id_ hgrow hat (by omega) ⟨w.heap.size + 1 + 1, 0, none⟩ (by simp) (.slice (some ⟨gg, 0, none⟩) (k + 1) cap)
          have mr2 := ((((mr.alloc (.cells #[.slice A1 e.len d1, .int .i64 n, .int .i64 d] 70)).drew.call hb1).alloc (.cells #[.slice A2 e.len d2, .int .i64 n, .int .i64 d] 70)).grown hgrow (Ne.symm (own_ne hown (.inl (by omega))))).far (p := ⟨w.heap.size + 1 + 1, 0, none⟩) (by simp) (.slice (some ⟨gg, 0, none⟩) (k + 1) cap)
          have hB2 : Below w.heap.size w w2 := Below.grown (Below.alloc (Below.call (by go_grown) (by go_size) hb1) (by omega) _) hgrow (by go_size) (fun g hg => by have := hown.lt g hg; omega)
          refine ⟨⟨k + 1, _, _, bs', by go_num, by omega, mr2, ko2.set_ 0 _, own_setCell hown1 (own_ne hown1 (.inl (by simp))) _, by rw [HT.out]; exact t1, t2, t3, ?_, ?_⟩, by simp [intOf]; omega⟩
          · intro g hg
            have : gg = g := by simpa [Value.ownBlock] using hg
            subst this; exact t4
          · exact hB2.setCell (by simp; omega) _
      · obtain rfl : k = x.len := by omega
        obtain ⟨Av, cv, rfl⟩ := own_slice hown
        obtain ⟨r0, rf0⟩ := mr.c1
        have hsf : SFresh (w.heap.size + 3) wr x Av cv := by
          have := STree.of_own hown HR.out hnd HG.out HNB.out
          rw [x.take_len] at this
          exact this.2
        go_wp2
        refine bodyPost_ret (v := .agg #[.slice Av x.len cv]) (by simp [results, Tryz.results32, go_sem, r0]) rfl ?_
        exact ⟨Av, cv, rfl, (hsf.setCell (p := ⟨w.heap.size + 1, 0, none⟩) (by simp) _).mono (by omega), hB.setCell (by simp) _⟩
end Go.Proofs.YtonlfnbjbmgegaaGreat
