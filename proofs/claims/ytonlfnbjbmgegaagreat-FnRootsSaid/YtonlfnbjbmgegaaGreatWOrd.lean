/-
  Walks: the order of two surreal numbers.
-/
import Derived.Test.YtonlfnbjbmgegaaGreatBA
namespace Go.Proofs.YtonlfnbjbmgegaaGreat
open Go.RowKit
set_option linter.unusedSimpArgs false
set_option linter.unusedVariables false

set_option maxHeartbeats 800000 in
set_option maxRecDepth 100000 in
theorem order_any (N : Nat) : ∀ (x y : Sur) (X Y : Nat → Prop) (A A' : Option Addr) (c c' : Nat) (w : World), x.nodes ≤ N → x.All Bd → y.All Bd → SSl X w x A c → SSl Y w y A' c' →
    Calls Tryz.prog 49 #[.agg #[.slice A x.len c], .agg #[.slice A' y.len c']] w fun e w' => e = .returned (.int .i64 (order x y)) ∧ Below w.heap.size w w' := by
  induction N with
  | zero => intro x y X Y A A' c c' w hN; have := x.len_lt_nodes; omega
  | succ N ih =>
    intro x y X Y A A' c c' w hN hx hy sx sy
    have IH := Lib.hid ih; clear ih
    have lx := sx.cap
    have lx' := sx.le
    have ly := sy.cap
    have ly' := sy.le
    unfold maxLen at lx ly
    go_enter Tryz.func49, Tryz.ntmps49
    go_wp2
    go_loopw [5] (fun s wr => ∃ k : Nat, s = .int .i64 k ∧ k ≤ x.len ∧ k ≤ y.len ∧ Hid (order x y = order (x.drop k) (y.drop k)) ∧ Below (w.heap.size + 2) ((w.alloc (.cells #[.slice A x.len c] 26)).alloc (.cells #[.slice A' y.len c'] 26)) wr) (fun s _ => x.len + y.len + 1 - (intOf s).toNat)
    case atStart => exact ⟨0, rfl, Nat.zero_le _, Nat.zero_le _, rfl, Below.refl _ _⟩
    case round =>
      obtain ⟨k, rfl, hkx, hky, ho, hb⟩ := hrel
      have hB : Below w.heap.size w wr := Below.trans (by go_grown) (hb.mono (by omega))
      have sx1 := sx.below hB
      have sy1 := sy.below hB
      have c0 : wr.cell? ⟨w.heap.size, 0, none⟩ = some (.slice A x.len c) := by rw [hb.cell (by simp)]; simp [go_sem]
      have c1 : wr.cell? ⟨w.heap.size + 1, 0, none⟩ = some (.slice A' y.len c') := by rw [hb.cell (by simp)]; simp [go_sem]
      have hz : w.heap.size + 1 < wr.heap.size := by have := hb.size; simp at this; omega
      have hz0 : w.heap.size < wr.heap.size := by omega
      by_cases h1 : k < x.len
      · by_cases h2 : k < y.len
        · obtain ⟨b, o, e, n, d, A1, d1, rfl, hxk, f0, f1, f2, se, _, _, _, hbl⟩ := sx1.at_ h1
          obtain ⟨b', o', e', n', d', A2, d2, rfl, hyk, g0, g1, g2, se', _, _, _, hbl'⟩ := sy1.at_ h2
          have e1 : ((k : Int) == (x.len : Int)) = false := by simp; omega
          have e2 : ((k : Int) == (y.len : Int)) = false := by simp; omega
          have hc := order_cons hxk hyk ho.out
          have Hx := Lib.hid hxk
          have Hy := Lib.hid hyk
          have hne := Sur.nodes_drop hxk
          have hae := Sur.all_drop hx hxk
          have hae' := Sur.all_drop hy hyk
          have HC := Lib.hid hc
          clear hc hxk hyk
          have r1 := cmpI_bd n 0
          have r2 := cmpI_bd n' 0
          go_wp2
          go_region
          all_goals
            go_wp2_with fail
            refine (IH.out e e' _ _ _ _ _ _ _ (by omega) hae.1 hae'.1 (se.below (by go_grown)) (se'.below (by go_grown))).mono ?_
            rintro e1 w1 ⟨rfl, hb1⟩
            obtain ⟨hc1, hf1⟩ := bcell hb1
            have hz1 := hb1.size
            simp only [World.size_alloc, World.size_setCell, World.size_drew] at hz1
            rcases order_range e e' with q | q | q
            all_goals rw [q]
            · go_wp2_with (go_at_call 100; refine (compare_any _ _ _).mono ?_; rintro e w' ⟨rfl, rfl⟩)
              go_ret
              exact ⟨by rw [HC.out.2.1 q]; rfl, Below.call (by go_grown) (by go_size) hb1⟩
            · go_wp2_with fail
              refine (cmpFractions_any _ _ _ _ hae.2.1 hae'.2.1 _).mono ?_
              rintro e2 w2 ⟨rfl, hb2⟩
              have hw2 : Below w.heap.size w w2 := Below.call (Below.call (by go_grown) (by go_size) hb1) (by omega) hb2
              have hw3 : Below (w.heap.size + 2) wr w2 := Below.call (Below.call (by go_grown) (by go_size) hb1) (by omega) hb2
              by_cases q2 : cmpF n d n' d' = 0
              · have e00 : (cmpF n d n' d' == 0) = true := by simpa using q2
                have HN := Lib.hid (HC.out.2.2.2 q q2)
                clear q2 q
                go_wp2
                exact ⟨⟨k + 1, by go_num, by omega, by omega, HN, hb.trans hw3⟩, by simp [intOf]; omega⟩
              · have e00 : (cmpF n d n' d' == 0) = false := by simpa using q2
                have HN := Lib.hid (HC.out.2.2.1 q q2)
                clear q2 q
                go_wp2
                go_ret
                exact ⟨by rw [HN.out]; rfl, hw2⟩
            · go_wp2_with (go_at_call 100; refine (compare_any _ _ _).mono ?_; rintro e w' ⟨rfl, rfl⟩)
              go_ret
              exact ⟨by rw [HC.out.1 q]; rfl, Below.call (by go_grown) (by go_size) hb1⟩
        · obtain ⟨b, o, e, n, d, A1, d1, rfl, hxk, f0, f1, f2, se, _, _, _, hbl⟩ := sx1.at_ h1
          obtain rfl : k = y.len := by omega
          have hfin : order x y = cmpI n 0 := by rw [ho.out, hxk, y.drop_of_ge _ (Nat.le_refl _)]; rfl
          have HN := Lib.hid hfin
          clear hfin hxk
          have e1 : ((y.len : Int) == (x.len : Int)) = false := by simp; omega
          go_wp2_with (go_at_call 100; refine (compare_any _ _ _).mono ?_; rintro e w' ⟨rfl, rfl⟩)
          go_ret
          exact ⟨by rw [HN.out]; rfl, hB⟩
      · by_cases h2 : k < y.len
        · obtain ⟨b', o', e', n', d', A2, d2, rfl, hyk, g0, g1, g2, se', _, _, _, hbl'⟩ := sy1.at_ h2
          obtain rfl : k = x.len := by omega
          have hfin : order x y = -cmpI n' 0 := by rw [ho.out, hyk, x.drop_of_ge _ (Nat.le_refl _)]; rfl
          have HN := Lib.hid hfin
          clear hfin hyk
          have r2 := cmpI_bd n' 0
          go_wp2_with (go_at_call 100; refine (compare_any _ _ _).mono ?_; rintro e w' ⟨rfl, rfl⟩)
          go_ret
          exact ⟨by rw [HN.out]; rfl, hB⟩
        · have hfin : order x y = 0 := by rw [ho.out, x.drop_of_ge _ (by omega), y.drop_of_ge _ (by omega)]; rfl
          have HN := Lib.hid hfin
          clear hfin
          go_wp2
          go_ret
          exact ⟨by rw [HN.out]; rfl, hB⟩

end Go.Proofs.YtonlfnbjbmgegaaGreat
