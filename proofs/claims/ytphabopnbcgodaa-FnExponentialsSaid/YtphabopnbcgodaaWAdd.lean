/-
  Walks: AddSurreals, SubtractSurreals, NegateSurreal, ScaleSurreal.
-/
import Derived.Test.YtphabopnbcgodaaWMulFn
import Derived.Test.YtphabopnbcgodaaWSumZ
import Derived.Deep.RegionHeld3
namespace Go.Proofs.Ytphabopnbcgodaa
open Go.RowKit
set_option linter.unusedSimpArgs false
set_option linter.unusedVariables false

set_option maxHeartbeats 800000 in
theorem AddSurreals_any (x y : Sur) (X Y : Nat → Prop) (A A' : Option Addr) (c c' : Nat) (w : World) (sx : SSl X w x A c) (sy : SSl Y w y A' c') :
    Calls Try.prog 15 #[.agg #[.slice A x.len c], .agg #[.slice A' y.len c']] w (RetFreshB w (addS x y)) := by
  have sx := sx.more (Y := fun _ => False) (fun _ h => h.elim)
  have sy := sy.more (Y := fun _ => False) (fun _ h => h.elim)
  have k0 := (((Blk.new w 26 #[.slice A x.len c]).alloc (.cells #[.slice A' y.len c'] 26)).alloc (.cells #[.slice none 0 0] 26))
  have k1 := ((Blk.new' (g := w.heap.size + 1) (w.alloc (.cells #[.slice A x.len c] 26)) 26 #[.slice A' y.len c'] (by simp)).alloc (.cells #[.slice none 0 0] 26))
  have k2 := (Blk.new' (g := w.heap.size + 1 + 1) ((w.alloc (.cells #[.slice A x.len c] 26)).alloc (.cells #[.slice A' y.len c'] 26)) 26 #[.slice none 0 0] (by simp))
  have hB0 : Below w.heap.size w (((w.alloc (.cells #[.slice A x.len c] 26)).alloc (.cells #[.slice A' y.len c'] 26)).alloc (.cells #[.slice none 0 0] 26)) := by go_grown
  cases hg : (sGood x && sGood y)
  · have H := Lib.hid (show addS x y = none by simp only [addS, hg]; rfl)
    go_enter Try.func15, Try.ntmps15
    go_wp2_with fail
    refine (surreals_any x y _ _ _ _ _ _ _ (sx.below hB0) (sy.below hB0)).mono ?_
    rintro e1 w1 ⟨rfl, hb1⟩
    have hB1 := Below.call hB0 (by go_size) hb1
    obtain ⟨q2, qf2⟩ := (k2.call hb1).c1
    rw [hg]
    go_wp2
    refine bodyPost_ret (v := .tuple #[.agg #[.slice none 0 0], .bool false]) (by simp [results, Try.results15, go_sem, q2]) rfl ?_
    rw [H.out]
    exact ⟨none, 0, rfl, SFresh.nil _ _, hB1.setCell (by simp; omega) _⟩
  · have H := Lib.hid (show addS x y = (sumP x y).bind fun z => told z true by simp only [addS, hg]; rfl)
    have hgx := sGood_len (Bool.and_eq_true .. ▸ hg).1
    have hgy := sGood_len (Bool.and_eq_true .. ▸ hg).2
    go_enter Try.func15, Try.ntmps15
    go_wp2_with fail
    refine (surreals_any x y _ _ _ _ _ _ _ (sx.below hB0) (sy.below hB0)).mono ?_
    rintro e1 w1 ⟨rfl, hb1⟩
    have hB1 := Below.call hB0 (by go_size) hb1
    obtain ⟨q0, _⟩ := (k0.call hb1).c1
    obtain ⟨q1, _⟩ := (k1.call hb1).c1
    have l2 := k2.call hb1
    rw [hg]
    go_wp2_with fail
    refine (sum_any x y (fun _ => False) _ _ _ _ _ (fun _ h => h.elim) (sx.below hB1) (sy.below hB1) hgx.2.2 hgy.2.2 (by omega)).mono ?_
    rintro e2 w2 ⟨A2, c2, rfl, hs, hb2⟩
    have l22 := l2.call hb2
    have hB2 := hB1.trans (hb2.mono hB1.size)
    go_wp2_with fail
    refine (toldSurreal_any _ _ _ _ _ _ hs).mono ?_
    rintro e3 w3 ⟨A3, c3, rfl, hf, hb3⟩
    obtain ⟨r2, rf2⟩ := (l22.call hb3).c1
    have hB3 := hB2.trans (hb3.mono hB2.size)
    have hz := l22.lt
    have HE := Lib.hid (told_bind (sumP x y))
    go_wp2
    refine bodyPost_ret (v := .tuple #[.agg #[.slice A3 ((told ((sumP x y).getD .nil) (sumP x y).isSome).getD .nil).len c3], .bool (told ((sumP x y).getD .nil) (sumP x y).isSome).isSome]) (by simp [results, Try.results15, go_sem, r2]) rfl ?_
    rw [H.out, ← HE.out]
    exact ⟨A3, c3, rfl, (hf.setCell (p := ⟨w.heap.size + 1 + 1, 0, none⟩) hz _).mono hB2.size, hB3.setCell (by simp; omega) _⟩

theorem RetFreshB.mono' {w W : World} {o : Option Sur} {e : Ending} {w' : World} (h : RetFreshB W o e w') (hb : Below w.heap.size w W) : RetFreshB w o e w' := by
  obtain ⟨A, c, he, hf, hb'⟩ := h
  exact ⟨A, c, he, hf.mono hb.size, hb.trans (hb'.mono hb.size)⟩

set_option maxHeartbeats 1600000 in
theorem SubtractSurreals_any (x y : Sur) (X Y : Nat → Prop) (A A' : Option Addr) (c c' : Nat) (w : World) (sx : SSl X w x A c) (sy : SSl Y w y A' c') (hl : y.len ≤ 1099511627776) :
    Calls Try.prog 26 #[.agg #[.slice A x.len c], .agg #[.slice A' y.len c']] w (RetFreshB w (subS x y)) := by
  have sx := sx.more (Y := fun _ => False) (fun _ h => h.elim)
  have sy := sy.more (Y := fun _ => False) (fun _ h => h.elim)
  have k0 := (((Blk.new w 26 #[.slice A x.len c]).alloc (.cells #[.slice A' y.len c'] 26)).alloc (.cells #[.slice none 0 0] 26))
  have k1 := ((Blk.new' (g := w.heap.size + 1) (w.alloc (.cells #[.slice A x.len c] 26)) 26 #[.slice A' y.len c'] (by simp)).alloc (.cells #[.slice none 0 0] 26))
  have k2 := (Blk.new' (g := w.heap.size + 1 + 1) ((w.alloc (.cells #[.slice A x.len c] 26)).alloc (.cells #[.slice A' y.len c'] 26)) 26 #[.slice none 0 0] (by simp))
  have hB0 : Below w.heap.size w (((w.alloc (.cells #[.slice A x.len c] 26)).alloc (.cells #[.slice A' y.len c'] 26)).alloc (.cells #[.slice none 0 0] 26)) := by go_grown
  have hne : ¬ w.heap.size + 1 + 1 = w.heap.size := by omega
  go_enter Try.func26, Try.ntmps26
  go_wp2_with fail
  go_region_held3 (fun w' => w'.cell? ⟨w.heap.size, 0, none⟩ = some (.slice A x.len c) ∧ w'.cell? ⟨w.heap.size + 1, 0, none⟩ = some (.slice A' y.len c')) (go_keep)
    (first | (go_at_call 66; refine (negative_any y (fun _ => False) _ _ _ (fun _ h => h.elim) (sy.below (by go_grown)) hl).mono ?_; rintro e1 w1 ⟨A1, c1, rfl, hs1, hb1⟩; have l0 := Blk.thru k0 (by go_grown) hb1; have l1 := Blk.thru k1 (by go_grown) hb1; have l2 := Blk.thru k2 (by go_grown) hb1; obtain ⟨a0, _⟩ := l0.c1; obtain ⟨a1, _⟩ := l1.c1; have hB1 : Below w.heap.size w w1 := (hB0.trans (Below.call (w := _) (by go_grown) (by go_size) hb1))) | (go_at_call 15; refine (AddSurreals_any x (negP y) _ _ _ _ _ _ _ (sx.below hB1) hs1).mono ?_; rintro e2 w2 ⟨A2, c2, rfl, hf2, hb2⟩; obtain ⟨d0, _⟩ := (l0.call hb2).c1; obtain ⟨d1, _⟩ := (l1.call hb2).c1; obtain ⟨d2, df2⟩ := (l2.call hb2).c1; have z2 := (l2.call hb2).lt))
  go_wp2
  refine bodyPost_ret (v := .tuple #[.agg #[.slice A2 ((addS x (negP y)).getD .nil).len c2], .bool (addS x (negP y)).isSome]) (by simp [results, Try.results26, go_sem, d2]) rfl ?_
  exact ⟨A2, c2, rfl, (hf2.setCell (p := ⟨w.heap.size + 1 + 1, 0, none⟩) l2.lt _).mono hB1.size, (hB1.trans (hb2.mono hB1.size)).setCell (by simp; omega) _⟩

set_option maxHeartbeats 800000 in
theorem ScaleSurreal_any (x : Sur) (fa fb : Int) (X : Nat → Prop) (A : Option Addr) (c : Nat) (w : World) (sx : SSl X w x A c) :
    Calls Try.prog 92 #[.agg #[.slice A x.len c], .agg #[.int .i64 fa, .int .i64 fb]] w (RetFreshB w (scaleS x fa fb)) := by
  have sx := sx.more (Y := fun _ => False) (fun _ h => h.elim)
  have k0 := (((Blk.new w 26 #[.slice A x.len c]).alloc (.cells #[.int .i64 fa, .int .i64 fb] 29)).alloc (.cells #[.slice none 0 0] 26))
  have k1 := ((Blk.new' (g := w.heap.size + 1) (w.alloc (.cells #[.slice A x.len c] 26)) 29 #[.int .i64 fa, .int .i64 fb] (by simp)).alloc (.cells #[.slice none 0 0] 26))
  have k2 := (Blk.new' (g := w.heap.size + 1 + 1) ((w.alloc (.cells #[.slice A x.len c] 26)).alloc (.cells #[.int .i64 fa, .int .i64 fb] 29)) 26 #[.slice none 0 0] (by simp))
  have hB0 : Below w.heap.size w (((w.alloc (.cells #[.slice A x.len c] 26)).alloc (.cells #[.int .i64 fa, .int .i64 fb] 29)).alloc (.cells #[.slice none 0 0] 26)) := by go_grown
  cases hx : sGood x
  · have H := Lib.hid (show scaleS x fa fb = none by simp only [scaleS, hx]; rfl)
    go_enter Try.func92, Try.ntmps92
    go_wp2_with fail
    refine (IsSurreal_any x _ _ _ _ (sx.below hB0)).mono ?_
    rintro e1 w1 ⟨rfl, hb1⟩
    have hB1 := Below.call hB0 (by go_size) hb1
    obtain ⟨q2, qf2⟩ := (k2.call hb1).c1
    rw [hx]
    go_wp2
    refine bodyPost_ret (v := .tuple #[.agg #[.slice none 0 0], .bool false]) (by simp [results, Try.results92, go_sem, q2]) rfl ?_
    rw [H.out]
    exact ⟨none, 0, rfl, SFresh.nil _ _, hB1.setCell (by simp; omega) _⟩
  · have hgx := sGood_len hx
    cases hf : fracOk fa fb
    · have H := Lib.hid (show scaleS x fa fb = none by simp only [scaleS, hx, hf]; rfl)
      go_enter Try.func92, Try.ntmps92
      go_wp2_with fail
      refine (IsSurreal_any x _ _ _ _ (sx.below hB0)).mono ?_
      rintro e1 w1 ⟨rfl, hb1⟩
      have hB1 := Below.call hB0 (by go_size) hb1
      obtain ⟨p0, p1, _, _⟩ := (k1.call hb1).c2
      have l2 := k2.call hb1
      rw [hx]
      go_wp2_with fail
      refine (IsFraction_any fa fb _).mono ?_
      rintro e2 w2 ⟨rfl, hb2⟩
      have hB2 := hB1.trans (hb2.mono hB1.size)
      obtain ⟨q2, qf2⟩ := (l2.call hb2).c1
      rw [hf]
      go_wp2
      refine bodyPost_ret (v := .tuple #[.agg #[.slice none 0 0], .bool false]) (by simp [results, Try.results92, go_sem, q2]) rfl ?_
      rw [H.out]
      exact ⟨none, 0, rfl, SFresh.nil _ _, hB2.setCell (by simp; omega) _⟩
    · have H := Lib.hid (show scaleS x fa fb = (scaleP x fa fb).bind fun z => told z true by simp only [scaleS, hx, hf]; rfl)
      go_enter Try.func92, Try.ntmps92
      go_wp2_with fail
      refine (IsSurreal_any x _ _ _ _ (sx.below hB0)).mono ?_
      rintro e1 w1 ⟨rfl, hb1⟩
      have hB1 := Below.call hB0 (by go_size) hb1
      have l0 := k0.call hb1
      have l1 := k1.call hb1
      have l2 := k2.call hb1
      obtain ⟨p0, p1, _, _⟩ := l1.c2
      rw [hx]
      go_wp2_with fail
      refine (IsFraction_any fa fb _).mono ?_
      rintro e2 w2 ⟨rfl, hb2⟩
      have hB2 := hB1.trans (hb2.mono hB1.size)
      have m2 := l2.call hb2
      obtain ⟨q0, _⟩ := (l0.call hb2).c1
      obtain ⟨r0, r1, _, _⟩ := (l1.call hb2).c2
      rw [hf]
      go_wp2_with fail
      refine (scaled_any x fa fb (fun _ => False) _ _ _ (fun _ h => h.elim) (sx.below hB2) (by omega)).mono ?_
      rintro e3 w3 ⟨A3, c3, rfl, hs, hb3⟩
      have hB3 := hB2.trans (hb3.mono hB2.size)
      have m3 := m2.call hb3
      go_wp2_with fail
      refine (toldSurreal_any _ _ _ _ _ _ hs).mono ?_
      rintro e4 w4 ⟨A4, c4, rfl, hff, hb4⟩
      obtain ⟨s2, sf2⟩ := (m3.call hb4).c1
      have hB4 := hB3.trans (hb4.mono hB3.size)
      have hz := m3.lt
      have HE := Lib.hid (told_bind (scaleP x fa fb))
      go_wp2
      refine bodyPost_ret (v := .tuple #[.agg #[.slice A4 ((told ((scaleP x fa fb).getD .nil) (scaleP x fa fb).isSome).getD .nil).len c4], .bool (told ((scaleP x fa fb).getD .nil) (scaleP x fa fb).isSome).isSome]) (by simp [results, Try.results92, go_sem, s2]) rfl ?_
      rw [H.out, ← HE.out]
      exact ⟨A4, c4, rfl, (hff.setCell (p := ⟨w.heap.size + 1 + 1, 0, none⟩) hz _).mono hB3.size, hB4.setCell (by simp; omega) _⟩
end Go.Proofs.Ytphabopnbcgodaa
