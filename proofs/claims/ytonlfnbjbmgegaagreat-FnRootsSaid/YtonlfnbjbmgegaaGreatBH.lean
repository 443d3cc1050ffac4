/-
  Walks: AddSurreals, SubtractSurreals, NegateSurreal, ScaleSurreal.
  Walks: MultiplySurreals.
-/
import Derived.Test.YtonlfnbjbmgegaaGreatBD
import Derived.Test.YtonlfnbjbmgegaaGreatWSumZ
import Derived.Deep.RegionHeld3
import Derived.Deep.DeepCutAuto
namespace Go.Proofs.YtonlfnbjbmgegaaGreat
open Go.RowKit
set_option linter.unusedSimpArgs false
set_option linter.unusedVariables false

set_option maxHeartbeats 800000 in
theorem AddSurreals_any (x y : Sur) (X Y : Nat → Prop) (A A' : Option Addr) (c c' : Nat) (w : World) (sx : SSl X w x A c) (sy : SSl Y w y A' c') :
    Calls Tryz.prog 11 #[.agg #[.slice A x.len c], .agg #[.slice A' y.len c']] w (RetFreshB w (addS x y)) := by
  have sx := sx.more (Y := fun _ => False) (fun _ h => h.elim)
  have sy := sy.more (Y := fun _ => False) (fun _ h => h.elim)
  have k0 := (((Blk.new w 26 #[.slice A x.len c]).alloc (.cells #[.slice A' y.len c'] 26)).alloc (.cells #[.slice none 0 0] 26))
  have k1 := ((Blk.new' (g := w.heap.size + 1) (w.alloc (.cells #[.slice A x.len c] 26)) 26 #[.slice A' y.len c'] (by simp)).alloc (.cells #[.slice none 0 0] 26))
  have k2 := (Blk.new' (g := w.heap.size + 1 + 1) ((w.alloc (.cells #[.slice A x.len c] 26)).alloc (.cells #[.slice A' y.len c'] 26)) 26 #[.slice none 0 0] (by simp))
  have hB0 : Below w.heap.size w (((w.alloc (.cells #[.slice A x.len c] 26)).alloc (.cells #[.slice A' y.len c'] 26)).alloc (.cells #[.slice none 0 0] 26)) := by go_grown
  cases hg : (sGood x && sGood y)
  · have H := Lib.hid (show addS x y = none by simp only [addS, hg]; rfl)
    go_enter Tryz.func11, Tryz.ntmps11
    go_wp2_with fail
    refine (surreals_any x y _ _ _ _ _ _ _ (sx.below hB0) (sy.below hB0)).mono ?_
    rintro e1 w1 ⟨rfl, hb1⟩
    have hB1 := Below.call hB0 (by go_size) hb1
    obtain ⟨q2, qf2⟩ := (k2.call hb1).c1
    rw [hg]
    go_wp2
    refine bodyPost_ret (v := .tuple #[.agg #[.slice none 0 0], .bool false]) (by simp [results, Tryz.results11, go_sem, q2]) rfl ?_
    rw [H.out]
    exact ⟨none, 0, rfl, SFresh.nil _ _, hB1.setCell (by simp; omega) _⟩
  · have H := Lib.hid (show addS x y = (sumP x y).bind fun z => told z true by simp only [addS, hg]; rfl)
    have hgx := sGood_len (Bool.and_eq_true .. ▸ hg).1
    have hgy := sGood_len (Bool.and_eq_true .. ▸ hg).2
    go_enter Tryz.func11, Tryz.ntmps11
    go_wp2_with fail
    refine (surreals_any x y _ _ _ _ _ _ _ (sx.below hB0) (sy.below hB0)).mono ?_
    rintro e1 w1 ⟨rfl, hb1⟩
    have hB1 := Below.call hB0 (by go_size) hb1
    obtain ⟨q0, _⟩ := (k0.call hb1).c1
    obtain ⟨q1, _⟩ := (k1.call hb1).c1
    have l2 := k2.call hb1
    rw [hg]
    go_wp2_with fail
    refine (sum_any x y (fun _ => False) _ _ _ _ _ (fun _ h => h.elim) (sx.below hB1) (sy.below hB1) hgx.2.2 hgy.2.2 (by omega)).mono ?_
    rintro e2 w2 ⟨A2, c2, rfl, hs, hb2⟩
    have l22 := l2.call hb2
    have hB2 := hB1.trans (hb2.mono hB1.size)
    go_wp2_with fail
    refine (toldSurreal_any _ _ _ _ _ _ hs).mono ?_
    rintro e3 w3 ⟨A3, c3, rfl, hf, hb3⟩
    obtain ⟨r2, rf2⟩ := (l22.call hb3).c1
    have hB3 := hB2.trans (hb3.mono hB2.size)
    have hz := l22.lt
    have HE := Lib.hid (told_bind (sumP x y))
    go_wp2
    refine bodyPost_ret (v := .tuple #[.agg #[.slice A3 ((told ((sumP x y).getD .nil) (sumP x y).isSome).getD .nil).len c3], .bool (told ((sumP x y).getD .nil) (sumP x y).isSome).isSome]) (by simp [results, Tryz.results11, go_sem, r2]) rfl ?_
    rw [H.out, ← HE.out]
    exact ⟨A3, c3, rfl, (hf.setCell (p := ⟨w.heap.size + 1 + 1, 0, none⟩) hz _).mono hB2.size, hB3.setCell (by simp; omega) _⟩

theorem RetFreshB.mono' {w W : World} {o : Option Sur} {e : Ending} {w' : World} (h : RetFreshB W o e w') (hb : Below w.heap.size w W) : RetFreshB w o e w' := by
  obtain ⟨A, c, he, hf, hb'⟩ := h
  exact ⟨A, c, he, hf.mono hb.size, hb.trans (hb'.mono hb.size)⟩

set_option maxHeartbeats 1600000 in
theorem SubtractSurreals_any (x y : Sur) (X Y : Nat → Prop) (A A' : Option Addr) (c c' : Nat) (w : World) (sx : SSl X w x A c) (sy : SSl Y w y A' c') (hl : y.len ≤ 1099511627776) :
    Calls Tryz.prog 88 #[.agg #[.slice A x.len c], .agg #[.slice A' y.len c']] w (RetFreshB w (subS x y)) := by
  have sx := sx.more (Y := fun _ => False) (fun _ h => h.elim)
  have sy := sy.more (Y := fun _ => False) (fun _ h => h.elim)
  have k0 := (((Blk.new w 26 #[.slice A x.len c]).alloc (.cells #[.slice A' y.len c'] 26)).alloc (.cells #[.slice none 0 0] 26))
  have k1 := ((Blk.new' (g := w.heap.size + 1) (w.alloc (.cells #[.slice A x.len c] 26)) 26 #[.slice A' y.len c'] (by simp)).alloc (.cells #[.slice none 0 0] 26))
  have k2 := (Blk.new' (g := w.heap.size + 1 + 1) ((w.alloc (.cells #[.slice A x.len c] 26)).alloc (.cells #[.slice A' y.len c'] 26)) 26 #[.slice none 0 0] (by simp))
  have hB0 : Below w.heap.size w (((w.alloc (.cells #[.slice A x.len c] 26)).alloc (.cells #[.slice A' y.len c'] 26)).alloc (.cells #[.slice none 0 0] 26)) := by go_grown
  have hne : ¬ w.heap.size + 1 + 1 = w.heap.size := by omega
  go_enter Tryz.func88, Tryz.ntmps88
  go_wp2_with fail
  go_region_held3 (fun w' => w'.cell? ⟨w.heap.size, 0, none⟩ = some (.slice A x.len c) ∧ w'.cell? ⟨w.heap.size + 1, 0, none⟩ = some (.slice A' y.len c')) (go_keep)
    (first | (go_at_call 128; refine (negative_any y (fun _ => False) _ _ _ (fun _ h => h.elim) (sy.below (by go_grown)) hl).mono ?_; rintro e1 w1 ⟨A1, c1, rfl, hs1, hb1⟩; have l0 := Blk.thru k0 (by go_grown) hb1; have l1 := Blk.thru k1 (by go_grown) hb1; have l2 := Blk.thru k2 (by go_grown) hb1; obtain ⟨a0, _⟩ := l0.c1; obtain ⟨a1, _⟩ := l1.c1; have hB1 : Below w.heap.size w w1 := (hB0.trans (Below.call (w := _) (by go_grown) (by go_size) hb1))) | (go_at_call 11; refine (AddSurreals_any x (negP y) _ _ _ _ _ _ _ (sx.below hB1) hs1).mono ?_; rintro e2 w2 ⟨A2, c2, rfl, hf2, hb2⟩; obtain ⟨d0, _⟩ := (l0.call hb2).c1; obtain ⟨d1, _⟩ := (l1.call hb2).c1; obtain ⟨d2, df2⟩ := (l2.call hb2).c1; have z2 := (l2.call hb2).lt))
  go_wp2
  refine bodyPost_ret (v := .tuple #[.agg #[.slice A2 ((addS x (negP y)).getD .nil).len c2], .bool (addS x (negP y)).isSome]) (by simp [results, Tryz.results88, go_sem, d2]) rfl ?_
  exact ⟨A2, c2, rfl, (hf2.setCell (p := ⟨w.heap.size + 1 + 1, 0, none⟩) l2.lt _).mono hB1.size, (hB1.trans (hb2.mono hB1.size)).setCell (by simp; omega) _⟩

set_option maxHeartbeats 800000 in
theorem ScaleSurreal_any (x : Sur) (fa fb : Int) (X : Nat → Prop) (A : Option Addr) (c : Nat) (w : World) (sx : SSl X w x A c) :
    Calls Tryz.prog 123 #[.agg #[.slice A x.len c], .agg #[.int .i64 fa, .int .i64 fb]] w (RetFreshB w (scaleS x fa fb)) := by
  have sx := sx.more (Y := fun _ => False) (fun _ h => h.elim)
  have k0 := (((Blk.new w 26 #[.slice A x.len c]).alloc (.cells #[.int .i64 fa, .int .i64 fb] 68)).alloc (.cells #[.slice none 0 0] 26))
  have k1 := ((Blk.new' (g := w.heap.size + 1) (w.alloc (.cells #[.slice A x.len c] 26)) 68 #[.int .i64 fa, .int .i64 fb] (by simp)).alloc (.cells #[.slice none 0 0] 26))
  have k2 := (Blk.new' (g := w.heap.size + 1 + 1) ((w.alloc (.cells #[.slice A x.len c] 26)).alloc (.cells #[.int .i64 fa, .int .i64 fb] 68)) 26 #[.slice none 0 0] (by simp))
  have hB0 : Below w.heap.size w (((w.alloc (.cells #[.slice A x.len c] 26)).alloc (.cells #[.int .i64 fa, .int .i64 fb] 68)).alloc (.cells #[.slice none 0 0] 26)) := by go_grown
  cases hx : sGood x
  · have H := Lib.hid (show scaleS x fa fb = none by simp only [scaleS, hx]; rfl)
    go_enter Tryz.func123, Tryz.ntmps123
    go_wp2_with fail
    refine (IsSurreal_any x _ _ _ _ (sx.below hB0)).mono ?_
    rintro e1 w1 ⟨rfl, hb1⟩
    have hB1 := Below.call hB0 (by go_size) hb1
    obtain ⟨q2, qf2⟩ := (k2.call hb1).c1
    rw [hx]
    go_wp2
    refine bodyPost_ret (v := .tuple #[.agg #[.slice none 0 0], .bool false]) (by simp [results, Tryz.results123, go_sem, q2]) rfl ?_
    rw [H.out]
    exact ⟨none, 0, rfl, SFresh.nil _ _, hB1.setCell (by simp; omega) _⟩
  · have hgx := sGood_len hx
    cases hf : fracOk fa fb
    · have H := Lib.hid (show scaleS x fa fb = none by simp only [scaleS, hx, hf]; rfl)
      go_enter Tryz.func123, Tryz.ntmps123
      go_wp2_with fail
      refine (IsSurreal_any x _ _ _ _ (sx.below hB0)).mono ?_
      rintro e1 w1 ⟨rfl, hb1⟩
      have hB1 := Below.call hB0 (by go_size) hb1
      obtain ⟨p0, p1, _, _⟩ := (k1.call hb1).c2
      have l2 := k2.call hb1
      rw [hx]
      go_wp2_with fail
      refine (IsFraction_any fa fb _).mono ?_
      rintro e2 w2 ⟨rfl, hb2⟩
      have hB2 := hB1.trans (hb2.mono hB1.size)
      obtain ⟨q2, qf2⟩ := (l2.call hb2).c1
      rw [hf]
      go_wp2
      refine bodyPost_ret (v := .tuple #[.agg #[.slice none 0 0], .bool false]) (by simp [results, Tryz.results123, go_sem, q2]) rfl ?_
      rw [H.out]
      exact ⟨none, 0, rfl, SFresh.nil _ _, hB2.setCell (by simp; omega) _⟩
    · have H := Lib.hid (show scaleS x fa fb = (scaleP x fa fb).bind fun z => told z true by simp only [scaleS, hx, hf]; rfl)
      go_enter Tryz.func123, Tryz.ntmps123
      go_wp2_with fail
      refine (IsSurreal_any x _ _ _ _ (sx.below hB0)).mono ?_
      rintro e1 w1 ⟨rfl, hb1⟩
      have hB1 := Below.call hB0 (by go_size) hb1
      have l0 := k0.call hb1
      have l1 := k1.call hb1
      have l2 := k2.call hb1
      obtain ⟨p0, p1, _, _⟩ := l1.c2
      rw [hx]
      go_wp2_with fail
      refine (IsFraction_any fa fb _).mono ?_
      rintro e2 w2 ⟨rfl, hb2⟩
      have hB2 := hB1.trans (hb2.mono hB1.size)
      have m2 := l2.call hb2
      obtain ⟨q0, _⟩ := (l0.call hb2).c1
      obtain ⟨r0, r1, _, _⟩ := (l1.call hb2).c2
      rw [hf]
      go_wp2_with fail
      refine (scaled_any x fa fb (fun _ => False) _ _ _ (fun _ h => h.elim) (sx.below hB2) (by omega)).mono ?_
      rintro e3 w3 ⟨A3, c3, rfl, hs, hb3⟩
      have hB3 := hB2.trans (hb3.mono hB2.size)
      have m3 := m2.call hb3
      go_wp2_with fail
      refine (toldSurreal_any _ _ _ _ _ _ hs).mono ?_
      rintro e4 w4 ⟨A4, c4, rfl, hff, hb4⟩
      obtain ⟨s2, sf2⟩ := (m3.call hb4).c1
      have hB4 := hB3.trans (hb4.mono hB3.size)
      have hz := m3.lt
      have HE := Lib.hid (told_bind (scaleP x fa fb))
      go_wp2
      refine bodyPost_ret (v := .tuple #[.agg #[.slice A4 ((told ((scaleP x fa fb).getD .nil) (scaleP x fa fb).isSome).getD .nil).len c4], .bool (told ((scaleP x fa fb).getD .nil) (scaleP x fa fb).isSome).isSome]) (by simp [results, Tryz.results123, go_sem, s2]) rfl ?_
      rw [H.out, ← HE.out]
      exact ⟨A4, c4, rfl, (hff.setCell (p := ⟨w.heap.size + 1 + 1, 0, none⟩) hz _).mono hB3.size, hB4.setCell (by simp; omega) _⟩
end Go.Proofs.YtonlfnbjbmgegaaGreat

namespace Go.Proofs.YtonlfnbjbmgegaaGreat
open Go.RowKit
set_option linter.unusedSimpArgs false
set_option linter.unusedVariables false

/-- the outer loop: what was made of the first terms -/
def MulAt (x y : Sur) (i : Nat) (out : Sur) : Prop := mulOut y x .nil = mulOut y (x.drop i) out
theorem MulAt.next {x y : Sur} {i : Nat} {out nx e : Sur} {n d : Int} (h : MulAt x y i out) (hx : x.drop i = .cons e n d (x.drop (i + 1))) (hn : mulIn e n d y out = some nx) : MulAt x y (i + 1) nx := by
  unfold MulAt at *
  rw [h, hx, mulOut, hn]; rfl
theorem MulAt.fail {x y : Sur} {i : Nat} {out e : Sur} {n d : Int} (h : MulAt x y i out) (hx : x.drop i = .cons e n d (x.drop (i + 1))) (hn : mulIn e n d y out = none) : mulOut y x .nil = none := by
  unfold MulAt at h
  rw [h, hx, mulOut, hn]; rfl
theorem MulAt.done {x y : Sur} {i : Nat} {out : Sur} (h : MulAt x y i out) (hi : x.len ≤ i) : mulOut y x .nil = some out := by
  unfold MulAt at h
  rw [h, x.drop_of_ge i hi]; rfl

theorem SSl.thru {X : Nat → Prop} {w W w1 : World} {e : Sur} {A : Option Addr} {c : Nat} (h : SSl X w e A c) (hW : Below w.heap.size w W) (hb : Below W.heap.size W w1) : SSl X w1 e A c := h.below (hW.trans (hb.mono hW.size))
/-- what of X was there -/
def Was (X : Nat → Prop) (w : World) : Nat → Prop := fun k => X k ∧ k < w.heap.size
theorem sum_any' (x y : Sur) (X : Nat → Prop) (A A' : Option Addr) (c c' : Nat) (w : World) (sx : SSl X w x A c) (sy : SSl X w y A' c') (hx : x.All FOk) (hy : y.All FOk) (hl : x.len + y.len ≤ 1099511627776) :
    Calls Tryz.prog 48 #[.agg #[.slice A x.len c], .agg #[.slice A' y.len c']] w (RetSh (Was X w) w (sumP x y)) :=
  sum_any x y (Was X w) A A' c c' w (fun _ h => h.2) (sx.more fun _ h _ => h.1) (sy.more fun _ h _ => h.1) hx hy hl
theorem term_any' (x : Sur) (n d : Int) (X : Nat → Prop) (A : Option Addr) (c : Nat) (w : World) (sx : SSl X w x A c) (in_ : I64 n) (id_ : I64 d) :
    Calls Tryz.prog 56 #[.agg #[.slice A x.len c], .agg #[.int .i64 n, .int .i64 d]] w (RetS (Was X w) w (termP x n d)) :=
  term_any x n d (Was X w) A c w (fun _ h => h.2) (sx.more fun _ h _ => h.1) in_ id_
/-- blocks of the call's own: X; G, if it was there ahead of the term; and the next one behind it -/
def Own3 (X : Nat → Prop) (G : Nat) (Wc w7 : World) : Nat → Prop := fun k => X k ∨ (k = G ∧ G < Wc.heap.size) ∨ k = w7.heap.size
theorem SSl.ofTerm {X : Nat → Prop} {G : Nat} {Wc w7 : World} {x : Sur} {A : Option Addr} {c : Nat} (h : SSl (Was (fun k => X k ∨ k = G) Wc) w7 x A c) (hX : ∀ k, X k → k < Wc.heap.size) : SSl (Own3 X G Wc w7) w7 x A c :=
  h.more fun k hk hlt => by
    rcases hk with h1 | ⟨h1, h2⟩ | h1
    · exact ⟨.inl h1, hX k h1⟩
    · exact ⟨.inr h1, by omega⟩
    · omega
theorem SSl.ofOld {X : Nat → Prop} {G : Nat} {wr Wc w7 : World} {x : Sur} {A : Option Addr} {c : Nat} (h : SSl X wr x A c) (hG : wr.heap.size ≤ G) (h7 : Below wr.heap.size wr w7) : SSl (Own3 X G Wc w7) w7 x A c :=
  (h.more (Y := Own3 X G Wc w7) fun k hk hlt => by
    rcases hk with h1 | ⟨h1, h2⟩ | h1
    · exact h1
    · omega
    · have := h7.size; omega).below h7

theorem SSl.fin {X : Nat → Prop} {G : Nat} {Wc w7 Wd w8 : World} {x : Sur} {A : Option Addr} {c : Nat} (h : SSl (Was (Own3 X G Wc w7) Wd) w8 x A c) (hX : ∀ k, X k → k < Wd.heap.size) : SSl X w8 x A c :=
  h.more fun k hk _ => ⟨.inl hk, hX k hk⟩
theorem SSl.finB {X : Nat → Prop} {G : Nat} {Wc w7 Wd w8 : World} {x : Sur} {A : Option Addr} {c : Nat} (h : SSl (Was (Own3 X G Wc w7) Wd) w8 x A c) (hX : ∀ k, X k → k < Wd.heap.size) (h1 : G < Wc.heap.size) (h2 : G < Wd.heap.size) (u : Value) : SSl X (w8.setCell ⟨G, 0, none⟩ u) x A c :=
  (h.far (p := ⟨G, 0, none⟩) ⟨.inr (.inl ⟨rfl, h1⟩), h2⟩ u).more fun k hk _ => ⟨.inl hk, hX k hk⟩
theorem SSl.finC {X : Nat → Prop} {G : Nat} {Wc w7 Wd w8 : World} {x : Sur} {A : Option Addr} {c : Nat} (h : SSl (Was (Own3 X G Wc w7) Wd) w8 x A c) (hX : ∀ k, X k → k < Wd.heap.size) (h1 : w7.heap.size < Wd.heap.size) (u : Value) : SSl X (w8.setCell ⟨w7.heap.size, 0, none⟩ u) x A c :=
  (h.far (p := ⟨w7.heap.size, 0, none⟩) ⟨.inr (.inr rfl), h1⟩ u).more fun k hk _ => ⟨.inl hk, hX k hk⟩

set_option maxHeartbeats 3200000 in
set_option maxRecDepth 100000 in
theorem MultiplySurreals_any (x y : Sur) (X Y : Nat → Prop) (A A' : Option Addr) (c c' : Nat) (w : World) (sx : SSl X w x A c) (sy : SSl Y w y A' c') :
    Calls Tryz.prog 15 #[.agg #[.slice A x.len c], .agg #[.slice A' y.len c']] w (RetFreshB w (mulS x y)) := by
  have sx := sx.more (Y := fun _ => False) (fun _ h => h.elim)
  have sy := sy.more (Y := fun _ => False) (fun _ h => h.elim)
  have lx := sx.cap
  have lx' := sx.le
  have ly := sy.cap
  have ly' := sy.le
  unfold maxLen at lx ly
  have k0 := (((Blk.new w 26 #[.slice A x.len c]).alloc (.cells #[.slice A' y.len c'] 26)).alloc (.cells #[.slice none 0 0] 26))
  have k1 := ((Blk.new' (g := w.heap.size + 1) (w.alloc (.cells #[.slice A x.len c] 26)) 26 #[.slice A' y.len c'] (by simp)).alloc (.cells #[.slice none 0 0] 26))
  have k2 := (Blk.new' (g := w.heap.size + 1 + 1) ((w.alloc (.cells #[.slice A x.len c] 26)).alloc (.cells #[.slice A' y.len c'] 26)) 26 #[.slice none 0 0] (by simp))
  have hB0 : Below w.heap.size w (((w.alloc (.cells #[.slice A x.len c] 26)).alloc (.cells #[.slice A' y.len c'] 26)).alloc (.cells #[.slice none 0 0] 26)) := by go_grown
  cases hg : (sGood x && sGood y)
  · have H := Lib.hid (show mulS x y = none by simp only [mulS, hg]; rfl)
    go_enter Tryz.func15, Tryz.ntmps15
    go_wp2_with fail
    refine (surreals_any x y _ _ _ _ _ _ _ (sx.below hB0) (sy.below hB0)).mono ?_
    rintro e1 w1 ⟨rfl, hb1⟩
    have hB1 := Below.call hB0 (by go_size) hb1
    obtain ⟨q2, qf2⟩ := (k2.call hb1).c1
    rw [hg]
    go_wp2
    refine bodyPost_ret (v := .tuple #[.agg #[.slice none 0 0], .bool false]) (by simp [results, Tryz.results15, go_sem, q2]) rfl ?_
    rw [H.out]
    exact ⟨none, 0, rfl, SFresh.nil _ _, hB1.setCell (by simp; omega) _⟩
  · have H := Lib.hid (show mulS x y = (mulOut y x .nil).bind fun z => told z true by simp only [mulS, hg]; rfl)
    have hgx := sGood_len (Bool.and_eq_true .. ▸ hg).1
    have hgy := sGood_len (Bool.and_eq_true .. ▸ hg).2
    have tx := sx.low
    have ty := sy.low
    go_enter Tryz.func15, Tryz.ntmps15
    go_wp2_with fail
    refine (surreals_any x y _ _ _ _ _ _ _ (sx.below hB0) (sy.below hB0)).mono ?_
    rintro e1 w1 ⟨rfl, hb1⟩
    have hB1 := Below.call hB0 (by go_size) hb1
    have l0 := k0.call hb1
    have l1 := k1.call hb1
    have l2 := k2.call hb1
    have z2 := l2.lt
    have z1 := l1.lt
    have z0 := l0.lt
    obtain ⟨q0, _⟩ := l0.c1
    obtain ⟨q1, _⟩ := l1.c1
    rw [hg]
    clear hg sx sy
    go_wp2
    go_loopw [26] (fun s wr => ∃ (i : Nat) (Ao : Option Addr) (co : Nat) (out : Sur), s = .int .i64 i ∧ i ≤ x.len ∧ out.len ≤ 60 * i ∧ out.All FOk ∧
        Blk wr w.heap.size 26 #[.slice A x.len c] ∧ Blk wr (w.heap.size + 1) 26 #[.slice A' y.len c'] ∧ Blk wr (w.heap.size + 1 + 1) 26 #[.slice none 0 0] ∧ Blk wr w1.heap.size 26 #[.slice Ao out.len co] ∧
        SSl (fun k => k = w1.heap.size ∨ k = w.heap.size + 1 + 1) wr out Ao co ∧ Hid (MulAt x y i out) ∧ Below w.heap.size w wr) (fun s _ => x.len - (intOf s).toNat)
    case atStart => exact ⟨0, none, 0, .nil, rfl, Nat.zero_le _, by simp [Sur.len], trivial, l0.alloc _, l1.alloc _, l2.alloc _, Blk.new _ _ _, SSl.nil _ _, rfl, by go_grown⟩
    case round =>
      obtain ⟨i, Ao, co, out, rfl, hi, hol, hoa, m0, m1, m2, m3, so, HS, hB⟩ := hrel
      clear k0 k1 k2 hB0 hB1 l0 l1 l2 q0 q1
      obtain ⟨p0, _⟩ := m0.c1
      obtain ⟨p1, _⟩ := m1.c1
      obtain ⟨p2, pf2⟩ := m2.c1
      obtain ⟨p3, pf3⟩ := m3.c1
      have z3 := m3.lt
      have y2 := m2.lt
      have y1 := m1.lt
      have y0 := m0.lt
      have hi0' : (0 : Int) ≤ (i : Int) := by omega
      by_cases h1 : i < x.len
      · obtain ⟨b, o, e, n, d, A1, d1, rfl, hxk, f0, f1, f2, se, in_, id_, hXb, hbl⟩ := (tx.lowTo (Below.refl _ _) hB).at_ h1
        have HXK := Lib.hid hxk
        clear hxk
        go_wp2
        obtain ⟨wo, rfl⟩ : ∃ wo : World, wo = wr := ⟨_, rfl⟩
        have hzo : w1.heap.size < wo.heap.size := z3
        have kt := Blk.new wo 70 #[.slice A1 e.len d1, .int .i64 n, .int .i64 d]
        go_loopw [33] (fun s wr => ∃ (k : Nat) (Ap : Option Addr) (cp : Nat) (ou : Sur), s = .int .i64 k ∧ k ≤ y.len ∧ ou.len ≤ 60 * i + k ∧ ou.All FOk ∧
            Blk wr w.heap.size 26 #[.slice (some ⟨b, o, none⟩) x.len c] ∧ Blk wr (w.heap.size + 1) 26 #[.slice A' y.len c'] ∧ Blk wr (w.heap.size + 1 + 1) 26 #[.slice none 0 0] ∧ Blk wr w1.heap.size 26 #[.slice Ap ou.len cp] ∧
            Blk wr wo.heap.size 70 #[.slice A1 e.len d1, .int .i64 n, .int .i64 d] ∧
            SSl (fun k => k = w1.heap.size ∨ k = w.heap.size + 1 + 1) wr ou Ap cp ∧ Hid (mulIn e n d y out = mulIn e n d (y.drop k) ou) ∧ Below w.heap.size w wr) (fun s _ => y.len - (intOf s).toNat)
        case atStart => exact ⟨0, Ao, co, out, rfl, Nat.zero_le _, by omega, hoa, m0.alloc _, m1.alloc _, m2.alloc _, m3.alloc _, kt, so.below (by go_grown), rfl, hB.alloc hB.size _⟩
        case round =>
          obtain ⟨k, Ap, cp, ou, rfl, hk, hpl, hpa, n0, n1, n2, n3, n4, sp, HI, hC⟩ := hrel
          clear m0 m1 m2 m3 p0 p1 p2 pf2 p3 pf3 z3 y2 y1 y0 so kt f0 f1 f2 hoa
          obtain ⟨p0, _⟩ := n0.c1
          obtain ⟨p1, _⟩ := n1.c1
          obtain ⟨p2, pf2⟩ := n2.c1
          obtain ⟨p3, pf3⟩ := n3.c1
          obtain ⟨p4, p5, p6, _, _, _⟩ := n4.c3
          have y4 := n4.lt
          have y3 := n3.lt
          have y2 := n2.lt
          have y1 := n1.lt
          have y0 := n0.lt
          have hk0' : (0 : Int) ≤ (k : Int) := by omega
          have hse := se.lowTo hB hC
          by_cases h2 : k < y.len
          · obtain ⟨b', o', e', n', d', A2, d2, rfl, hyk, g0, g1, g2, se', in', id', hXb', hbl'⟩ := (ty.lowTo (Below.refl _ _) hC).at_ h2
            have HST := Lib.hid (mulIn_step (e := e) (n := n) (d := d) (out := ou) hyk)
            clear hyk
            go_wp2_with fail
            refine (AddSurreals_any e e' _ _ _ _ _ _ _ (hse.below (by go_grown)) (se'.below (by go_grown))).mono ?_
            rintro e2 w2 ⟨Az, cz, rfl, hz, hb2⟩
            have hC2 : Below w.heap.size w w2 := hC.trans (Below.call (w := wr) (by go_grown) (by go_size) hb2)
            have r0 := Blk.thru n0 (by go_grown) hb2
            have r1 := Blk.thru n1 (by go_grown) hb2
            have r2 := Blk.thru n2 (by go_grown) hb2
            have r3 := Blk.thru n3 (by go_grown) hb2
            have r4 := Blk.thru n4 (by go_grown) hb2
            have r5 := (Blk.new wr 70 #[.slice A2 e'.len d2, .int .i64 n', .int .i64 d']).call hb2
            have sp2 := sp.thru (by go_grown) hb2
            obtain ⟨j4, j5, j6, _, _, _⟩ := r4.c3
            obtain ⟨j7, j8, j9, _, _, _⟩ := r5.c3
            have z5 := r5.lt
            have z4 := r4.lt
            have z3 := r3.lt
            have hsz2 := hb2.size
            simp only [World.size_alloc] at hsz2
            go_wp2_with fail
            refine (MultiplyFractions_any n d n' d' _).mono ?_
            rintro e3 w3 ⟨rfl, hb3⟩
            have hC3 : Below w.heap.size w w3 := hC2.trans (Below.call (w := w2) (by go_grown) (by go_size) hb3)
            have s0 := Blk.thru r0 (by go_grown) hb3
            have s1 := Blk.thru r1 (by go_grown) hb3
            have s2 := Blk.thru r2 (by go_grown) hb3
            have s3 := Blk.thru r3 (by go_grown) hb3
            have s4 := Blk.thru r4 (by go_grown) hb3
            have s6 := (Blk.new w2 26 #[.slice Az ((addS e e').getD .nil).len cz]).call hb3
            have sp3 := sp2.thru (by go_grown) hb3
            have hz3 := (hz.below (by go_grown : Below w2.heap.size w2 (w2.alloc (.cells #[.slice Az ((addS e e').getD .nil).len cz] 26)))).below hb3
            obtain ⟨g2', gf2⟩ := s2.c1
            obtain ⟨g3', gf3⟩ := s3.c1
            obtain ⟨g6, _⟩ := s6.c1
            have x6 := s6.lt
            have x3 := s3.lt
            have x2 := s2.lt
            have hsz3 := hb3.size
            simp only [World.size_alloc] at hsz3
            rcases ha : addS e e' with _ | zz
            · have HF := Lib.hid (HS.out.fail HXK.out (HI.out.trans (HST.out.1 (.inl ha))))
              rcases hm : fMultiply n d n' d' with _ | ⟨p, pq⟩
              all_goals
                clear hm
                simp only [optF, Option.isSome_none]
                go_wp2
                refine bodyPost_ret (v := .tuple #[.agg #[.slice none 0 0], .bool false]) (by simp [results, Tryz.results15, go_sem, g2', x2]) rfl ?_
                rw [H.out, HF.out]
                exact ⟨none, 0, rfl, SFresh.nil _ _, by go_grown⟩
            · have hzg := sGood_len (addS_good ha)
              rcases hm : fMultiply n d n' d' with _ | ⟨p, pq⟩
              · have HF := Lib.hid (HS.out.fail HXK.out (HI.out.trans (HST.out.1 (.inr hm))))
                clear hm
                simp only [optF, Option.isSome_some]
                go_wp2
                refine bodyPost_ret (v := .tuple #[.agg #[.slice none 0 0], .bool false]) (by simp [results, Tryz.results15, go_sem, g2', x2]) rfl ?_
                rw [H.out, HF.out]
                exact ⟨none, 0, rfl, SFresh.nil _ _, by go_grown⟩
              · have hfp := two_ok hm
                have hIp := fracOk_I64 hfp
                have hta := termP_all hzg.2.2 hfp
                have HST2 := Lib.hid (HST.out.2 zz p pq ha hm)
                rw [ha] at hz3 s6 g6
                simp only [Option.getD_some] at hz3 s6 g6
                clear hm ha HST
                simp only [optF, Option.isSome_some, Option.getD_some]
                go_upto_region 14 with fail
                have kc := Blk.new w3 68 #[.int .i64 p, .int .i64 pq]
                have sz3 : SSl (fun k => (k = w1.heap.size ∨ k = w.heap.size + 1 + 1) ∨ k = w3.heap.size + 1) w3 zz Az cz := (hz3.toS (X := (fun k => k = w1.heap.size ∨ k = w.heap.size + 1 + 1)) (fun k hk => by rcases hk with rfl | rfl <;> simp <;> omega)).more (fun k hk hlt => by rcases hk with h | h; exact h; omega)
                have kb := Blk.new' (g := w3.heap.size + 1) (w3.alloc (.cells #[.int .i64 p, .int .i64 pq] 68)) 26 #[.slice none 0 0] (by simp)
                have hG1 : ¬ w3.heap.size + 1 = w1.heap.size := by omega
                have hG2 : ¬ w3.heap.size + 1 = w2.heap.size := by omega
                have nn3 := World.new_ne w3 _ g3'
                have nn6 := World.new_ne w3 _ g6
                go_cut [15, 16] (fun s15 s16 wx => s16 = .bool (sumP ou (termP zz p pq)).isSome ∧ ∃ g An cn, s15 = .pointer (some ⟨g, 0, none⟩) ∧ Blk wx g 26 #[.slice An ((sumP ou (termP zz p pq)).getD .nil).len cn] ∧ SSl (fun k => k = w1.heap.size ∨ k = w.heap.size + 1 + 1) wx ((sumP ou (termP zz p pq)).getD .nil) An cn ∧
                  Blk wx w.heap.size 26 #[.slice (some ⟨b, o, none⟩) x.len c] ∧ Blk wx (w.heap.size + 1) 26 #[.slice (some ⟨b', o', none⟩) y.len c'] ∧ Blk wx (w.heap.size + 1 + 1) 26 #[.slice none 0 0] ∧ Blk wx w1.heap.size 26 #[.slice Ap ou.len cp] ∧
                  Blk wx wo.heap.size 70 #[.slice A1 e.len d1, .int .i64 n, .int .i64 d] ∧ Below w.heap.size w wx)
                case first =>
                  go_region_held3 (fun w' => w'.cell? ⟨w1.heap.size, 0, none⟩ = some (.slice Ap ou.len cp) ∧ w'.cell? ⟨w2.heap.size, 0, none⟩ = some (.slice Az zz.len cz) ∧ w'.cell? ⟨w3.heap.size, 0, none⟩ = some (.int .i64 p) ∧ w'.cell? ⟨w3.heap.size, 1, none⟩ = some (.int .i64 pq)) (go_keep)
                    (first | (go_at_call 56; refine (term_any' zz p pq _ _ _ _ (sz3.below (by go_grown)) hIp.1 hIp.2).mono ?_; rintro e7 w7 ⟨A7, c7, rfl, hs7, hb7⟩; have h37 : Below w3.heap.size w3 w7 := (Below.call (by go_grown) (by go_size) hb7); have v0 := s0.call h37; have v1 := s1.call h37; have v2 := s2.call h37; have v3 := s3.call h37; have v4 := s4.call h37; have vc := Blk.thru kc (by go_grown) hb7; obtain ⟨u0, _⟩ := v3.c1; obtain ⟨u1, _⟩ := (s6.call h37).c1; obtain ⟨u2, u3, _, _⟩ := vc.c2; have hs7z := h37.size; have b1 := World.new_ne w7 _ u0; have b2 := World.new_ne w7 _ u1; have b3 := World.new_ne w7 _ u2; (try have vb := Blk.call (w := ((w3.alloc (.cells #[.int .i64 p, .int .i64 pq] 68)).alloc (.cells #[.slice none 0 0] 26)).drew) kb hb7)) | (go_at_call 48; refine (sum_any' ou (termP zz p pq) _ _ _ _ _ _ ((SSl.ofOld (G := w3.heap.size + 1) sp3 (by omega) h37).below (by go_grown)) ((SSl.ofTerm hs7 (fun k hk => by rcases hk with rfl | rfl <;> go_size)).below (by go_grown)) hpa hta.1 (by omega)).mono ?_; rintro e8 w8 ⟨A8, c8, rfl, hs8, hb8⟩; have h78 : Below w7.heap.size w7 w8 := (Below.call (by go_grown) (by go_size) hb8); have h38 := h37.trans (h78.mono h37.size); have hC8 := hC3.trans (h38.mono hC3.size); have t0 := v0.call h78; have t1 := v1.call h78; have t2 := v2.call h78; have t3 := v3.call h78; have t4 := v4.call h78; obtain ⟨a0, _⟩ := t3.c1; obtain ⟨a1, _⟩ := ((s6.call h37).call h78).c1; obtain ⟨a2, a3, _, _⟩ := (vc.call h78).c2; have hs8z := h78.size; have c1 := World.new_ne w8 _ a0; have c2 := World.new_ne w8 _ a1; have c3 := World.new_ne w8 _ a2; (try have vb8 := vb.call h78); (try obtain ⟨bx1, bx2⟩ := vb8.c1); (try have vd8 := Blk.call (w := (w7.alloc (.cells #[.slice none 0 0] 26))) (Blk.new w7 26 #[.slice none 0 0]) hb8); (try obtain ⟨bx3, bx4⟩ := vd8.c1)))
                  all_goals
                    go_wp2_with fail
                    go_meet
                    have hs38 := h38.size
                    first
                      | exact ⟨rfl, _, A8, c8, rfl, Blk.new _ _ _, (hs8.fin (fun k hk => by rcases hk with rfl | rfl <;> go_size)).below (by go_grown), t0.alloc _, t1.alloc _, t2.alloc _, t3.alloc _, t4.alloc _, hC8.alloc hC8.size _⟩
                      | exact ⟨rfl, _, A8, c8, rfl, vd8.set_ 0 _, hs8.finC (fun k hk => by rcases hk with rfl | rfl <;> go_size) (by go_size) _, t0.far (by dsimp only; omega) _, t1.far (by dsimp only; omega) _, t2.far (by dsimp only; omega) _, t3.far (by dsimp only; omega) _, t4.far (by dsimp only; omega) _, hC8.setCell (by dsimp only; omega) _⟩
                      | exact ⟨rfl, _, A8, c8, rfl, vb8.set_ 0 _, hs8.finB (fun k hk => by rcases hk with rfl | rfl <;> go_size) kb.lt vb.lt _, t0.far (by dsimp only; omega) _, t1.far (by dsimp only; omega) _, t2.far (by dsimp only; omega) _, t3.far (by dsimp only; omega) _, t4.far (by dsimp only; omega) _, hC8.setCell (by dsimp only; omega) _⟩
                case rest =>
                  obtain ⟨rfl, g, An, cn, rfl, kn, sn, t0, t1, t2, t3, t4, hC4⟩ := hcut
                  obtain ⟨a2, af2⟩ := t2.c1
                  obtain ⟨a3, af3⟩ := t3.c1
                  obtain ⟨an, _⟩ := kn.c1
                  rcases hs : sumP ou (termP zz p pq) with _ | nx
                  · have HF := Lib.hid (HS.out.fail HXK.out (HI.out.trans (HST2.out.1 hs)))
                    clear hs
                    simp only [Option.isSome_none]
                    go_wp2
                    refine bodyPost_ret (v := .tuple #[.agg #[.slice none 0 0], .bool false]) (by simp [results, Tryz.results15, go_sem, a2]) rfl ?_
                    rw [H.out, HF.out]
                    exact ⟨none, 0, rfl, SFresh.nil _ _, hC4.setCell (by simp; omega) _⟩
                  · have HI2 := Lib.hid (HI.out.trans (HST2.out.2 nx hs))
                    obtain ⟨hna, hnl⟩ := sumP_all _ _ hpa hta.1 nx hs
                    have hz1 := hta.2
                    rw [hs] at an sn kn
                    simp only [Option.getD_some] at an sn kn
                    clear hs
                    simp only [Option.isSome_some]
                    go_wp2
                    exact ⟨⟨k + 1, An, cn, nx, by go_num, by omega, by omega, hna, t0.far (by simp; omega) _, t1.far (by simp; omega) _, t2.far (by simp; omega) _, t3.set_ 0 _, t4.far (by simp; omega) _, sn.far (.inl rfl) _, HI2, hC4.setCell (by simp; omega) _⟩, by simp [intOf]; omega⟩
          · have HN := Lib.hid (HS.out.next HXK.out (HI.out.trans (by rw [y.drop_of_ge k (by omega)]; rfl)))
            go_wp2
            exact ⟨⟨i + 1, Ap, cp, ou, by go_num, by omega, by omega, hpa, n0, n1, n2, n3, sp, HN, hC⟩, by simp [intOf]; omega⟩
      · have HF := Lib.hid (HS.out.done (by omega))
        go_wp2_with fail
        refine (toldSurreal_any out true _ _ _ _ so).mono ?_
        rintro e3 w3 ⟨A3, c3, rfl, hf, hb3⟩
        have t2 := m2.call hb3
        obtain ⟨a2, af2⟩ := t2.c1
        have hB3 := hB.trans (hb3.mono hB.size)
        go_wp2
        refine bodyPost_ret (v := .tuple #[.agg #[.slice A3 ((told out true).getD .nil).len c3], .bool (told out true).isSome]) (by simp [results, Tryz.results15, go_sem, a2]) rfl ?_
        rw [H.out, HF.out]
        exact ⟨A3, c3, rfl, (hf.setCell (p := ⟨w.heap.size + 1 + 1, 0, none⟩) y2 _).mono hB.size, hB3.setCell (by simp; omega) _⟩
end Go.Proofs.YtonlfnbjbmgegaaGreat
