/-
  Walks: sums, products and quotients of fractions.
  Walks: AddFractions, SubtractFractions, MultiplyFractions, DivideFractions.
-/
import Derived.Test.YtonlfnbjbmgegaaGreatWOrd
namespace Go.Proofs.YtonlfnbjbmgegaaGreat
open Go.RowKit
set_option linter.unusedSimpArgs false
set_option linter.unusedVariables false

def optF : Option (Int × Int) → Value
  | some (p, q) => .tuple #[.agg #[.int .i64 p, .int .i64 q], .bool true]
  | none => .tuple #[.agg #[.int .i64 0, .int .i64 0], .bool false]

theorem gsign_ne {n d : Int} (hd : d ≠ 0) : gsign n d ≠ 0 := by
  have := Int.gcd_pos_of_ne_zero_right n hd
  unfold gsign; split <;> omega

theorem natAbs_tdiv_le (a b : Int) : (a.tdiv b).natAbs ≤ a.natAbs := by
  rw [Int.natAbs_tdiv]; exact Nat.div_le_self _ _

set_option maxHeartbeats 800000 in
theorem made_any (n d : Int) (hn : -4611686018427387904 ≤ n ∧ n ≤ 4611686018427387904) (hd : -4611686018427387904 ≤ d ∧ d ≤ 4611686018427387904) (w : World) :
    Calls Tryz.prog 126 #[.int .i64 n, .int .i64 d] w fun e w' => e = .returned (optF (made n d)) ∧ Below w.heap.size w w' := by
  by_cases h0 : d = 0
  · have h : made n d = none := by simp [made, h0]
    have H := Lib.hid h
    have e0 : (d == 0) = true := by simpa using h0
    clear h h0
    go_enter Tryz.func126, Tryz.ntmps126
    go_wp2
    go_returns
    exact ⟨by rw [H.out]; rfl, by go_grown⟩
  · have e0 : (d == 0) = false := by simpa using h0
    obtain ⟨G, hGe⟩ : ∃ G, G = gsign n d := ⟨_, rfl⟩
    have g0 : G ≠ 0 := by rw [hGe]; exact gsign_ne (n := n) h0
    have a1 := natAbs_tdiv_le n G
    have a2 := natAbs_tdiv_le d G
    have hgle : (Int.gcd n d : Int) ≤ 4611686018427387904 := by
      have h1 := Int.gcd_le_natAbs_right n h0
      omega
    have hg0 : (0 : Int) < (Int.gcd n d : Int) := by have := Int.gcd_pos_of_ne_zero_right n h0; omega
    have w1 : IntKind.i64.wrap (n.tdiv G) = n.tdiv G := IntWalk.i64_in _ (by omega)
    have w2 : IntKind.i64.wrap (d.tdiv G) = d.tdiv G := IntWalk.i64_in _ (by omega)
    have hm : made n d = if fracOk (n.tdiv G) (d.tdiv G) = true then some (n.tdiv G, d.tdiv G) else none := by simp only [made, if_neg h0, mkN, mkD, ← hGe]
    have H := Lib.hid hm
    have g1 : (G == 0) = false := beq_eq_false_iff_ne.2 g0
    have hcase : (d < 0 ∧ -(Int.gcd n d : Int) = G) ∨ (¬ d < 0 ∧ (Int.gcd n d : Int) = G) := by
      by_cases hs : d < 0
      · exact .inl ⟨hs, by simp [hGe, gsign, hs]⟩
      · exact .inr ⟨hs, by simp [hGe, gsign, hs]⟩
    clear hm h0 hGe
    rcases hcase with ⟨hs, hG⟩ | ⟨hs, hG⟩
    all_goals
      have HG := Lib.hid hG
      clear hG
      go_enter Tryz.func126, Tryz.ntmps126
      go_wp2_with (go_at_call 143; refine (gcd_any _ _ (by omega) (by omega) (by omega) (by omega) _).mono ?_; rintro e w' ⟨rfl, hb⟩)
      have k1 := (Blk.new w _ _).call hb
      have hz0 := k1.lt
      rw [HG.out]
      go_region
      go_wp2_with fail
      refine (IsFraction_any _ _ _).mono ?_
      rintro e w2 ⟨rfl, hb2⟩
      obtain ⟨q0, q1, qf0, qf1⟩ := ((k1.alloc _).drew.call hb2).c2
      obtain ⟨r0, r1, rf0, rf1⟩ := ((Blk.new w' _ _).drew.call hb2).c2
      have hw1 : Below w.heap.size w w' := Below.call (by go_grown) (by go_size) hb
      have hw2 : Below w.heap.size w w2 := Below.call (by go_grown) (by go_size) hb2
      cases hf : fracOk (n.tdiv G) (d.tdiv G)
      · go_wp2
        refine bodyPost_ret (v := .tuple #[.agg #[.int .i64 0, .int .i64 0], .bool false]) (by simp [results, Tryz.results126, go_sem, q0, q1]) rfl ?_
        exact ⟨by rw [H.out, if_neg (by simp [hf])]; rfl, by go_grown⟩
      · go_wp2
        refine bodyPost_ret (v := .tuple #[.agg #[.int .i64 (n.tdiv G), .int .i64 (d.tdiv G)], .bool true]) (by simp [results, Tryz.results126, go_sem, q0, q1]) rfl ?_
        exact ⟨by rw [H.out, if_pos hf]; rfl, by go_grown⟩

/-- the two numbers of a closure -/
def Clo (f : FuncId) (caps : Array Value) (W : World) (n d : Int) : Prop :=
  ∀ w', Below W.heap.size W w' → Calls Tryz.prog f caps w' fun e w'' => e = .returned (.tuple #[.int .i64 n, .int .i64 d]) ∧ Below w'.heap.size w' w''

def two (a b a' b' n d : Int) : Option (Int × Int) := if fracOk a b = true ∧ fracOk a' b' = true then made n d else none

set_option maxHeartbeats 800000 in
set_option maxRecDepth 100000 in
theorem two_any (a b a' b' n d : Int) (f : FuncId) (caps : Array Value) (w : World) (hC : fracOk a b = true → fracOk a' b' = true → Clo f caps w n d)
    (hcf : ∀ W : World, (callFunc f caps).run Tryz.prog W = .ok (.enter f caps) W)
    (hnd : fracOk a b = true → fracOk a' b' = true → (-4611686018427387904 ≤ n ∧ n ≤ 4611686018427387904) ∧ (-4611686018427387904 ≤ d ∧ d ≤ 4611686018427387904)) :
    Calls Tryz.prog 102 #[.agg #[.int .i64 a, .int .i64 b], .agg #[.int .i64 a', .int .i64 b'], .func (.func f) #[] caps] w fun e w' => e = .returned (optF (two a b a' b' n d)) ∧ Below w.heap.size w w' := by
  have k0 := (((Blk.new w 68 #[.int .i64 a, .int .i64 b]).alloc (.cells #[.int .i64 a', .int .i64 b'] 68)).alloc (.cells #[.int .i64 0, .int .i64 0] 68))
  have k0' := ((Blk.new' (g := w.heap.size + 1) (w.alloc (.cells #[.int .i64 a, .int .i64 b] 68)) 68 #[.int .i64 a', .int .i64 b'] (by simp)).alloc (.cells #[.int .i64 0, .int .i64 0] 68))
  have k0'' := (Blk.new' (g := w.heap.size + 1 + 1) ((w.alloc (.cells #[.int .i64 a, .int .i64 b] 68)).alloc (.cells #[.int .i64 a', .int .i64 b'] 68)) 68 #[.int .i64 0, .int .i64 0] (by simp))
  cases h1 : fracOk a b
  · have H := Lib.hid (show two a b a' b' n d = none from by simp [two, h1])
    clear hC hnd
    go_enter Tryz.func102, Tryz.ntmps102
    go_wp2_with fail
    refine (IsFraction_any _ _ _).mono ?_
    rintro e w1 ⟨rfl, hb1⟩
    obtain ⟨q0, q1, qf0, qf1⟩ := (k0''.call hb1).c2
    have hw1 : Below w.heap.size w w1 := Below.call (by go_grown) (by go_size) hb1
    rw [h1]
    go_wp2
    refine bodyPost_ret (v := .tuple #[.agg #[.int .i64 0, .int .i64 0], .bool false]) (by simp [results, Tryz.results102, go_sem, q0, q1]) rfl ?_
    exact ⟨by rw [H.out]; rfl, by go_grown⟩
  · cases h2 : fracOk a' b'
    · have H := Lib.hid (show two a b a' b' n d = none from by simp [two, h2])
      clear hC hnd
      go_enter Tryz.func102, Tryz.ntmps102
      go_wp2_with fail
      refine (IsFraction_any _ _ _).mono ?_
      rintro e w1 ⟨rfl, hb1⟩
      obtain ⟨p0, p1, _, _⟩ := (k0'.call hb1).c2
      have hw1 : Below w.heap.size w w1 := Below.call (by go_grown) (by go_size) hb1
      rw [h1]
      go_wp2_with fail
      refine (IsFraction_any _ _ _).mono ?_
      rintro e w2 ⟨rfl, hb2⟩
      obtain ⟨q0, q1, qf0, qf1⟩ := ((k0''.call hb1).call hb2).c2
      have hw2 : Below w.heap.size w w2 := Below.call hw1 hw1.size hb2
      rw [h2]
      go_wp2
      refine bodyPost_ret (v := .tuple #[.agg #[.int .i64 0, .int .i64 0], .bool false]) (by simp [results, Tryz.results102, go_sem, q0, q1]) rfl ?_
      exact ⟨by rw [H.out]; rfl, by go_grown⟩
    · have H := Lib.hid (show two a b a' b' n d = made n d from by simp [two, h1, h2])
      have HC := Lib.hid (hC h1 h2)
      obtain ⟨hn, hd⟩ := hnd h1 h2
      clear hC hnd
      go_enter Tryz.func102, Tryz.ntmps102
      go_wp2_with fail
      refine (IsFraction_any _ _ _).mono ?_
      rintro e w1 ⟨rfl, hb1⟩
      obtain ⟨p0, p1, _, _⟩ := (k0'.call hb1).c2
      have hw1 : Below w.heap.size w w1 := Below.call (by go_grown) (by go_size) hb1
      rw [h1]
      go_wp2_with fail
      refine (IsFraction_any _ _ _).mono ?_
      rintro e w2 ⟨rfl, hb2⟩
      have k2 := (k0''.call hb1).call hb2
      have hw2 : Below w.heap.size w w2 := Below.call hw1 hw1.size hb2
      rw [h2]
      go_wp2_with fail
      refine (HC.out w2 hw2).mono ?_
      rintro e w3 ⟨rfl, hb3⟩
      have k3 := k2.call hb3
      have hw3 : Below w.heap.size w w3 := Below.call hw2 hw2.size hb3
      go_wp2_with fail
      refine (made_any n d hn hd _).mono ?_
      rintro e w4 ⟨rfl, hb4⟩
      obtain ⟨q0, q1, qf0, qf1⟩ := (k3.call hb4).c2
      have hw4 : Below w.heap.size w w4 := Below.call hw3 hw3.size hb4
      rcases hm : made n d with _ | ⟨p, q⟩
      · have HM := Lib.hid hm
        clear hm
        simp only [optF]
        go_wp2
        refine bodyPost_ret (v := .tuple #[.agg #[.int .i64 0, .int .i64 0], .bool false]) (by simp [results, Tryz.results102, go_sem, q0, q1]) rfl ?_
        exact ⟨by rw [H.out, HM.out]; rfl, by go_grown⟩
      · have HM := Lib.hid hm
        clear hm
        simp only [optF]
        go_wp2
        refine bodyPost_ret (v := .tuple #[.agg #[.int .i64 p, .int .i64 q], .bool true]) (by simp [results, Tryz.results102, go_sem, q0, q1]) rfl ?_
        exact ⟨by rw [H.out, HM.out]; rfl, by go_grown⟩

end Go.Proofs.YtonlfnbjbmgegaaGreat

namespace Go.Proofs.YtonlfnbjbmgegaaGreat
open Go.RowKit
set_option linter.unusedSimpArgs false
set_option linter.unusedVariables false

/-- a call of a function that has a Go body: it is entered -/
theorem run_enter {P : Program} {f : FuncId} {fn : Func} {c : Code} (hf : P.funcs[f]? = some fn) (hname : (fn.name == "runtime.NumGoroutine") = false) (hb : fn.body = some c) (args : Array Value) (w : World) :
    (callFunc f args).run P w = .ok (.enter f args) w := by
  have h1 : fn.name ≠ "runtime.NumGoroutine" := by simpa using hname
  simp [callFunc, hf, h1, hb]

theorem mul_bd6 {a b : Int} (ha : -1000000 ≤ a ∧ a ≤ 1000000) (hb : -1000000 ≤ b ∧ b ≤ 1000000) : -1000000000000 ≤ a * b ∧ a * b ≤ 1000000000000 := by
  have h1 : a.natAbs * b.natAbs ≤ 1000000 * 1000000 := Nat.mul_le_mul (by omega) (by omega)
  have h2 : (a * b).natAbs = a.natAbs * b.natAbs := Int.natAbs_mul a b
  omega

/-- AddFractions -/
def fAdd (n d n' d' : Int) : Option (Int × Int) := two n d n' d' (n * d' + n' * d) (d * d')

set_option maxHeartbeats 800000 in
theorem AddFractions1_any (b1 b2 : Nat) (n d n' d' : Int) (w : World) (c0 : w.cell? ⟨b1, 0, none⟩ = some (.int .i64 n)) (c1 : w.cell? ⟨b1, 1, none⟩ = some (.int .i64 d))
    (e0 : w.cell? ⟨b2, 0, none⟩ = some (.int .i64 n')) (e1 : w.cell? ⟨b2, 1, none⟩ = some (.int .i64 d'))
    (hn : -1000000 ≤ n ∧ n ≤ 1000000) (hd : -1000000 ≤ d ∧ d ≤ 1000000) (hn' : -1000000 ≤ n' ∧ n' ≤ 1000000) (hd' : -1000000 ≤ d' ∧ d' ≤ 1000000) :
    Calls Tryz.prog 133 #[.pointer (some ⟨b1, 0, none⟩), .pointer (some ⟨b2, 0, none⟩)] w fun e w' => e = .returned (.tuple #[.int .i64 (n * d' + n' * d), .int .i64 (d * d')]) ∧ Below w.heap.size w w' := by
  have bnd1 := mul_bd6 (a := n) (b := d') (by omega) (by omega)
  have wnd1 : IntKind.i64.wrap (n * d') = n * d' := IntWalk.i64_in _ (by omega)
  have bn1d := mul_bd6 (a := n') (b := d) (by omega) (by omega)
  have wn1d : IntKind.i64.wrap (n' * d) = n' * d := IntWalk.i64_in _ (by omega)
  have bdd1 := mul_bd6 (a := d) (b := d') (by omega) (by omega)
  have wdd1 : IntKind.i64.wrap (d * d') = d * d' := IntWalk.i64_in _ (by omega)
  have s1 : IntKind.i64.wrap (n * d' + n' * d) = n * d' + n' * d := IntWalk.i64_in _ (by omega)
  go_enter Tryz.func133, Tryz.ntmps133
  go_wp2
  go_quiet (fail)
  go_wp2
  go_ret2
  exact ⟨rfl, Below.drewN (Below.refl _ _) _⟩

set_option maxHeartbeats 800000 in
theorem AddFractions_any (n d n' d' : Int) (w : World) :
    Calls Tryz.prog 99 #[.agg #[.int .i64 n, .int .i64 d], .agg #[.int .i64 n', .int .i64 d']] w fun e w' => e = .returned (optF (fAdd n d n' d')) ∧ Below w.heap.size w w' := by
  have hmf : ∀ (fn : Fn) (first cap : Array Value) (w : World), (Instr.makeFunc fn first cap).run Tryz.prog w = .ok (.func fn first cap) w := fun _ _ _ _ => rfl
  have k0 := (((Blk.new w 68 #[.int .i64 n, .int .i64 d]).alloc (.cells #[.int .i64 n', .int .i64 d'] 68)).alloc (.cells #[.int .i64 0, .int .i64 0] 68))
  have k1 := ((Blk.new' (g := w.heap.size + 1) (w.alloc (.cells #[.int .i64 n, .int .i64 d] 68)) 68 #[.int .i64 n', .int .i64 d'] (by simp)).alloc (.cells #[.int .i64 0, .int .i64 0] 68))
  have k2 := (Blk.new' (g := w.heap.size + 1 + 1) ((w.alloc (.cells #[.int .i64 n, .int .i64 d] 68)).alloc (.cells #[.int .i64 n', .int .i64 d'] 68)) 68 #[.int .i64 0, .int .i64 0] (by simp))
  go_enter Tryz.func99, Tryz.ntmps99
  go_wp2_with fail
  refine (two_any n d n' d' (n * d' + n' * d) (d * d') _ _ _ ?_ ?_ ?_).mono ?_
  · intro h1 h2
    have h1 := fracOk_iff.1 h1
    have h2 := fracOk_iff.1 h2
    intro w' hb
    obtain ⟨c0, c1, _, _⟩ := (k0.call hb).c2
    obtain ⟨e0, e1, _, _⟩ := (k1.call hb).c2
    exact AddFractions1_any _ _ n d n' d' w' c0 c1 e0 e1 (by omega) (by omega) (by omega) (by omega)
  · intro W; exact run_enter (fn := Tryz.f133) Tryz.func133 (by kernel_rfl) rfl _ W
  · intro h1 h2
    have h1 := fracOk_iff.1 h1
    have h2 := fracOk_iff.1 h2
    have bnd1 := mul_bd6 (a := n) (b := d') (by omega) (by omega)
    have bn1d := mul_bd6 (a := n') (b := d) (by omega) (by omega)
    have bdd1 := mul_bd6 (a := d) (b := d') (by omega) (by omega)
    exact ⟨by omega, by omega⟩
  · rintro e w1 ⟨rfl, hb1⟩
    obtain ⟨q0, q1, qf0, qf1⟩ := (k2.call hb1).c2
    have hw1 : Below w.heap.size w w1 := Below.call (by go_grown) (by go_size) hb1
    rcases hm : two n d n' d' (n * d' + n' * d) (d * d') with _ | ⟨p, q⟩
    · have HM := Lib.hid hm
      clear hm
      simp only [optF]
      go_wp2
      refine bodyPost_ret (v := .tuple #[.agg #[.int .i64 0, .int .i64 0], .bool false]) (by simp [results, Tryz.results99, go_sem, q0, q1]) rfl ?_
      exact ⟨by rw [fAdd, HM.out]; rfl, by go_grown⟩
    · have HM := Lib.hid hm
      clear hm
      simp only [optF]
      go_wp2
      refine bodyPost_ret (v := .tuple #[.agg #[.int .i64 p, .int .i64 q], .bool true]) (by simp [results, Tryz.results99, go_sem, q0, q1]) rfl ?_
      exact ⟨by rw [fAdd, HM.out]; rfl, by go_grown⟩

def fSubtract (n d n' d' : Int) : Option (Int × Int) := two n d n' d' (n * d' - n' * d) (d * d')
/-- MultiplyFractions -/
def fMultiply (n d n' d' : Int) : Option (Int × Int) := two n d n' d' (n * n') (d * d')

set_option maxHeartbeats 800000 in
theorem MultiplyFractions1_any (b1 b2 : Nat) (n d n' d' : Int) (w : World) (c0 : w.cell? ⟨b1, 0, none⟩ = some (.int .i64 n)) (c1 : w.cell? ⟨b1, 1, none⟩ = some (.int .i64 d))
    (e0 : w.cell? ⟨b2, 0, none⟩ = some (.int .i64 n')) (e1 : w.cell? ⟨b2, 1, none⟩ = some (.int .i64 d'))
    (hn : -1000000 ≤ n ∧ n ≤ 1000000) (hd : -1000000 ≤ d ∧ d ≤ 1000000) (hn' : -1000000 ≤ n' ∧ n' ≤ 1000000) (hd' : -1000000 ≤ d' ∧ d' ≤ 1000000) :
    Calls Tryz.prog 103 #[.pointer (some ⟨b1, 0, none⟩), .pointer (some ⟨b2, 0, none⟩)] w fun e w' => e = .returned (.tuple #[.int .i64 (n * n'), .int .i64 (d * d')]) ∧ Below w.heap.size w w' := by
  have bdd1 := mul_bd6 (a := d) (b := d') (by omega) (by omega)
  have wdd1 : IntKind.i64.wrap (d * d') = d * d' := IntWalk.i64_in _ (by omega)
  have bnn1 := mul_bd6 (a := n) (b := n') (by omega) (by omega)
  have wnn1 : IntKind.i64.wrap (n * n') = n * n' := IntWalk.i64_in _ (by omega)
  go_enter Tryz.func103, Tryz.ntmps103
  go_wp2
  go_quiet (fail)
  go_wp2
  go_ret2
  exact ⟨rfl, Below.drewN (Below.refl _ _) _⟩

set_option maxHeartbeats 800000 in
theorem MultiplyFractions_any (n d n' d' : Int) (w : World) :
    Calls Tryz.prog 55 #[.agg #[.int .i64 n, .int .i64 d], .agg #[.int .i64 n', .int .i64 d']] w fun e w' => e = .returned (optF (fMultiply n d n' d')) ∧ Below w.heap.size w w' := by
  have hmf : ∀ (fn : Fn) (first cap : Array Value) (w : World), (Instr.makeFunc fn first cap).run Tryz.prog w = .ok (.func fn first cap) w := fun _ _ _ _ => rfl
  have k0 := (((Blk.new w 68 #[.int .i64 n, .int .i64 d]).alloc (.cells #[.int .i64 n', .int .i64 d'] 68)).alloc (.cells #[.int .i64 0, .int .i64 0] 68))
  have k1 := ((Blk.new' (g := w.heap.size + 1) (w.alloc (.cells #[.int .i64 n, .int .i64 d] 68)) 68 #[.int .i64 n', .int .i64 d'] (by simp)).alloc (.cells #[.int .i64 0, .int .i64 0] 68))
  have k2 := (Blk.new' (g := w.heap.size + 1 + 1) ((w.alloc (.cells #[.int .i64 n, .int .i64 d] 68)).alloc (.cells #[.int .i64 n', .int .i64 d'] 68)) 68 #[.int .i64 0, .int .i64 0] (by simp))
  go_enter Tryz.func55, Tryz.ntmps55
  go_wp2_with fail
  refine (two_any n d n' d' (n * n') (d * d') _ _ _ ?_ ?_ ?_).mono ?_
  · intro h1 h2
    have h1 := fracOk_iff.1 h1
    have h2 := fracOk_iff.1 h2
    intro w' hb
    obtain ⟨c0, c1, _, _⟩ := (k0.call hb).c2
    obtain ⟨e0, e1, _, _⟩ := (k1.call hb).c2
    exact MultiplyFractions1_any _ _ n d n' d' w' c0 c1 e0 e1 (by omega) (by omega) (by omega) (by omega)
  · intro W; exact run_enter (fn := Tryz.f103) Tryz.func103 (by kernel_rfl) rfl _ W
  · intro h1 h2
    have h1 := fracOk_iff.1 h1
    have h2 := fracOk_iff.1 h2
    have bdd1 := mul_bd6 (a := d) (b := d') (by omega) (by omega)
    have bnn1 := mul_bd6 (a := n) (b := n') (by omega) (by omega)
    exact ⟨by omega, by omega⟩
  · rintro e w1 ⟨rfl, hb1⟩
    obtain ⟨q0, q1, qf0, qf1⟩ := (k2.call hb1).c2
    have hw1 : Below w.heap.size w w1 := Below.call (by go_grown) (by go_size) hb1
    rcases hm : two n d n' d' (n * n') (d * d') with _ | ⟨p, q⟩
    · have HM := Lib.hid hm
      clear hm
      simp only [optF]
      go_wp2
      refine bodyPost_ret (v := .tuple #[.agg #[.int .i64 0, .int .i64 0], .bool false]) (by simp [results, Tryz.results55, go_sem, q0, q1]) rfl ?_
      exact ⟨by rw [fMultiply, HM.out]; rfl, by go_grown⟩
    · have HM := Lib.hid hm
      clear hm
      simp only [optF]
      go_wp2
      refine bodyPost_ret (v := .tuple #[.agg #[.int .i64 p, .int .i64 q], .bool true]) (by simp [results, Tryz.results55, go_sem, q0, q1]) rfl ?_
      exact ⟨by rw [fMultiply, HM.out]; rfl, by go_grown⟩

/-- DivideFractions -/
def fDivide (n d n' d' : Int) : Option (Int × Int) := two n d n' d' (n * d') (d * n')

set_option maxHeartbeats 800000 in
theorem DivideFractions1_any (b1 b2 : Nat) (n d n' d' : Int) (w : World) (c0 : w.cell? ⟨b1, 0, none⟩ = some (.int .i64 n)) (c1 : w.cell? ⟨b1, 1, none⟩ = some (.int .i64 d))
    (e0 : w.cell? ⟨b2, 0, none⟩ = some (.int .i64 n')) (e1 : w.cell? ⟨b2, 1, none⟩ = some (.int .i64 d'))
    (hn : -1000000 ≤ n ∧ n ≤ 1000000) (hd : -1000000 ≤ d ∧ d ≤ 1000000) (hn' : -1000000 ≤ n' ∧ n' ≤ 1000000) (hd' : -1000000 ≤ d' ∧ d' ≤ 1000000) :
    Calls Tryz.prog 127 #[.pointer (some ⟨b1, 0, none⟩), .pointer (some ⟨b2, 0, none⟩)] w fun e w' => e = .returned (.tuple #[.int .i64 (n * d'), .int .i64 (d * n')]) ∧ Below w.heap.size w w' := by
  have bnd1 := mul_bd6 (a := n) (b := d') (by omega) (by omega)
  have wnd1 : IntKind.i64.wrap (n * d') = n * d' := IntWalk.i64_in _ (by omega)
  have bdn1 := mul_bd6 (a := d) (b := n') (by omega) (by omega)
  have wdn1 : IntKind.i64.wrap (d * n') = d * n' := IntWalk.i64_in _ (by omega)
  go_enter Tryz.func127, Tryz.ntmps127
  go_wp2
  go_quiet (fail)
  go_wp2
  go_ret2
  exact ⟨rfl, Below.drewN (Below.refl _ _) _⟩

set_option maxHeartbeats 800000 in
theorem DivideFractions_any (n d n' d' : Int) (w : World) :
    Calls Tryz.prog 86 #[.agg #[.int .i64 n, .int .i64 d], .agg #[.int .i64 n', .int .i64 d']] w fun e w' => e = .returned (optF (fDivide n d n' d')) ∧ Below w.heap.size w w' := by
  have hmf : ∀ (fn : Fn) (first cap : Array Value) (w : World), (Instr.makeFunc fn first cap).run Tryz.prog w = .ok (.func fn first cap) w := fun _ _ _ _ => rfl
  have k0 := (((Blk.new w 68 #[.int .i64 n, .int .i64 d]).alloc (.cells #[.int .i64 n', .int .i64 d'] 68)).alloc (.cells #[.int .i64 0, .int .i64 0] 68))
  have k1 := ((Blk.new' (g := w.heap.size + 1) (w.alloc (.cells #[.int .i64 n, .int .i64 d] 68)) 68 #[.int .i64 n', .int .i64 d'] (by simp)).alloc (.cells #[.int .i64 0, .int .i64 0] 68))
  have k2 := (Blk.new' (g := w.heap.size + 1 + 1) ((w.alloc (.cells #[.int .i64 n, .int .i64 d] 68)).alloc (.cells #[.int .i64 n', .int .i64 d'] 68)) 68 #[.int .i64 0, .int .i64 0] (by simp))
  go_enter Tryz.func86, Tryz.ntmps86
  go_wp2_with fail
  refine (two_any n d n' d' (n * d') (d * n') _ _ _ ?_ ?_ ?_).mono ?_
  · intro h1 h2
    have h1 := fracOk_iff.1 h1
    have h2 := fracOk_iff.1 h2
    intro w' hb
    obtain ⟨c0, c1, _, _⟩ := (k0.call hb).c2
    obtain ⟨e0, e1, _, _⟩ := (k1.call hb).c2
    exact DivideFractions1_any _ _ n d n' d' w' c0 c1 e0 e1 (by omega) (by omega) (by omega) (by omega)
  · intro W; exact run_enter (fn := Tryz.f127) Tryz.func127 (by kernel_rfl) rfl _ W
  · intro h1 h2
    have h1 := fracOk_iff.1 h1
    have h2 := fracOk_iff.1 h2
    have bnd1 := mul_bd6 (a := n) (b := d') (by omega) (by omega)
    have bdn1 := mul_bd6 (a := d) (b := n') (by omega) (by omega)
    exact ⟨by omega, by omega⟩
  · rintro e w1 ⟨rfl, hb1⟩
    obtain ⟨q0, q1, qf0, qf1⟩ := (k2.call hb1).c2
    have hw1 : Below w.heap.size w w1 := Below.call (by go_grown) (by go_size) hb1
    rcases hm : two n d n' d' (n * d') (d * n') with _ | ⟨p, q⟩
    · have HM := Lib.hid hm
      clear hm
      simp only [optF]
      go_wp2
      refine bodyPost_ret (v := .tuple #[.agg #[.int .i64 0, .int .i64 0], .bool false]) (by simp [results, Tryz.results86, go_sem, q0, q1]) rfl ?_
      exact ⟨by rw [fDivide, HM.out]; rfl, by go_grown⟩
    · have HM := Lib.hid hm
      clear hm
      simp only [optF]
      go_wp2
      refine bodyPost_ret (v := .tuple #[.agg #[.int .i64 p, .int .i64 q], .bool true]) (by simp [results, Tryz.results86, go_sem, q0, q1]) rfl ?_
      exact ⟨by rw [fDivide, HM.out]; rfl, by go_grown⟩

end Go.Proofs.YtonlfnbjbmgegaaGreat
