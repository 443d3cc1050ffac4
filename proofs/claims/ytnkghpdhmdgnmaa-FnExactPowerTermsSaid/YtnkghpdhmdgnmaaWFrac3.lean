/-
  Walks: AddFractions, SubtractFractions, MultiplyFractions, DivideFractions.
-/
import Derived.Test.YtnkghpdhmdgnmaaWFrac2
namespace Go.Proofs.Ytnkghpdhmdgnmaa
open Go.RowKit
set_option linter.unusedSimpArgs false
set_option linter.unusedVariables false

/-- a call of a function that has a Go body: it is entered -/
theorem run_enter {P : Program} {f : FuncId} {fn : Func} {c : Code} (hf : P.funcs[f]? = some fn) (hname : (fn.name == "runtime.NumGoroutine") = false) (hb : fn.body = some c) (args : Array Value) (w : World) :
    (callFunc f args).run P w = .ok (.enter f args) w := by
  have h1 : fn.name ≠ "runtime.NumGoroutine" := by simpa using hname
  simp [callFunc, hf, h1, hb]

theorem mul_bd6 {a b : Int} (ha : -1000000 ≤ a ∧ a ≤ 1000000) (hb : -1000000 ≤ b ∧ b ≤ 1000000) : -1000000000000 ≤ a * b ∧ a * b ≤ 1000000000000 := by
  have h1 : a.natAbs * b.natAbs ≤ 1000000 * 1000000 := Nat.mul_le_mul (by omega) (by omega)
  have h2 : (a * b).natAbs = a.natAbs * b.natAbs := Int.natAbs_mul a b
  omega

/-- AddFractions -/
def fAdd (n d n' d' : Int) : Option (Int × Int) := two n d n' d' (n * d' + n' * d) (d * d')

set_option maxHeartbeats 800000 in
theorem AddFractions1_any (b1 b2 : Nat) (n d n' d' : Int) (w : World) (c0 : w.cell? ⟨b1, 0, none⟩ = some (.int .i64 n)) (c1 : w.cell? ⟨b1, 1, none⟩ = some (.int .i64 d))
    (e0 : w.cell? ⟨b2, 0, none⟩ = some (.int .i64 n')) (e1 : w.cell? ⟨b2, 1, none⟩ = some (.int .i64 d'))
    (hn : -1000000 ≤ n ∧ n ≤ 1000000) (hd : -1000000 ≤ d ∧ d ≤ 1000000) (hn' : -1000000 ≤ n' ∧ n' ≤ 1000000) (hd' : -1000000 ≤ d' ∧ d' ≤ 1000000) :
    Calls Try.prog 187 #[.pointer (some ⟨b1, 0, none⟩), .pointer (some ⟨b2, 0, none⟩)] w fun e w' => e = .returned (.tuple #[.int .i64 (n * d' + n' * d), .int .i64 (d * d')]) ∧ Below w.heap.size w w' := by
  have bnd1 := mul_bd6 (a := n) (b := d') (by omega) (by omega)
  have wnd1 : IntKind.i64.wrap (n * d') = n * d' := IntWalk.i64_in _ (by omega)
  have bn1d := mul_bd6 (a := n') (b := d) (by omega) (by omega)
  have wn1d : IntKind.i64.wrap (n' * d) = n' * d := IntWalk.i64_in _ (by omega)
  have bdd1 := mul_bd6 (a := d) (b := d') (by omega) (by omega)
  have wdd1 : IntKind.i64.wrap (d * d') = d * d' := IntWalk.i64_in _ (by omega)
  have s1 : IntKind.i64.wrap (n * d' + n' * d) = n * d' + n' * d := IntWalk.i64_in _ (by omega)
  go_enter Try.func187, Try.ntmps187
  go_wp2
  go_quiet (fail)
  go_wp2
  go_ret2
  exact ⟨rfl, Below.drewN (Below.refl _ _) _⟩

set_option maxHeartbeats 800000 in
theorem AddFractions_any (n d n' d' : Int) (w : World) :
    Calls Try.prog 145 #[.agg #[.int .i64 n, .int .i64 d], .agg #[.int .i64 n', .int .i64 d']] w fun e w' => e = .returned (optF (fAdd n d n' d')) ∧ Below w.heap.size w w' := by
  have hmf : ∀ (fn : Fn) (first cap : Array Value) (w : World), (Instr.makeFunc fn first cap).run Try.prog w = .ok (.func fn first cap) w := fun _ _ _ _ => rfl
  have k0 := (((Blk.new w 34 #[.int .i64 n, .int .i64 d]).alloc (.cells #[.int .i64 n', .int .i64 d'] 34)).alloc (.cells #[.int .i64 0, .int .i64 0] 34))
  have k1 := ((Blk.new' (g := w.heap.size + 1) (w.alloc (.cells #[.int .i64 n, .int .i64 d] 34)) 34 #[.int .i64 n', .int .i64 d'] (by simp)).alloc (.cells #[.int .i64 0, .int .i64 0] 34))
  have k2 := (Blk.new' (g := w.heap.size + 1 + 1) ((w.alloc (.cells #[.int .i64 n, .int .i64 d] 34)).alloc (.cells #[.int .i64 n', .int .i64 d'] 34)) 34 #[.int .i64 0, .int .i64 0] (by simp))
  go_enter Try.func145, Try.ntmps145
  go_wp2_with fail
  refine (two_any n d n' d' (n * d' + n' * d) (d * d') _ _ _ ?_ ?_ ?_).mono ?_
  · intro h1 h2
    have h1 := fracOk_iff.1 h1
    have h2 := fracOk_iff.1 h2
    intro w' hb
    obtain ⟨c0, c1, _, _⟩ := (k0.call hb).c2
    obtain ⟨e0, e1, _, _⟩ := (k1.call hb).c2
    exact AddFractions1_any _ _ n d n' d' w' c0 c1 e0 e1 (by omega) (by omega) (by omega) (by omega)
  · intro W; exact run_enter (fn := Try.f187) Try.func187 (by kernel_rfl) rfl _ W
  · intro h1 h2
    have h1 := fracOk_iff.1 h1
    have h2 := fracOk_iff.1 h2
    have bnd1 := mul_bd6 (a := n) (b := d') (by omega) (by omega)
    have bn1d := mul_bd6 (a := n') (b := d) (by omega) (by omega)
    have bdd1 := mul_bd6 (a := d) (b := d') (by omega) (by omega)
    exact ⟨by omega, by omega⟩
  · rintro e w1 ⟨rfl, hb1⟩
    obtain ⟨q0, q1, qf0, qf1⟩ := (k2.call hb1).c2
    have hw1 : Below w.heap.size w w1 := Below.call (by go_grown) (by go_size) hb1
    rcases hm : two n d n' d' (n * d' + n' * d) (d * d') with _ | ⟨p, q⟩
    · have HM := Lib.hid hm
      clear hm
      simp only [optF]
      go_wp2
      refine bodyPost_ret (v := .tuple #[.agg #[.int .i64 0, .int .i64 0], .bool false]) (by simp [results, Try.results145, go_sem, q0, q1]) rfl ?_
      exact ⟨by rw [fAdd, HM.out]; rfl, by go_grown⟩
    · have HM := Lib.hid hm
      clear hm
      simp only [optF]
      go_wp2
      refine bodyPost_ret (v := .tuple #[.agg #[.int .i64 p, .int .i64 q], .bool true]) (by simp [results, Try.results145, go_sem, q0, q1]) rfl ?_
      exact ⟨by rw [fAdd, HM.out]; rfl, by go_grown⟩

/-- SubtractFractions -/
def fSubtract (n d n' d' : Int) : Option (Int × Int) := two n d n' d' (n * d' - n' * d) (d * d')

set_option maxHeartbeats 800000 in
theorem SubtractFractions1_any (b1 b2 : Nat) (n d n' d' : Int) (w : World) (c0 : w.cell? ⟨b1, 0, none⟩ = some (.int .i64 n)) (c1 : w.cell? ⟨b1, 1, none⟩ = some (.int .i64 d))
    (e0 : w.cell? ⟨b2, 0, none⟩ = some (.int .i64 n')) (e1 : w.cell? ⟨b2, 1, none⟩ = some (.int .i64 d'))
    (hn : -1000000 ≤ n ∧ n ≤ 1000000) (hd : -1000000 ≤ d ∧ d ≤ 1000000) (hn' : -1000000 ≤ n' ∧ n' ≤ 1000000) (hd' : -1000000 ≤ d' ∧ d' ≤ 1000000) :
    Calls Try.prog 173 #[.pointer (some ⟨b1, 0, none⟩), .pointer (some ⟨b2, 0, none⟩)] w fun e w' => e = .returned (.tuple #[.int .i64 (n * d' - n' * d), .int .i64 (d * d')]) ∧ Below w.heap.size w w' := by
  have bnd1 := mul_bd6 (a := n) (b := d') (by omega) (by omega)
  have wnd1 : IntKind.i64.wrap (n * d') = n * d' := IntWalk.i64_in _ (by omega)
  have bn1d := mul_bd6 (a := n') (b := d) (by omega) (by omega)
  have wn1d : IntKind.i64.wrap (n' * d) = n' * d := IntWalk.i64_in _ (by omega)
  have bdd1 := mul_bd6 (a := d) (b := d') (by omega) (by omega)
  have wdd1 : IntKind.i64.wrap (d * d') = d * d' := IntWalk.i64_in _ (by omega)
  have s1 : IntKind.i64.wrap (n * d' - n' * d) = n * d' - n' * d := IntWalk.i64_in _ (by omega)
  go_enter Try.func173, Try.ntmps173
  go_wp2
  go_quiet (fail)
  go_wp2
  go_ret2
  exact ⟨rfl, Below.drewN (Below.refl _ _) _⟩

set_option maxHeartbeats 800000 in
theorem SubtractFractions_any (n d n' d' : Int) (w : World) :
    Calls Try.prog 122 #[.agg #[.int .i64 n, .int .i64 d], .agg #[.int .i64 n', .int .i64 d']] w fun e w' => e = .returned (optF (fSubtract n d n' d')) ∧ Below w.heap.size w w' := by
  have hmf : ∀ (fn : Fn) (first cap : Array Value) (w : World), (Instr.makeFunc fn first cap).run Try.prog w = .ok (.func fn first cap) w := fun _ _ _ _ => rfl
  have k0 := (((Blk.new w 34 #[.int .i64 n, .int .i64 d]).alloc (.cells #[.int .i64 n', .int .i64 d'] 34)).alloc (.cells #[.int .i64 0, .int .i64 0] 34))
  have k1 := ((Blk.new' (g := w.heap.size + 1) (w.alloc (.cells #[.int .i64 n, .int .i64 d] 34)) 34 #[.int .i64 n', .int .i64 d'] (by simp)).alloc (.cells #[.int .i64 0, .int .i64 0] 34))
  have k2 := (Blk.new' (g := w.heap.size + 1 + 1) ((w.alloc (.cells #[.int .i64 n, .int .i64 d] 34)).alloc (.cells #[.int .i64 n', .int .i64 d'] 34)) 34 #[.int .i64 0, .int .i64 0] (by simp))
  go_enter Try.func122, Try.ntmps122
  go_wp2_with fail
  refine (two_any n d n' d' (n * d' - n' * d) (d * d') _ _ _ ?_ ?_ ?_).mono ?_
  · intro h1 h2
    have h1 := fracOk_iff.1 h1
    have h2 := fracOk_iff.1 h2
    intro w' hb
    obtain ⟨c0, c1, _, _⟩ := (k0.call hb).c2
    obtain ⟨e0, e1, _, _⟩ := (k1.call hb).c2
    exact SubtractFractions1_any _ _ n d n' d' w' c0 c1 e0 e1 (by omega) (by omega) (by omega) (by omega)
  · intro W; exact run_enter (fn := Try.f173) Try.func173 (by kernel_rfl) rfl _ W
  · intro h1 h2
    have h1 := fracOk_iff.1 h1
    have h2 := fracOk_iff.1 h2
    have bnd1 := mul_bd6 (a := n) (b := d') (by omega) (by omega)
    have bn1d := mul_bd6 (a := n') (b := d) (by omega) (by omega)
    have bdd1 := mul_bd6 (a := d) (b := d') (by omega) (by omega)
    exact ⟨by omega, by omega⟩
  · rintro e w1 ⟨rfl, hb1⟩
    obtain ⟨q0, q1, qf0, qf1⟩ := (k2.call hb1).c2
    have hw1 : Below w.heap.size w w1 := Below.call (by go_grown) (by go_size) hb1
    rcases hm : two n d n' d' (n * d' - n' * d) (d * d') with _ | ⟨p, q⟩
    · have HM := Lib.hid hm
      clear hm
      simp only [optF]
      go_wp2
      refine bodyPost_ret (v := .tuple #[.agg #[.int .i64 0, .int .i64 0], .bool false]) (by simp [results, Try.results122, go_sem, q0, q1]) rfl ?_
      exact ⟨by rw [fSubtract, HM.out]; rfl, by go_grown⟩
    · have HM := Lib.hid hm
      clear hm
      simp only [optF]
      go_wp2
      refine bodyPost_ret (v := .tuple #[.agg #[.int .i64 p, .int .i64 q], .bool true]) (by simp [results, Try.results122, go_sem, q0, q1]) rfl ?_
      exact ⟨by rw [fSubtract, HM.out]; rfl, by go_grown⟩

/-- MultiplyFractions -/
def fMultiply (n d n' d' : Int) : Option (Int × Int) := two n d n' d' (n * n') (d * d')

set_option maxHeartbeats 800000 in
theorem MultiplyFractions1_any (b1 b2 : Nat) (n d n' d' : Int) (w : World) (c0 : w.cell? ⟨b1, 0, none⟩ = some (.int .i64 n)) (c1 : w.cell? ⟨b1, 1, none⟩ = some (.int .i64 d))
    (e0 : w.cell? ⟨b2, 0, none⟩ = some (.int .i64 n')) (e1 : w.cell? ⟨b2, 1, none⟩ = some (.int .i64 d'))
    (hn : -1000000 ≤ n ∧ n ≤ 1000000) (hd : -1000000 ≤ d ∧ d ≤ 1000000) (hn' : -1000000 ≤ n' ∧ n' ≤ 1000000) (hd' : -1000000 ≤ d' ∧ d' ≤ 1000000) :
    Calls Try.prog 162 #[.pointer (some ⟨b1, 0, none⟩), .pointer (some ⟨b2, 0, none⟩)] w fun e w' => e = .returned (.tuple #[.int .i64 (n * n'), .int .i64 (d * d')]) ∧ Below w.heap.size w w' := by
  have bdd1 := mul_bd6 (a := d) (b := d') (by omega) (by omega)
  have wdd1 : IntKind.i64.wrap (d * d') = d * d' := IntWalk.i64_in _ (by omega)
  have bnn1 := mul_bd6 (a := n) (b := n') (by omega) (by omega)
  have wnn1 : IntKind.i64.wrap (n * n') = n * n' := IntWalk.i64_in _ (by omega)
  go_enter Try.func162, Try.ntmps162
  go_wp2
  go_quiet (fail)
  go_wp2
  go_ret2
  exact ⟨rfl, Below.drewN (Below.refl _ _) _⟩

set_option maxHeartbeats 800000 in
theorem MultiplyFractions_any (n d n' d' : Int) (w : World) :
    Calls Try.prog 95 #[.agg #[.int .i64 n, .int .i64 d], .agg #[.int .i64 n', .int .i64 d']] w fun e w' => e = .returned (optF (fMultiply n d n' d')) ∧ Below w.heap.size w w' := by
  have hmf : ∀ (fn : Fn) (first cap : Array Value) (w : World), (Instr.makeFunc fn first cap).run Try.prog w = .ok (.func fn first cap) w := fun _ _ _ _ => rfl
  have k0 := (((Blk.new w 34 #[.int .i64 n, .int .i64 d]).alloc (.cells #[.int .i64 n', .int .i64 d'] 34)).alloc (.cells #[.int .i64 0, .int .i64 0] 34))
  have k1 := ((Blk.new' (g := w.heap.size + 1) (w.alloc (.cells #[.int .i64 n, .int .i64 d] 34)) 34 #[.int .i64 n', .int .i64 d'] (by simp)).alloc (.cells #[.int .i64 0, .int .i64 0] 34))
  have k2 := (Blk.new' (g := w.heap.size + 1 + 1) ((w.alloc (.cells #[.int .i64 n, .int .i64 d] 34)).alloc (.cells #[.int .i64 n', .int .i64 d'] 34)) 34 #[.int .i64 0, .int .i64 0] (by simp))
  go_enter Try.func95, Try.ntmps95
  go_wp2_with fail
  refine (two_any n d n' d' (n * n') (d * d') _ _ _ ?_ ?_ ?_).mono ?_
  · intro h1 h2
    have h1 := fracOk_iff.1 h1
    have h2 := fracOk_iff.1 h2
    intro w' hb
    obtain ⟨c0, c1, _, _⟩ := (k0.call hb).c2
    obtain ⟨e0, e1, _, _⟩ := (k1.call hb).c2
    exact MultiplyFractions1_any _ _ n d n' d' w' c0 c1 e0 e1 (by omega) (by omega) (by omega) (by omega)
  · intro W; exact run_enter (fn := Try.f162) Try.func162 (by kernel_rfl) rfl _ W
  · intro h1 h2
    have h1 := fracOk_iff.1 h1
    have h2 := fracOk_iff.1 h2
    have bdd1 := mul_bd6 (a := d) (b := d') (by omega) (by omega)
    have bnn1 := mul_bd6 (a := n) (b := n') (by omega) (by omega)
    exact ⟨by omega, by omega⟩
  · rintro e w1 ⟨rfl, hb1⟩
    obtain ⟨q0, q1, qf0, qf1⟩ := (k2.call hb1).c2
    have hw1 : Below w.heap.size w w1 := Below.call (by go_grown) (by go_size) hb1
    rcases hm : two n d n' d' (n * n') (d * d') with _ | ⟨p, q⟩
    · have HM := Lib.hid hm
      clear hm
      simp only [optF]
      go_wp2
      refine bodyPost_ret (v := .tuple #[.agg #[.int .i64 0, .int .i64 0], .bool false]) (by simp [results, Try.results95, go_sem, q0, q1]) rfl ?_
      exact ⟨by rw [fMultiply, HM.out]; rfl, by go_grown⟩
    · have HM := Lib.hid hm
      clear hm
      simp only [optF]
      go_wp2
      refine bodyPost_ret (v := .tuple #[.agg #[.int .i64 p, .int .i64 q], .bool true]) (by simp [results, Try.results95, go_sem, q0, q1]) rfl ?_
      exact ⟨by rw [fMultiply, HM.out]; rfl, by go_grown⟩

/-- DivideFractions -/
def fDivide (n d n' d' : Int) : Option (Int × Int) := two n d n' d' (n * d') (d * n')

set_option maxHeartbeats 800000 in
theorem DivideFractions1_any (b1 b2 : Nat) (n d n' d' : Int) (w : World) (c0 : w.cell? ⟨b1, 0, none⟩ = some (.int .i64 n)) (c1 : w.cell? ⟨b1, 1, none⟩ = some (.int .i64 d))
    (e0 : w.cell? ⟨b2, 0, none⟩ = some (.int .i64 n')) (e1 : w.cell? ⟨b2, 1, none⟩ = some (.int .i64 d'))
    (hn : -1000000 ≤ n ∧ n ≤ 1000000) (hd : -1000000 ≤ d ∧ d ≤ 1000000) (hn' : -1000000 ≤ n' ∧ n' ≤ 1000000) (hd' : -1000000 ≤ d' ∧ d' ≤ 1000000) :
    Calls Try.prog 172 #[.pointer (some ⟨b1, 0, none⟩), .pointer (some ⟨b2, 0, none⟩)] w fun e w' => e = .returned (.tuple #[.int .i64 (n * d'), .int .i64 (d * n')]) ∧ Below w.heap.size w w' := by
  have bnd1 := mul_bd6 (a := n) (b := d') (by omega) (by omega)
  have wnd1 : IntKind.i64.wrap (n * d') = n * d' := IntWalk.i64_in _ (by omega)
  have bdn1 := mul_bd6 (a := d) (b := n') (by omega) (by omega)
  have wdn1 : IntKind.i64.wrap (d * n') = d * n' := IntWalk.i64_in _ (by omega)
  go_enter Try.func172, Try.ntmps172
  go_wp2
  go_quiet (fail)
  go_wp2
  go_ret2
  exact ⟨rfl, Below.drewN (Below.refl _ _) _⟩

set_option maxHeartbeats 800000 in
theorem DivideFractions_any (n d n' d' : Int) (w : World) :
    Calls Try.prog 121 #[.agg #[.int .i64 n, .int .i64 d], .agg #[.int .i64 n', .int .i64 d']] w fun e w' => e = .returned (optF (fDivide n d n' d')) ∧ Below w.heap.size w w' := by
  have hmf : ∀ (fn : Fn) (first cap : Array Value) (w : World), (Instr.makeFunc fn first cap).run Try.prog w = .ok (.func fn first cap) w := fun _ _ _ _ => rfl
  have k0 := (((Blk.new w 34 #[.int .i64 n, .int .i64 d]).alloc (.cells #[.int .i64 n', .int .i64 d'] 34)).alloc (.cells #[.int .i64 0, .int .i64 0] 34))
  have k1 := ((Blk.new' (g := w.heap.size + 1) (w.alloc (.cells #[.int .i64 n, .int .i64 d] 34)) 34 #[.int .i64 n', .int .i64 d'] (by simp)).alloc (.cells #[.int .i64 0, .int .i64 0] 34))
  have k2 := (Blk.new' (g := w.heap.size + 1 + 1) ((w.alloc (.cells #[.int .i64 n, .int .i64 d] 34)).alloc (.cells #[.int .i64 n', .int .i64 d'] 34)) 34 #[.int .i64 0, .int .i64 0] (by simp))
  go_enter Try.func121, Try.ntmps121
  go_wp2_with fail
  refine (two_any n d n' d' (n * d') (d * n') _ _ _ ?_ ?_ ?_).mono ?_
  · intro h1 h2
    have h1 := fracOk_iff.1 h1
    have h2 := fracOk_iff.1 h2
    intro w' hb
    obtain ⟨c0, c1, _, _⟩ := (k0.call hb).c2
    obtain ⟨e0, e1, _, _⟩ := (k1.call hb).c2
    exact DivideFractions1_any _ _ n d n' d' w' c0 c1 e0 e1 (by omega) (by omega) (by omega) (by omega)
  · intro W; exact run_enter (fn := Try.f172) Try.func172 (by kernel_rfl) rfl _ W
  · intro h1 h2
    have h1 := fracOk_iff.1 h1
    have h2 := fracOk_iff.1 h2
    have bnd1 := mul_bd6 (a := n) (b := d') (by omega) (by omega)
    have bdn1 := mul_bd6 (a := d) (b := n') (by omega) (by omega)
    exact ⟨by omega, by omega⟩
  · rintro e w1 ⟨rfl, hb1⟩
    obtain ⟨q0, q1, qf0, qf1⟩ := (k2.call hb1).c2
    have hw1 : Below w.heap.size w w1 := Below.call (by go_grown) (by go_size) hb1
    rcases hm : two n d n' d' (n * d') (d * n') with _ | ⟨p, q⟩
    · have HM := Lib.hid hm
      clear hm
      simp only [optF]
      go_wp2
      refine bodyPost_ret (v := .tuple #[.agg #[.int .i64 0, .int .i64 0], .bool false]) (by simp [results, Try.results121, go_sem, q0, q1]) rfl ?_
      exact ⟨by rw [fDivide, HM.out]; rfl, by go_grown⟩
    · have HM := Lib.hid hm
      clear hm
      simp only [optF]
      go_wp2
      refine bodyPost_ret (v := .tuple #[.agg #[.int .i64 p, .int .i64 q], .bool true]) (by simp [results, Try.results121, go_sem, q0, q1]) rfl ?_
      exact ⟨by rw [fDivide, HM.out]; rfl, by go_grown⟩

end Go.Proofs.Ytnkghpdhmdgnmaa
