/-
  Walks: AddFractions, SubtractFractions, MultiplyFractions, DivideFractions.
-/
import Derived.Test.YtphabopnbcgodaaWFrac2
namespace Go.Proofs.Ytphabopnbcgodaa
open Go.RowKit
set_option linter.unusedSimpArgs false
set_option linter.unusedVariables false

/-- a call of a function that has a Go body: it is entered -/
theorem run_enter {P : Program} {f : FuncId} {fn : Func} {c : Code} (hf : P.funcs[f]? = some fn) (hname : (fn.name == "runtime.NumGoroutine") = false) (hb : fn.body = some c) (args : Array Value) (w : World) :
    (callFunc f args).run P w = .ok (.enter f args) w := by
  have h1 : fn.name ≠ "runtime.NumGoroutine" := by simpa using hname
  simp [callFunc, hf, h1, hb]

theorem mul_bd6 {a b : Int} (ha : -1000000 ≤ a ∧ a ≤ 1000000) (hb : -1000000 ≤ b ∧ b ≤ 1000000) : -1000000000000 ≤ a * b ∧ a * b ≤ 1000000000000 := by
  have h1 : a.natAbs * b.natAbs ≤ 1000000 * 1000000 := Nat.mul_le_mul (by omega) (by omega)
  have h2 : (a * b).natAbs = a.natAbs * b.natAbs := Int.natAbs_mul a b
  omega

/-- AddFractions -/
def fAdd (n d n' d' : Int) : Option (Int × Int) := two n d n' d' (n * d' + n' * d) (d * d')

set_option maxHeartbeats 800000 in
theorem AddFractions1_any (b1 b2 : Nat) (n d n' d' : Int) (w : World) (c0 : w.cell? ⟨b1, 0, none⟩ = some (.int .i64 n)) (c1 : w.cell? ⟨b1, 1, none⟩ = some (.int .i64 d))
    (e0 : w.cell? ⟨b2, 0, none⟩ = some (.int .i64 n')) (e1 : w.cell? ⟨b2, 1, none⟩ = some (.int .i64 d'))
    (hn : -1000000 ≤ n ∧ n ≤ 1000000) (hd : -1000000 ≤ d ∧ d ≤ 1000000) (hn' : -1000000 ≤ n' ∧ n' ≤ 1000000) (hd' : -1000000 ≤ d' ∧ d' ≤ 1000000) :
    Calls Try.prog 113 #[.pointer (some ⟨b1, 0, none⟩), .pointer (some ⟨b2, 0, none⟩)] w fun e w' => e = .returned (.tuple #[.int .i64 (n * d' + n' * d), .int .i64 (d * d')]) ∧ Below w.heap.size w w' := by
  have bnd1 := mul_bd6 (a := n) (b := d') (by omega) (by omega)
  have wnd1 : IntKind.i64.wrap (n * d') = n * d' := IntWalk.i64_in _ (by omega)
  have bn1d := mul_bd6 (a := n') (b := d) (by omega) (by omega)
  have wn1d : IntKind.i64.wrap (n' * d) = n' * d := IntWalk.i64_in _ (by omega)
  have bdd1 := mul_bd6 (a := d) (b := d') (by omega) (by omega)
  have wdd1 : IntKind.i64.wrap (d * d') = d * d' := IntWalk.i64_in _ (by omega)
  have s1 : IntKind.i64.wrap (n * d' + n' * d) = n * d' + n' * d := IntWalk.i64_in _ (by omega)
  go_enter Try.func113, Try.ntmps113
  go_wp2
  go_quiet (fail)
  go_wp2
  go_ret2
  exact ⟨rfl, Below.drewN (Below.refl _ _) _⟩

set_option maxHeartbeats 800000 in
theorem AddFractions_any (n d n' d' : Int) (w : World) :
    Calls Try.prog 84 #[.agg #[.int .i64 n, .int .i64 d], .agg #[.int .i64 n', .int .i64 d']] w fun e w' => e = .returned (optF (fAdd n d n' d')) ∧ Below w.heap.size w w' := by
  have hmf : ∀ (fn : Fn) (first cap : Array Value) (w : World), (Instr.makeFunc fn first cap).run Try.prog w = .ok (.func fn first cap) w := fun _ _ _ _ => rfl
  have k0 := (((Blk.new w 29 #[.int .i64 n, .int .i64 d]).alloc (.cells #[.int .i64 n', .int .i64 d'] 29)).alloc (.cells #[.int .i64 0, .int .i64 0] 29))
  have k1 := ((Blk.new' (g := w.heap.size + 1) (w.alloc (.cells #[.int .i64 n, .int .i64 d] 29)) 29 #[.int .i64 n', .int .i64 d'] (by simp)).alloc (.cells #[.int .i64 0, .int .i64 0] 29))
  have k2 := (Blk.new' (g := w.heap.size + 1 + 1) ((w.alloc (.cells #[.int .i64 n, .int .i64 d] 29)).alloc (.cells #[.int .i64 n', .int .i64 d'] 29)) 29 #[.int .i64 0, .int .i64 0] (by simp))
  go_enter Try.func84, Try.ntmps84
  go_wp2_with fail
  refine (two_any n d n' d' (n * d' + n' * d) (d * d') _ _ _ ?_ ?_ ?_).mono ?_
  · intro h1 h2
    have h1 := fracOk_iff.1 h1
    have h2 := fracOk_iff.1 h2
    intro w' hb
    obtain ⟨c0, c1, _, _⟩ := (k0.call hb).c2
    obtain ⟨e0, e1, _, _⟩ := (k1.call hb).c2
    exact AddFractions1_any _ _ n d n' d' w' c0 c1 e0 e1 (by omega) (by omega) (by omega) (by omega)
  · intro W; exact run_enter (fn := Try.f113) Try.func113 (by kernel_rfl) rfl _ W
  · intro h1 h2
    have h1 := fracOk_iff.1 h1
    have h2 := fracOk_iff.1 h2
    have bnd1 := mul_bd6 (a := n) (b := d') (by omega) (by omega)
    have bn1d := mul_bd6 (a := n') (b := d) (by omega) (by omega)
    have bdd1 := mul_bd6 (a := d) (b := d') (by omega) (by omega)
    exact ⟨by omega, by omega⟩
  · rintro e w1 ⟨rfl, hb1⟩
    obtain ⟨q0, q1, qf0, qf1⟩ := (k2.call hb1).c2
    have hw1 : Below w.heap.size w w1 := Below.call (by go_grown) (by go_size) hb1
    rcases hm : two n d n' d' (n * d' + n' * d) (d * d') with _ | ⟨p, q⟩
    · have HM := Lib.hid hm
      clear hm
      simp only [optF]
      go_wp2
      refine bodyPost_ret (v := .tuple #[.agg #[.int .i64 0, .int .i64 0], .bool false]) (by simp [results, Try.results84, go_sem, q0, q1]) rfl ?_
      exact ⟨by rw [fAdd, HM.out]; rfl, by go_grown⟩
    · have HM := Lib.hid hm
      clear hm
      simp only [optF]
      go_wp2
      refine bodyPost_ret (v := .tuple #[.agg #[.int .i64 p, .int .i64 q], .bool true]) (by simp [results, Try.results84, go_sem, q0, q1]) rfl ?_
      exact ⟨by rw [fAdd, HM.out]; rfl, by go_grown⟩

/-- MultiplyFractions -/
def fMultiply (n d n' d' : Int) : Option (Int × Int) := two n d n' d' (n * n') (d * d')

set_option maxHeartbeats 800000 in
theorem MultiplyFractions1_any (b1 b2 : Nat) (n d n' d' : Int) (w : World) (c0 : w.cell? ⟨b1, 0, none⟩ = some (.int .i64 n)) (c1 : w.cell? ⟨b1, 1, none⟩ = some (.int .i64 d))
    (e0 : w.cell? ⟨b2, 0, none⟩ = some (.int .i64 n')) (e1 : w.cell? ⟨b2, 1, none⟩ = some (.int .i64 d'))
    (hn : -1000000 ≤ n ∧ n ≤ 1000000) (hd : -1000000 ≤ d ∧ d ≤ 1000000) (hn' : -1000000 ≤ n' ∧ n' ≤ 1000000) (hd' : -1000000 ≤ d' ∧ d' ≤ 1000000) :
    Calls Try.prog 100 #[.pointer (some ⟨b1, 0, none⟩), .pointer (some ⟨b2, 0, none⟩)] w fun e w' => e = .returned (.tuple #[.int .i64 (n * n'), .int .i64 (d * d')]) ∧ Below w.heap.size w w' := by
  have bdd1 := mul_bd6 (a := d) (b := d') (by omega) (by omega)
  have wdd1 : IntKind.i64.wrap (d * d') = d * d' := IntWalk.i64_in _ (by omega)
  have bnn1 := mul_bd6 (a := n) (b := n') (by omega) (by omega)
  have wnn1 : IntKind.i64.wrap (n * n') = n * n' := IntWalk.i64_in _ (by omega)
  go_enter Try.func100, Try.ntmps100
  go_wp2
  go_quiet (fail)
  go_wp2
  go_ret2
  exact ⟨rfl, Below.drewN (Below.refl _ _) _⟩

set_option maxHeartbeats 800000 in
theorem MultiplyFractions_any (n d n' d' : Int) (w : World) :
    Calls Try.prog 64 #[.agg #[.int .i64 n, .int .i64 d], .agg #[.int .i64 n', .int .i64 d']] w fun e w' => e = .returned (optF (fMultiply n d n' d')) ∧ Below w.heap.size w w' := by
  have hmf : ∀ (fn : Fn) (first cap : Array Value) (w : World), (Instr.makeFunc fn first cap).run Try.prog w = .ok (.func fn first cap) w := fun _ _ _ _ => rfl
  have k0 := (((Blk.new w 29 #[.int .i64 n, .int .i64 d]).alloc (.cells #[.int .i64 n', .int .i64 d'] 29)).alloc (.cells #[.int .i64 0, .int .i64 0] 29))
  have k1 := ((Blk.new' (g := w.heap.size + 1) (w.alloc (.cells #[.int .i64 n, .int .i64 d] 29)) 29 #[.int .i64 n', .int .i64 d'] (by simp)).alloc (.cells #[.int .i64 0, .int .i64 0] 29))
  have k2 := (Blk.new' (g := w.heap.size + 1 + 1) ((w.alloc (.cells #[.int .i64 n, .int .i64 d] 29)).alloc (.cells #[.int .i64 n', .int .i64 d'] 29)) 29 #[.int .i64 0, .int .i64 0] (by simp))
  go_enter Try.func64, Try.ntmps64
  go_wp2_with fail
  refine (two_any n d n' d' (n * n') (d * d') _ _ _ ?_ ?_ ?_).mono ?_
  · intro h1 h2
    have h1 := fracOk_iff.1 h1
    have h2 := fracOk_iff.1 h2
    intro w' hb
    obtain ⟨c0, c1, _, _⟩ := (k0.call hb).c2
    obtain ⟨e0, e1, _, _⟩ := (k1.call hb).c2
    exact MultiplyFractions1_any _ _ n d n' d' w' c0 c1 e0 e1 (by omega) (by omega) (by omega) (by omega)
  · intro W; exact run_enter (fn := Try.f100) Try.func100 (by kernel_rfl) rfl _ W
  · intro h1 h2
    have h1 := fracOk_iff.1 h1
    have h2 := fracOk_iff.1 h2
    have bdd1 := mul_bd6 (a := d) (b := d') (by omega) (by omega)
    have bnn1 := mul_bd6 (a := n) (b := n') (by omega) (by omega)
    exact ⟨by omega, by omega⟩
  · rintro e w1 ⟨rfl, hb1⟩
    obtain ⟨q0, q1, qf0, qf1⟩ := (k2.call hb1).c2
    have hw1 : Below w.heap.size w w1 := Below.call (by go_grown) (by go_size) hb1
    rcases hm : two n d n' d' (n * n') (d * d') with _ | ⟨p, q⟩
    · have HM := Lib.hid hm
      clear hm
      simp only [optF]
      go_wp2
      refine bodyPost_ret (v := .tuple #[.agg #[.int .i64 0, .int .i64 0], .bool false]) (by simp [results, Try.results64, go_sem, q0, q1]) rfl ?_
      exact ⟨by rw [fMultiply, HM.out]; rfl, by go_grown⟩
    · have HM := Lib.hid hm
      clear hm
      simp only [optF]
      go_wp2
      refine bodyPost_ret (v := .tuple #[.agg #[.int .i64 p, .int .i64 q], .bool true]) (by simp [results, Try.results64, go_sem, q0, q1]) rfl ?_
      exact ⟨by rw [fMultiply, HM.out]; rfl, by go_grown⟩

end Go.Proofs.Ytphabopnbcgodaa
