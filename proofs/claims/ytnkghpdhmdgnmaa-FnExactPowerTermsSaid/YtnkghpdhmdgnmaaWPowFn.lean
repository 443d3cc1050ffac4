/-
  PowerTerms: what the program computes, plain.
-/
import Derived.Test.YtnkghpdhmdgnmaaWLog
namespace Go.Proofs.Ytnkghpdhmdgnmaa
open Go.RowKit
set_option linter.unusedSimpArgs false
set_option linter.unusedVariables false

/-- the coefficient of a step -/
def cfS (a b i : Int) : Option (Int × Int) := fSubtract a b (i - 1) 1
def cfQ (a b i : Int) : Option (Int × Int) := fDivide ((cfS a b i).getD (0, 0)).1 ((cfS a b i).getD (0, 0)).2 i 1
def cfM (a b i : Int) (c : Int × Int) : Option (Int × Int) := fMultiply c.1 c.2 ((cfQ a b i).getD (0, 0)).1 ((cfQ a b i).getD (0, 0)).2
/-- what a step makes of the power, of the coefficient, and whether it failed -/
def powP (z p : Sur) (i : Int) : Sur := if 0 < i then (mulS p z).getD .nil else p
def powC (a b i : Int) (c : Int × Int) : Int × Int := if 0 < i then (cfM a b i c).getD (0, 0) else c
def powB (z p : Sur) (a b i : Int) (c : Int × Int) : Bool := if 0 < i then (((false || !(mulS p z).isSome) || !(cfS a b i).isSome) || !(cfQ a b i).isSome) || !(cfM a b i c).isSome else false
/-- the steps of a power, as the program makes them -/
def powGo (z : Sur) (n a b : Int) : Nat → Int → Bool → Sur → Sur → Int × Int → Bool × Sur
  | 0, _, bad, out, _, _ => (bad, out)
  | k + 1, i, bad, out, p, c =>
    if i < n ∧ bad = false then
      powGo z n a b k (i + 1) ((powB z p a b i c || !(scaleS (powP z p i) (powC a b i c).1 (powC a b i c).2).isSome) || !(addS out ((scaleS (powP z p i) (powC a b i c).1 (powC a b i c).2).getD .nil)).isSome)
        ((addS out ((scaleS (powP z p i) (powC a b i c).1 (powC a b i c).2).getD .nil)).getD .nil) (powP z p i) (powC a b i c)
    else (bad, out)
def powT (x : Sur) (a b n : Int) : Option Sur :=
  if (sGood x && (fracOk a b && stepsB n)) = true then
    let z := (lessOne x).getD .nil
    let r := powGo z n a b 13 0 (nearBad false x) .nil oneS (1, 1)
    if r.1 = true then none else some r.2
  else none
theorem powGo_stop (z : Sur) (n a b : Int) (k : Nat) (i : Int) (bad : Bool) (out p : Sur) (c : Int × Int) (h : ¬ (i < n ∧ bad = false)) : powGo z n a b k i bad out p c = (bad, out) := by
  cases k with
  | zero => rfl
  | succ k => simp only [powGo]; rw [if_neg h]
theorem powGo_step (z : Sur) (n a b : Int) (i : Nat) (out p : Sur) (c : Int × Int) (h : (i : Int) < n) (hi : i ≤ 12) : powGo z n a b (13 - i) i false out p c =
    powGo z n a b (13 - (i + 1)) ((i + 1 : Nat) : Int) ((powB z p a b i c || !(scaleS (powP z p i) (powC a b i c).1 (powC a b i c).2).isSome) || !(addS out ((scaleS (powP z p i) (powC a b i c).1 (powC a b i c).2).getD .nil)).isSome)
        ((addS out ((scaleS (powP z p i) (powC a b i c).1 (powC a b i c).2).getD .nil)).getD .nil) (powP z p i) (powC a b i c) := by
  rw [show 13 - i = (13 - (i + 1)) + 1 from by omega]
  simp only [powGo]
  rw [if_pos (by simp [h])]
  rfl

end Go.Proofs.Ytnkghpdhmdgnmaa
