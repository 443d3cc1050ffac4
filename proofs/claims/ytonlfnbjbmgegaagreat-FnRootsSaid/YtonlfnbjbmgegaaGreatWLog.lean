/-
  Walks: LogTerms.
-/
import Derived.Test.YtonlfnbjbmgegaaGreatBI
import Derived.Deep.DeepCutAuto
import Derived.Deep.RegionHeld3
namespace Go.Proofs.YtonlfnbjbmgegaaGreat
open Go.RowKit
set_option linter.unusedSimpArgs false
set_option linter.unusedVariables false

theorem Blk.q0 {w w2 : World} {mb : Nat} {t : TypeId} {u v : Value} (h : Blk w mb t #[u]) (hb : Below w.heap.size (w.setCell ⟨mb, 0, none⟩ v) w2) : Blk w2 mb t #[v] := (h.set_ 0 v).below hb h.lt

theorem SSl.drew {X : Nat → Prop} {w : World} {e : Sur} {A : Option Addr} {c : Nat} (h : SSl X w e A c) : SSl X w.drew e A c := h.below (by go_grown)
theorem SFresh.drew {B : Nat} {w : World} {e : Sur} {A : Option Addr} {c : Nat} (h : SFresh B w e A c) : SFresh B w.drew e A c := h.below (by go_grown)
/-- the power at a step -/
def logPow (z p : Sur) (i : Int) : Option Sur := if 1 < i then mulS p z else some p
def logSc (p : Sur) (i : Int) : Option Sur := scaleS p (2 * i.tmod 2 - 1) i
/-- the steps of a logarithm, as the program makes them -/
def logGo (z : Sur) (n : Int) : Nat → Int → Bool → Sur → Sur → Bool × Sur
  | 0, _, bad, out, _ => (bad, out)
  | k + 1, i, bad, out, p =>
    if i ≤ n ∧ bad = false then
      logGo z n k (i + 1) (((bad || !(logPow z p i).isSome) || !(logSc ((logPow z p i).getD .nil) i).isSome) || !(addS out ((logSc ((logPow z p i).getD .nil) i).getD .nil)).isSome)
        ((addS out ((logSc ((logPow z p i).getD .nil) i).getD .nil)).getD .nil) ((logPow z p i).getD .nil)
    else (bad, out)
def logT (x : Sur) (n : Int) : Option Sur :=
  if (sGood x && stepsB n) = true then
    let z := (lessOne x).getD .nil
    let r := logGo z n 13 1 (nearBad false x) .nil z
    if r.1 = true then none else some r.2
  else none
theorem logGo_stop (z : Sur) (n : Int) (k : Nat) (i : Int) (bad : Bool) (out p : Sur) (h : ¬ (i ≤ n ∧ bad = false)) : logGo z n k i bad out p = (bad, out) := by
  cases k with
  | zero => rfl
  | succ k => simp only [logGo]; rw [if_neg h]
theorem logGo_step (z : Sur) (n : Int) (i : Nat) (out p : Sur) (h : (i : Int) ≤ n) (hi : i ≤ 13) : logGo z n (14 - i) i false out p =
    logGo z n (14 - (i + 1)) ((i + 1 : Nat) : Int) (((false || !(logPow z p i).isSome) || !(logSc ((logPow z p i).getD .nil) i).isSome) || !(addS out ((logSc ((logPow z p i).getD .nil) i).getD .nil)).isSome)
        ((addS out ((logSc ((logPow z p i).getD .nil) i).getD .nil)).getD .nil) ((logPow z p i).getD .nil) := by
  rw [show 14 - i = (14 - (i + 1)) + 1 from by omega]
  simp only [logGo]
  rw [if_pos (by simp [h])]
  rfl
theorem stepsB_true {n : Int} (h : stepsB n = true) : 0 ≤ n ∧ n ≤ 12 := inB_true.1 h

end Go.Proofs.YtonlfnbjbmgegaaGreat
