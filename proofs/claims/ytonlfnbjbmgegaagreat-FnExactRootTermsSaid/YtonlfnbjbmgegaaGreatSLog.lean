/-
  Walks, the reference's side: LogTerms.
-/
import Derived.Test.YtonlfnbjbmgegaaGreatBK
namespace Go.Proofs.YtonlfnbjbmgegaaGreat
open Go.RowKit
set_option linter.unusedSimpArgs false
set_option linter.unusedVariables false

theorem slogGo_stop (z : Sur) (n : Int) (k : Nat) (i : Int) (bad : Bool) (out p : Sur) (h : ¬ i ≤ n) : slogGo z n k i bad out p = (bad, out) := by
  cases k with
  | zero => rfl
  | succ k => simp only [slogGo]; rw [if_neg h]
theorem slogGo_step (z : Sur) (n : Int) (i : Nat) (bad : Bool) (out p : Sur) (h : (i : Int) ≤ n) (hi : i ≤ 13) : slogGo z n (14 - i) i bad out p =
    slogGo z n (14 - (i + 1)) ((i + 1 : Nat) : Int) (slogB3 z bad out p i) (slogOut z bad out p i) (slogP z bad p) := by
  rw [show 14 - i = (14 - (i + 1)) + 1 from by omega]
  simp only [slogGo]
  rw [if_pos h]
  rfl
theorem slogOut_nil (z : Sur) (bad : Bool) (out p : Sur) (i : Int) (h : slogB3 z bad out p i = true) : slogOut z bad out p i = .nil := by
  unfold slogOut keepS
  unfold slogB3 at h
  rw [if_pos h]

end Go.Proofs.YtonlfnbjbmgegaaGreat
