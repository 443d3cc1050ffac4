/-
  The draws of QuotientTerms and CheckQuotient.
-/
import Derived.Test.YtonlfnbjbmgegaaGreatE4
import Derived.Test.YtonlfnbjbmgegaaGreatSQuo
namespace Go.Proofs.YtonlfnbjbmgegaaGreat
open Go.RowKit
set_option linter.unusedSimpArgs false
set_option linter.unusedVariables false

attribute [local go_sem high] has_cell has_frozen
structure OptV2 (o : Option Sur) (z : Sur) (b : Bool) : Prop where
  hz : o.getD .nil = z
  hb : o.isSome = b
theorem optV2 (o : Option Sur) : ∃ z b, OptV2 o z b := ⟨_, _, rfl, rfl⟩
theorem surG (x : Sur) : ∃ z, Hid (x = z) := ⟨x, rfl⟩
theorem boolG2 (b : Bool) : ∃ c, Hid (b = c) := ⟨b, rfl⟩
end Go.Proofs.YtonlfnbjbmgegaaGreat
