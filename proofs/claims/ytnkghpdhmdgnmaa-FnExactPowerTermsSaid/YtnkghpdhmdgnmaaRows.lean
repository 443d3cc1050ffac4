/-
  NARROWER THAN 'FOR EVERY INPUT', by the rows' own cells (each row's printed sentence says how): FnExactLogTerms: loops · FnExactPowerTerms: loops · FnExactPutEntry: loops · FnExactMergeNotebooks: loops.
  DERIVED. THE GIVEN ROWS OF THIS SEAT. 8 by the template 'for every input the law returns true; each argument reads behind the call as it read before'; 0 by the template 'total and deterministic' (their statements: YtnkghpdhmdgnmaaTotals.lean).
  GIVEN WITH THE SEED: the statements are not yours to turn. If you find one false, say at which input.
  Laid BY PROGRAM, IN A SANDBOX (cutbox-rows.mjs): the forced cells as the released guide's own fill.sh prints them over the translation 5595a72d3c2b543d… (all of the seat's roots in one cut). By AI agents, Wed Nov 11 2026. No macro, syntax, notation, axiom, sorry.
-/
import Derived.Test.YtnkghpdhmdgnmaaChecked
import GoSem.Claim
import GoSem.ClaimJoined
import GoSem.ClaimMapViews
import Derived.JoinedTies
import Derived.KernelRfl
namespace Go.Proofs.Ytnkghpdhmdgnmaa
/- THE CELL 'sum', in the pinned program and in every row, IS THE sha256 OF THE DUMP (.gsa) THAT YtnkghpdhmdgnmaaProg.lean LOADS. Nothing in Lean hashes anything: it is a label: what it is worth is what the hold of that sum in a sandbox is worth. -/
noncomputable def Try.pinned : Pinned := { name := "ytnkghpdhmdgnmaa", sum := "5595a72d3c2b543d07c0b47c4491d6916447efd34c292727d07cb51147e131a1", checked := Try.checked }
namespace Rows
def none {H : Type} : Left H := { results := [], args := [] }

/-- 'laws.FnSurrealSums': WHATEVER THE INPUT: true; the input reads as it did. -/
def fnSurrealSumsSpec : ChangeSpec := { name := "fnSurrealSums", fn := fun _ => fun
  | [d1, d2] => { results := [.lit (.bool true)], args := [d1, d2] }
  | _ => none }
def fnSurrealSumsRow : OpenClaim := { program := "ytnkghpdhmdgnmaa", sum := "5595a72d3c2b543d07c0b47c4491d6916447efd34c292727d07cb51147e131a1", func := "loop.example/g01096/laws.FnSurrealSums", spec := "fnSurrealSums", unfollowed := true, recurses := true, apart := false }
def FnSurrealSumsSaid : Prop := fnSurrealSumsRow.holds Try.pinned (OpenSpec.ofChange fnSurrealSumsSpec)

/-- ITS FALSE NEIGHBOUR: 'it returns false'. Refute it at one input. -/
def fnSurrealSumsWrong : ChangeSpec := { name := "fnSurrealSums", fn := fun _ => fun
  | [d1, d2] => { results := [.lit (.bool false)], args := [d1, d2] }
  | _ => none }
def FnSurrealSumsWrongFalsely : Prop := fnSurrealSumsRow.holds Try.pinned (OpenSpec.ofChange fnSurrealSumsWrong)

/-- 'laws.FnExactLogTerms': WHATEVER THE INPUT: true; the input reads as it did. -/
def fnExactLogTermsSpec : ChangeSpec := { name := "fnExactLogTerms", fn := fun _ => fun
  | [d1, d2] => { results := [.lit (.bool true)], args := [d1, d2] }
  | _ => none }
def fnExactLogTermsRow : OpenClaim := { program := "ytnkghpdhmdgnmaa", sum := "5595a72d3c2b543d07c0b47c4491d6916447efd34c292727d07cb51147e131a1", func := "loop.example/g01096/laws.FnExactLogTerms", spec := "fnExactLogTerms", unfollowed := true, recurses := true, loops := true, apart := false }
def FnExactLogTermsSaid : Prop := fnExactLogTermsRow.holds Try.pinned (OpenSpec.ofChange fnExactLogTermsSpec)

/-- ITS FALSE NEIGHBOUR: 'it returns false'. Refute it at one input. -/
def fnExactLogTermsWrong : ChangeSpec := { name := "fnExactLogTerms", fn := fun _ => fun
  | [d1, d2] => { results := [.lit (.bool false)], args := [d1, d2] }
  | _ => none }
def FnExactLogTermsWrongFalsely : Prop := fnExactLogTermsRow.holds Try.pinned (OpenSpec.ofChange fnExactLogTermsWrong)

/-- 'laws.FnSurrealProducts': WHATEVER THE INPUT: true; the input reads as it did. -/
def fnSurrealProductsSpec : ChangeSpec := { name := "fnSurrealProducts", fn := fun _ => fun
  | [d1, d2] => { results := [.lit (.bool true)], args := [d1, d2] }
  | _ => none }
def fnSurrealProductsRow : OpenClaim := { program := "ytnkghpdhmdgnmaa", sum := "5595a72d3c2b543d07c0b47c4491d6916447efd34c292727d07cb51147e131a1", func := "loop.example/g01096/laws.FnSurrealProducts", spec := "fnSurrealProducts", unfollowed := true, recurses := true, apart := false }
def FnSurrealProductsSaid : Prop := fnSurrealProductsRow.holds Try.pinned (OpenSpec.ofChange fnSurrealProductsSpec)

/-- ITS FALSE NEIGHBOUR: 'it returns false'. Refute it at one input. -/
def fnSurrealProductsWrong : ChangeSpec := { name := "fnSurrealProducts", fn := fun _ => fun
  | [d1, d2] => { results := [.lit (.bool false)], args := [d1, d2] }
  | _ => none }
def FnSurrealProductsWrongFalsely : Prop := fnSurrealProductsRow.holds Try.pinned (OpenSpec.ofChange fnSurrealProductsWrong)

/-- 'laws.FnParts': WHATEVER THE INPUT: true; the input reads as it did. -/
def fnPartsSpec : ChangeSpec := { name := "fnParts", fn := fun _ => fun
  | [d1, d2] => { results := [.lit (.bool true)], args := [d1, d2] }
  | _ => none }
def fnPartsRow : OpenClaim := { program := "ytnkghpdhmdgnmaa", sum := "5595a72d3c2b543d07c0b47c4491d6916447efd34c292727d07cb51147e131a1", func := "loop.example/g01096/laws.FnParts", spec := "fnParts", unfollowed := true, recurses := true, apart := false }
def FnPartsSaid : Prop := fnPartsRow.holds Try.pinned (OpenSpec.ofChange fnPartsSpec)

/-- ITS FALSE NEIGHBOUR: 'it returns false'. Refute it at one input. -/
def fnPartsWrong : ChangeSpec := { name := "fnParts", fn := fun _ => fun
  | [d1, d2] => { results := [.lit (.bool false)], args := [d1, d2] }
  | _ => none }
def FnPartsWrongFalsely : Prop := fnPartsRow.holds Try.pinned (OpenSpec.ofChange fnPartsWrong)

/-- 'laws.FnExponentials': WHATEVER THE INPUT: true; the input reads as it did. -/
def fnExponentialsSpec : ChangeSpec := { name := "fnExponentials", fn := fun _ => fun
  | [d1, d2] => { results := [.lit (.bool true)], args := [d1, d2] }
  | _ => none }
def fnExponentialsRow : OpenClaim := { program := "ytnkghpdhmdgnmaa", sum := "5595a72d3c2b543d07c0b47c4491d6916447efd34c292727d07cb51147e131a1", func := "loop.example/g01096/laws.FnExponentials", spec := "fnExponentials", unfollowed := true, recurses := true, apart := false }
def FnExponentialsSaid : Prop := fnExponentialsRow.holds Try.pinned (OpenSpec.ofChange fnExponentialsSpec)

/-- ITS FALSE NEIGHBOUR: 'it returns false'. Refute it at one input. -/
def fnExponentialsWrong : ChangeSpec := { name := "fnExponentials", fn := fun _ => fun
  | [d1, d2] => { results := [.lit (.bool false)], args := [d1, d2] }
  | _ => none }
def FnExponentialsWrongFalsely : Prop := fnExponentialsRow.holds Try.pinned (OpenSpec.ofChange fnExponentialsWrong)

/-- 'laws.FnExactPowerTerms': WHATEVER THE INPUT: true; the input reads as it did. -/
def fnExactPowerTermsSpec : ChangeSpec := { name := "fnExactPowerTerms", fn := fun _ => fun
  | [d1, d2, d3] => { results := [.lit (.bool true)], args := [d1, d2, d3] }
  | _ => none }
def fnExactPowerTermsRow : OpenClaim := { program := "ytnkghpdhmdgnmaa", sum := "5595a72d3c2b543d07c0b47c4491d6916447efd34c292727d07cb51147e131a1", func := "loop.example/g01096/laws.FnExactPowerTerms", spec := "fnExactPowerTerms", unfollowed := true, recurses := true, loops := true, apart := false }
def FnExactPowerTermsSaid : Prop := fnExactPowerTermsRow.holds Try.pinned (OpenSpec.ofChange fnExactPowerTermsSpec)

/-- ITS FALSE NEIGHBOUR: 'it returns false'. Refute it at one input. -/
def fnExactPowerTermsWrong : ChangeSpec := { name := "fnExactPowerTerms", fn := fun _ => fun
  | [d1, d2, d3] => { results := [.lit (.bool false)], args := [d1, d2, d3] }
  | _ => none }
def FnExactPowerTermsWrongFalsely : Prop := fnExactPowerTermsRow.holds Try.pinned (OpenSpec.ofChange fnExactPowerTermsWrong)

/-- 'laws.FnExactPutEntry': WHATEVER THE INPUT: true; the input reads as it did. -/
def fnExactPutEntrySpec : ChangeSpec := { name := "fnExactPutEntry", fn := fun _ => fun
  | [d1, d2, d3] => { results := [.lit (.bool true)], args := [d1, d2, d3] }
  | _ => none }
def fnExactPutEntryRow : OpenClaim := { program := "ytnkghpdhmdgnmaa", sum := "5595a72d3c2b543d07c0b47c4491d6916447efd34c292727d07cb51147e131a1", func := "loop.example/g01096/laws.FnExactPutEntry", spec := "fnExactPutEntry", inPlace := ["internal/bytealg.abigen_runtime_cmpstring", "slices.overlaps[loop.example/g01096/impl.Entry]"], unfollowed := true, recurses := true, loops := true, apart := false }
def FnExactPutEntrySaid : Prop := fnExactPutEntryRow.holds Try.pinned (OpenSpec.ofChange fnExactPutEntrySpec)

/-- ITS FALSE NEIGHBOUR: 'it returns false'. Refute it at one input. -/
def fnExactPutEntryWrong : ChangeSpec := { name := "fnExactPutEntry", fn := fun _ => fun
  | [d1, d2, d3] => { results := [.lit (.bool false)], args := [d1, d2, d3] }
  | _ => none }
def FnExactPutEntryWrongFalsely : Prop := fnExactPutEntryRow.holds Try.pinned (OpenSpec.ofChange fnExactPutEntryWrong)

/-- 'laws.FnExactMergeNotebooks': WHATEVER THE INPUT: true; the input reads as it did. -/
def fnExactMergeNotebooksSpec : ChangeSpec := { name := "fnExactMergeNotebooks", fn := fun _ => fun
  | [d1, d2] => { results := [.lit (.bool true)], args := [d1, d2] }
  | _ => none }
def fnExactMergeNotebooksRow : OpenClaim := { program := "ytnkghpdhmdgnmaa", sum := "5595a72d3c2b543d07c0b47c4491d6916447efd34c292727d07cb51147e131a1", func := "loop.example/g01096/laws.FnExactMergeNotebooks", spec := "fnExactMergeNotebooks", inPlace := ["internal/bytealg.abigen_runtime_cmpstring", "slices.overlaps[loop.example/g01096/impl.Entry]"], unfollowed := true, recurses := true, loops := true, apart := false }
def FnExactMergeNotebooksSaid : Prop := fnExactMergeNotebooksRow.holds Try.pinned (OpenSpec.ofChange fnExactMergeNotebooksSpec)

/-- ITS FALSE NEIGHBOUR: 'it returns false'. Refute it at one input. -/
def fnExactMergeNotebooksWrong : ChangeSpec := { name := "fnExactMergeNotebooks", fn := fun _ => fun
  | [d1, d2] => { results := [.lit (.bool false)], args := [d1, d2] }
  | _ => none }
def FnExactMergeNotebooksWrongFalsely : Prop := fnExactMergeNotebooksRow.holds Try.pinned (OpenSpec.ofChange fnExactMergeNotebooksWrong)

/- THE SECOND FORM. 'bulk': how many values and letters a reading holds, each counted each time it is reached (what is shared counts as often as it is met; a slice's spare places count too). A statement '..UptoSaid' is the law's where the arguments, and the package variables that the reading takes, are together of bulk at most 1048576: NARROWER than '..Said'. Prove '..Said' where nothing that the law and all that it calls make is longer than what came in: it says more and counts as full. Else prove '..UptoSaid'. A law counts once. -/
mutual
def uptoBulk {H : Type} : DataW H → Nat
  | .lit (.string bytes) => bytes.length + 1
  | .lit _ => 1
  | .nil => 1
  | .ptr d => uptoBulk d + 1
  | .slice elems spare => uptoBulkAll elems + uptoBulkAll spare + 1
  | .agg parts => uptoBulkAll parts + 1
  | .iface _ d => uptoBulk d + 1
  | .map entries => uptoBulkEntries entries + 1
  | .held _ => 1
def uptoBulkAll {H : Type} : List (DataW H) → Nat
  | [] => 0
  | d :: r => uptoBulk d + uptoBulkAll r
def uptoBulkEntries {H : Type} : List (Lit × DataW H) → Nat
  | [] => 0
  | x :: r => uptoBulkEntry x + uptoBulkEntries r
def uptoBulkEntry {H : Type} : Lit × DataW H → Nat
  | (.string bytes, d) => bytes.length + uptoBulk d + 1
  | (_, d) => uptoBulk d + 1
 end
def uptoSmall : (H : Type) → List (DataW H) → Bool := fun _ ds => decide (uptoBulkAll ds ≤ 1048576)
def OpenSpec.upto (s : _root_.Go.ChangeSpec) : _root_.Go.OpenSpec := { _root_.Go.OpenSpec.ofChange s with cond := some uptoSmall }

/-- 'laws.FnSurrealSums', WHERE WHAT IT READS IS OF BULK AT MOST 1048576: true; the input reads as it did. -/
def fnSurrealSumsUptoRow : OpenClaim := { program := "ytnkghpdhmdgnmaa", sum := "5595a72d3c2b543d07c0b47c4491d6916447efd34c292727d07cb51147e131a1", func := "loop.example/g01096/laws.FnSurrealSums", spec := "fnSurrealSums", unfollowed := true, recurses := true, apart := false, narrowed := true }
def FnSurrealSumsUptoSaid : Prop := fnSurrealSumsUptoRow.holds Try.pinned (OpenSpec.upto fnSurrealSumsSpec)

/-- 'laws.FnExactLogTerms', WHERE WHAT IT READS IS OF BULK AT MOST 1048576: true; the input reads as it did. -/
def fnExactLogTermsUptoRow : OpenClaim := { program := "ytnkghpdhmdgnmaa", sum := "5595a72d3c2b543d07c0b47c4491d6916447efd34c292727d07cb51147e131a1", func := "loop.example/g01096/laws.FnExactLogTerms", spec := "fnExactLogTerms", unfollowed := true, recurses := true, loops := true, apart := false, narrowed := true }
def FnExactLogTermsUptoSaid : Prop := fnExactLogTermsUptoRow.holds Try.pinned (OpenSpec.upto fnExactLogTermsSpec)

/-- 'laws.FnSurrealProducts', WHERE WHAT IT READS IS OF BULK AT MOST 1048576: true; the input reads as it did. -/
def fnSurrealProductsUptoRow : OpenClaim := { program := "ytnkghpdhmdgnmaa", sum := "5595a72d3c2b543d07c0b47c4491d6916447efd34c292727d07cb51147e131a1", func := "loop.example/g01096/laws.FnSurrealProducts", spec := "fnSurrealProducts", unfollowed := true, recurses := true, apart := false, narrowed := true }
def FnSurrealProductsUptoSaid : Prop := fnSurrealProductsUptoRow.holds Try.pinned (OpenSpec.upto fnSurrealProductsSpec)

/-- 'laws.FnParts', WHERE WHAT IT READS IS OF BULK AT MOST 1048576: true; the input reads as it did. -/
def fnPartsUptoRow : OpenClaim := { program := "ytnkghpdhmdgnmaa", sum := "5595a72d3c2b543d07c0b47c4491d6916447efd34c292727d07cb51147e131a1", func := "loop.example/g01096/laws.FnParts", spec := "fnParts", unfollowed := true, recurses := true, apart := false, narrowed := true }
def FnPartsUptoSaid : Prop := fnPartsUptoRow.holds Try.pinned (OpenSpec.upto fnPartsSpec)

/-- 'laws.FnExponentials', WHERE WHAT IT READS IS OF BULK AT MOST 1048576: true; the input reads as it did. -/
def fnExponentialsUptoRow : OpenClaim := { program := "ytnkghpdhmdgnmaa", sum := "5595a72d3c2b543d07c0b47c4491d6916447efd34c292727d07cb51147e131a1", func := "loop.example/g01096/laws.FnExponentials", spec := "fnExponentials", unfollowed := true, recurses := true, apart := false, narrowed := true }
def FnExponentialsUptoSaid : Prop := fnExponentialsUptoRow.holds Try.pinned (OpenSpec.upto fnExponentialsSpec)

/-- 'laws.FnExactPowerTerms', WHERE WHAT IT READS IS OF BULK AT MOST 1048576: true; the input reads as it did. -/
def fnExactPowerTermsUptoRow : OpenClaim := { program := "ytnkghpdhmdgnmaa", sum := "5595a72d3c2b543d07c0b47c4491d6916447efd34c292727d07cb51147e131a1", func := "loop.example/g01096/laws.FnExactPowerTerms", spec := "fnExactPowerTerms", unfollowed := true, recurses := true, loops := true, apart := false, narrowed := true }
def FnExactPowerTermsUptoSaid : Prop := fnExactPowerTermsUptoRow.holds Try.pinned (OpenSpec.upto fnExactPowerTermsSpec)

/-- 'laws.FnExactPutEntry', WHERE WHAT IT READS IS OF BULK AT MOST 1048576: true; the input reads as it did. -/
def fnExactPutEntryUptoRow : OpenClaim := { program := "ytnkghpdhmdgnmaa", sum := "5595a72d3c2b543d07c0b47c4491d6916447efd34c292727d07cb51147e131a1", func := "loop.example/g01096/laws.FnExactPutEntry", spec := "fnExactPutEntry", inPlace := ["internal/bytealg.abigen_runtime_cmpstring", "slices.overlaps[loop.example/g01096/impl.Entry]"], unfollowed := true, recurses := true, loops := true, apart := false, narrowed := true }
def FnExactPutEntryUptoSaid : Prop := fnExactPutEntryUptoRow.holds Try.pinned (OpenSpec.upto fnExactPutEntrySpec)

/-- 'laws.FnExactMergeNotebooks', WHERE WHAT IT READS IS OF BULK AT MOST 1048576: true; the input reads as it did. -/
def fnExactMergeNotebooksUptoRow : OpenClaim := { program := "ytnkghpdhmdgnmaa", sum := "5595a72d3c2b543d07c0b47c4491d6916447efd34c292727d07cb51147e131a1", func := "loop.example/g01096/laws.FnExactMergeNotebooks", spec := "fnExactMergeNotebooks", inPlace := ["internal/bytealg.abigen_runtime_cmpstring", "slices.overlaps[loop.example/g01096/impl.Entry]"], unfollowed := true, recurses := true, loops := true, apart := false, narrowed := true }
def FnExactMergeNotebooksUptoSaid : Prop := fnExactMergeNotebooksUptoRow.holds Try.pinned (OpenSpec.upto fnExactMergeNotebooksSpec)

end Rows
end Go.Proofs.Ytnkghpdhmdgnmaa
