/-
  Walks: a maker's coefficient.
-/
import Derived.Test.YtonlfnbjbmgegaaGreatWLog
import Derived.Test.YtonlfnbjbmgegaaGreatBG
import Derived.Test.YtonlfnbjbmgegaaGreatBL
namespace Go.Proofs.YtonlfnbjbmgegaaGreat
open Go.RowKit
set_option linter.unusedSimpArgs false
set_option linter.unusedVariables false

set_option maxHeartbeats 400000 in
theorem mcoef_any (n d : Int) (ok bad : Bool) (mb : Nat) (w : World) (hm : w.cell? ⟨mb, 0, none⟩ = some (.bool bad)) (hf : w.frozen? ⟨mb, 0, none⟩ = false) :
    Calls Tryz.prog 83 #[.pointer (some ⟨mb, 0, none⟩), .agg #[.int .i64 n, .int .i64 d], .bool ok] w fun e w' => e = .returned (.agg #[.int .i64 n, .int .i64 d]) ∧ Below w.heap.size (w.setCell ⟨mb, 0, none⟩ (.bool (bad || !ok))) w' := by
  have hlt : mb < w.heap.size := World.block_lt_of_cell? w ⟨mb, 0, none⟩ hm
  have hn1 : ¬ mb = w.heap.size := by omega
  have hn2 : ¬ mb = w.heap.size + 1 := by omega
  cases bad <;> cases ok
  all_goals
    go_enter Tryz.func83, Tryz.ntmps83
    go_wp2
    refine bodyPost_ret (v := .agg #[.int .i64 n, .int .i64 d]) (by simp [results, Tryz.results83, go_sem]) rfl ?_
    refine ⟨rfl, ?_⟩
    refine Below.alloc (Below.alloc (Below.refl _ _) ?_ _) ?_ _
    · simp only [World.size_setCell]; exact Nat.le_refl _
    · simp only [World.size_alloc, World.size_setCell]; omega

theorem optF_eq (o : Option (Int × Int)) : optF o = .tuple #[.agg #[.int .i64 (o.getD (0, 0)).1, .int .i64 (o.getD (0, 0)).2], .bool o.isSome] := by rcases o with _ | ⟨_, _⟩ <;> rfl
end Go.Proofs.YtonlfnbjbmgegaaGreat
