/-
  Walks: a further root of nothing.
-/
import Derived.Test.YtonlfnbjbmgegaaGreatWRt
namespace Go.Proofs.YtonlfnbjbmgegaaGreat
open Go.RowKit
set_option linter.unusedSimpArgs false
set_option linter.unusedVariables false
attribute [local go_sem high] has_cell has_frozen
set_option synthInstance.maxHeartbeats 2000000 in
set_option maxHeartbeats 1600000 in
set_option maxRecDepth 100000 in
theorem nextRoot0_any (s r : Sur) (k : Nat) (mb : Nat) (A A' : Option Addr) (c c' : Nat) (w : World) [hmb : Has w mb (.cells #[.bool false] 61 (0, 0))] (ns : s.len = 0) :
    Calls Tryz.prog 35 #[.pointer (some ⟨mb, 0, none⟩), .agg #[.slice A s.len c], .agg #[.slice A' r.len c'], .int .i64 k] w fun e w' => ∃ A' c', e = .returned (.agg #[.slice A' (rnT s r k).len c']) ∧ SSl (XL w) w' (rnT s r k) A' c' ∧ Below w.heap.size (w.setCell ⟨mb, 0, none⟩ (.bool (rnB s r k))) w' := by
  have hT : rnT s r k = .nil := by unfold rnT; rw [if_pos ns]
  have hB : rnB s r k = true := by unfold rnB; rw [if_pos ns]
  rw [hT, hB]
  have hltm : mb < w.heap.size := has_lt hmb.h
  have hs1 : ((s.len : Int) == 0) = true := by simp [ns]
  clear hT hB ns
  go_enter Tryz.func35, Tryz.ntmps35
  go_wp2_with (first | ((with_reducible refine at_dst (N := 5) rfl ?_); refine ev_box (cs := #[.slice A s.len c]) (t := 26) rfl ?hr5 ?_; (case hr5 => first | (go_simp; done) | (go_simp; rfl)); intro g5 v5 _ _ _ _) | ((with_reducible refine at_dst (N := 6) rfl ?_); refine ev_box (cs := #[.slice A' r.len c']) (t := 26) rfl ?hr6 ?_; (case hr6 => first | (go_simp; done) | (go_simp; rfl)); intro g6 v6 _ _ _ _) | ((with_reducible refine at_dst (N := 8) rfl ?_); refine ev_box (cs := #[.slice none 0 0]) (t := 26) rfl ?hr8 ?_; (case hr8 => first | (go_simp; done) | (go_simp; rfl)); intro g8 v8 _ _ _ _) | (go_at_call 33; refine (isNothing_any s A c _).mono ?_; rintro e12 w12 ⟨rfl, hb⟩; haveI : Bel _ w12 := ⟨hb⟩; clear hb))
  refine bodyPost_ret (v := .agg #[.slice none 0 0]) (by simp [results, Tryz.results35, go_sem]) rfl ?_
  exact ⟨none, 0, rfl, SSl.nil _ _, marked w _ mb⟩
end Go.Proofs.YtonlfnbjbmgegaaGreat
