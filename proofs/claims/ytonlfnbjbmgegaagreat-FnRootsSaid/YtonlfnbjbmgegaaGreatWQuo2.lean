/-
  Walks: QuotientTerms and ExactQuotient, the program's and the reference's.
-/
import Derived.Test.YtonlfnbjbmgegaaGreatSQuo
namespace Go.Proofs.YtonlfnbjbmgegaaGreat
open Go.RowKit
open List renaming getElem_toArray → zp1, getElem_cons_zero → zp2, getElem_cons_succ → zp3, setIfInBounds_toArray → zp4, set_cons_zero → zp5, set_cons_succ → zp6
set_option linter.unusedSimpArgs false
set_option linter.unusedVariables false

/-- two numbers, and whether there are any -/
def RetQ (w : World) (o : Option (Sur × Sur)) (e : Ending) (w' : World) : Prop :=
  ∃ A c A' c', e = .returned (.tuple #[.agg #[.slice A (o.getD (.nil, .nil)).1.len c], .agg #[.slice A' (o.getD (.nil, .nil)).2.len c'], .bool o.isSome]) ∧ SSl (XL w) w' (o.getD (.nil, .nil)).1 A c ∧ SSl (XL w) w' (o.getD (.nil, .nil)).2 A' c' ∧ Below w.heap.size w w'
theorem RetQ.none {w w' : World} (hb : Below w.heap.size w w') {o : Option (Sur × Sur)} (h : o = .none) : RetQ w o (.returned (.tuple #[.agg #[.slice .none 0 0], .agg #[.slice .none 0 0], .bool false])) w' := by
  subst h
  exact ⟨.none, 0, .none, 0, rfl, SSl.nil _ _, SSl.nil _ _, hb⟩
attribute [local go_sem high] has_cell has_frozen
set_option synthInstance.maxHeartbeats 2000000 in
set_option maxHeartbeats 3200000 in
set_option maxRecDepth 100000 in
theorem mtwo_any (q r : Sur) (bad : Bool) (mb : Nat) (X Y : Nat → Prop) (A A' : Option Addr) (c c' : Nat) (w : World) [Has w mb (.cells #[.bool bad] 61 (0, 0))] (sq : SSl X w q A c) (sr : SSl Y w r A' c') :
    Calls Tryz.prog 39 #[.pointer (some ⟨mb, 0, none⟩), .agg #[.slice A q.len c], .agg #[.slice A' r.len c']] w fun e w' => ∃ B b B' b', e = .returned (.tuple #[.agg #[.slice B ((if bad = true then none else some (q, r)).getD (Sur.nil, Sur.nil)).1.len b], .agg #[.slice B' ((if bad = true then none else some (q, r)).getD (Sur.nil, Sur.nil)).2.len b'], .bool (if bad = true then none else some (q, r)).isSome]) ∧ SSl X w' ((if bad = true then none else some (q, r)).getD (Sur.nil, Sur.nil)).1 B b ∧ SSl Y w' ((if bad = true then none else some (q, r)).getD (Sur.nil, Sur.nil)).2 B' b' ∧ Below w.heap.size w w' := by
  haveI := Tr.arg sq
  haveI := Tr.arg sr
  clear sq sr
  cases bad
  · go_enter Tryz.func39, Tryz.ntmps39
    go_upto_region 3 with (first | ((with_reducible refine at_dst (N := 4) rfl ?_); refine ev_box (cs := #[.slice A q.len c]) (t := 26) rfl ?hr4 ?_; (case hr4 => first | (go_simp; done) | (go_simp; rfl)); intro g4 v4 _ _ _ _) | ((with_reducible refine at_dst (N := 5) rfl ?_); refine ev_box (cs := #[.slice A' r.len c']) (t := 26) rfl ?hr5 ?_; (case hr5 => first | (go_simp; done) | (go_simp; rfl)); intro g5 v5 _ _ _ _) | ((with_reducible refine at_dst (N := 6) rfl ?_); refine ev_box (cs := #[.slice none 0 0]) (t := 26) rfl ?hr6 ?_; (case hr6 => first | (go_simp; done) | (go_simp; rfl)); intro g6 v6 _ _ _ _) | ((with_reducible refine at_dst (N := 7) rfl ?_); refine ev_box (cs := #[.slice none 0 0]) (t := 26) rfl ?hr7 ?_; (case hr7 => first | (go_simp; done) | (go_simp; rfl)); intro g7 v7 _ _ _ _))
    refine wp_region_held_drew (S := (fun w' => w'.cell? ⟨g4, 0, none⟩ = some (.slice A q.len c) ∧ w'.cell? ⟨g5, 0, none⟩ = some (.slice A' r.len c'))) (by kernel_rfl) ?hSn1_ (fun hHeld => ?hRn1_)
    case hSn1_ => (exact ⟨has1, has1⟩)
    refine wpAnyH_take (i := 0) (v := ?vn1_1) rfl (by kernel_rfl) (by kernel_rfl) (by kernel_rfl) (fun _ _ _ h => h) (Or.inl ⟨by rfl, ?hyn1_1⟩) (by assumption) ?hRn1_1
    case hyn1_1 => (intro w hSw; (try dsimp only at hSw); go_simp; (try with_reducible rfl))
    try simp only [Act.put, zp1, zp2, zp3, zp4, zp5, zp6]
    refine wpAnyH_take (i := 1) (v := ?vn1_2) rfl (by kernel_rfl) (by kernel_rfl) (by kernel_rfl) (fun _ _ _ h => h) (Or.inl ⟨by rfl, ?hyn1_2⟩) (by assumption) ?hRn1_2
    case hyn1_2 => (intro w hSw; (try dsimp only at hSw); go_simp; (try with_reducible rfl))
    try simp only [Act.put, zp1, zp2, zp3, zp4, zp5, zp6]
    refine wpAnyH_ready (rs := [2]) (by kernel_rfl) (by simp) ?_
    refine AllReadyH.cons rfl (fun K hK => ?_) AllReadyH.nil
    go_simp
    refine hK.out _ _ ?hSn1_3 (fun hHeld => ?hRn1_3)
    case hSn1_3 => ((try dsimp only); exact ⟨has1, has1⟩)
    clear hK K
    try simp only [Act.put, zp1, zp2, zp3, zp4, zp5, zp6]
    refine wpAnyH_ready (rs := [3]) (by kernel_rfl) (by simp) ?_
    refine AllReadyH.cons rfl (fun K hK => ?_) AllReadyH.nil
    go_simp
    refine hK.out _ _ ?hSn1_4 (fun hHeld => ?hRn1_4)
    case hSn1_4 => ((try dsimp only); exact ⟨has1, has1⟩)
    clear hK K
    try simp only [Act.put, zp1, zp2, zp3, zp4, zp5, zp6]
    refine wpAnyH_take (i := 4) (v := ?vn1_5) rfl (by kernel_rfl) (by kernel_rfl) (by kernel_rfl) (fun _ _ _ h => h) (Or.inl ⟨by rfl, ?hyn1_5⟩) (by assumption) ?hRn1_5
    case hyn1_5 => (intro w hSw; (try dsimp only at hSw); go_simp; (try with_reducible rfl))
    try simp only [Act.put, zp1, zp2, zp3, zp4, zp5, zp6]
    refine wpAnyH_done (by kernel_rfl) ?_ _
    all_goals
      go_wp2
      refine bodyPost_ret (v := .tuple #[.agg #[.slice A q.len c], .agg #[.slice A' r.len c'], .bool true]) (by simp [results, Tryz.results39, go_sem]) rfl ?_
      exact ⟨A, c, A', c', rfl, (trx X _ A : SSl X _ q A c), (trx Y _ A' : SSl Y _ r A' c'), ext w _⟩
  · go_enter Tryz.func39, Tryz.ntmps39
    go_wp2_with (first | ((with_reducible refine at_dst (N := 4) rfl ?_); refine ev_box (cs := #[.slice A q.len c]) (t := 26) rfl ?hr4 ?_; (case hr4 => first | (go_simp; done) | (go_simp; rfl)); intro g4 v4 _ _ _ _) | ((with_reducible refine at_dst (N := 5) rfl ?_); refine ev_box (cs := #[.slice A' r.len c']) (t := 26) rfl ?hr5 ?_; (case hr5 => first | (go_simp; done) | (go_simp; rfl)); intro g5 v5 _ _ _ _) | ((with_reducible refine at_dst (N := 6) rfl ?_); refine ev_box (cs := #[.slice none 0 0]) (t := 26) rfl ?hr6 ?_; (case hr6 => first | (go_simp; done) | (go_simp; rfl)); intro g6 v6 _ _ _ _) | ((with_reducible refine at_dst (N := 7) rfl ?_); refine ev_box (cs := #[.slice none 0 0]) (t := 26) rfl ?hr7 ?_; (case hr7 => first | (go_simp; done) | (go_simp; rfl)); intro g7 v7 _ _ _ _))
    refine bodyPost_ret (v := .tuple #[.agg #[.slice none 0 0], .agg #[.slice none 0 0], .bool false]) (by simp [results, Tryz.results39, go_sem]) rfl ?_
    exact ⟨none, 0, none, 0, rfl, SSl.nil _ _, SSl.nil _ _, ext w _⟩

end Go.Proofs.YtonlfnbjbmgegaaGreat
