/-
  Walks: QuotientTerms and ExactQuotient, the program's and the reference's.
-/
import Derived.Test.YtphabopnbcgodaaGreatSQuo
namespace Go.Proofs.YtphabopnbcgodaaGreat
open Go.RowKit
open List renaming getElem_toArray → zp1, getElem_cons_zero → zp2, getElem_cons_succ → zp3, setIfInBounds_toArray → zp4, set_cons_zero → zp5, set_cons_succ → zp6
set_option linter.unusedSimpArgs false
set_option linter.unusedVariables false

/-- two numbers, and whether there are any -/
def RetQ (w : World) (o : Option (Sur × Sur)) (e : Ending) (w' : World) : Prop :=
  ∃ A c A' c', e = .returned (.tuple #[.agg #[.slice A (o.getD (.nil, .nil)).1.len c], .agg #[.slice A' (o.getD (.nil, .nil)).2.len c'], .bool o.isSome]) ∧ SSl (XL w) w' (o.getD (.nil, .nil)).1 A c ∧ SSl (XL w) w' (o.getD (.nil, .nil)).2 A' c' ∧ Below w.heap.size w w'
theorem RetQ.none {w w' : World} (hb : Below w.heap.size w w') {o : Option (Sur × Sur)} (h : o = .none) : RetQ w o (.returned (.tuple #[.agg #[.slice .none 0 0], .agg #[.slice .none 0 0], .bool false])) w' := by
  subst h
  exact ⟨.none, 0, .none, 0, rfl, SSl.nil _ _, SSl.nil _ _, hb⟩
attribute [local go_sem high] has_cell has_frozen
set_option synthInstance.maxHeartbeats 2000000 in
set_option maxHeartbeats 3200000 in
set_option maxRecDepth 100000 in
theorem mtwo_any (q r : Sur) (bad : Bool) (mb : Nat) (X Y : Nat → Prop) (A A' : Option Addr) (c c' : Nat) (w : World) [Has w mb (.cells #[.bool bad] 77 (0, 0))] (sq : SSl X w q A c) (sr : SSl Y w r A' c') :
    Calls Tryz.prog 89 #[.pointer (some ⟨mb, 0, none⟩), .agg #[.slice A q.len c], .agg #[.slice A' r.len c']] w fun e w' => ∃ B b B' b', e = .returned (.tuple #[.agg #[.slice B ((if bad = true then none else some (q, r)).getD (Sur.nil, Sur.nil)).1.len b], .agg #[.slice B' ((if bad = true then none else some (q, r)).getD (Sur.nil, Sur.nil)).2.len b'], .bool (if bad = true then none else some (q, r)).isSome]) ∧ SSl X w' ((if bad = true then none else some (q, r)).getD (Sur.nil, Sur.nil)).1 B b ∧ SSl Y w' ((if bad = true then none else some (q, r)).getD (Sur.nil, Sur.nil)).2 B' b' ∧ Below w.heap.size w w' := by
  haveI := Tr.arg sq
  haveI := Tr.arg sr
  clear sq sr
  cases bad
  · go_enter Tryz.func89, Tryz.ntmps89
    go_upto_region 3 with (first | ((with_reducible refine at_dst (N := 4) rfl ?_); refine ev_box (cs := #[.slice A q.len c]) (t := 26) rfl ?hr4 ?_; (case hr4 => first | (go_simp; done) | (go_simp; rfl)); intro g4 v4 _ _ _ _) | ((with_reducible refine at_dst (N := 5) rfl ?_); refine ev_box (cs := #[.slice A' r.len c']) (t := 26) rfl ?hr5 ?_; (case hr5 => first | (go_simp; done) | (go_simp; rfl)); intro g5 v5 _ _ _ _) | ((with_reducible refine at_dst (N := 6) rfl ?_); refine ev_box (cs := #[.slice none 0 0]) (t := 26) rfl ?hr6 ?_; (case hr6 => first | (go_simp; done) | (go_simp; rfl)); intro g6 v6 _ _ _ _) | ((with_reducible refine at_dst (N := 7) rfl ?_); refine ev_box (cs := #[.slice none 0 0]) (t := 26) rfl ?hr7 ?_; (case hr7 => first | (go_simp; done) | (go_simp; rfl)); intro g7 v7 _ _ _ _))
    refine wp_region_held_drew (S := (fun w' => w'.cell? ⟨g4, 0, none⟩ = some (.slice A q.len c) ∧ w'.cell? ⟨g5, 0, none⟩ = some (.slice A' r.len c'))) (by kernel_rfl) ?hSn1_ (fun hHeld => ?hRn1_)
    case hSn1_ => (exact ⟨has1, has1⟩)
    refine wpAnyH_take (i := 0) (v := ?vn1_1) rfl (by kernel_rfl) (by kernel_rfl) (by kernel_rfl) (fun _ _ _ h => h) (Or.inl ⟨by rfl, ?hyn1_1⟩) (by assumption) ?hRn1_1
    case hyn1_1 => (intro w hSw; (try dsimp only at hSw); go_simp; (try with_reducible rfl))
    try simp only [Act.put, zp1, zp2, zp3, zp4, zp5, zp6]
    refine wpAnyH_take (i := 1) (v := ?vn1_2) rfl (by kernel_rfl) (by kernel_rfl) (by kernel_rfl) (fun _ _ _ h => h) (Or.inl ⟨by rfl, ?hyn1_2⟩) (by assumption) ?hRn1_2
    case hyn1_2 => (intro w hSw; (try dsimp only at hSw); go_simp; (try with_reducible rfl))
    try simp only [Act.put, zp1, zp2, zp3, zp4, zp5, zp6]
    refine wpAnyH_ready (rs := [2]) (by kernel_rfl) (by simp) ?_
    refine AllReadyH.cons rfl (fun K hK => ?_) AllReadyH.nil
    go_simp
    refine hK.out _ _ ?hSn1_3 (fun hHeld => ?hRn1_3)
    case hSn1_3 => ((try dsimp only); exact ⟨has1, has1⟩)
    clear hK K
    try simp only [Act.put, zp1, zp2, zp3, zp4, zp5, zp6]
    refine wpAnyH_ready (rs := [3]) (by kernel_rfl) (by simp) ?_
    refine AllReadyH.cons rfl (fun K hK => ?_) AllReadyH.nil
    go_simp
    refine hK.out _ _ ?hSn1_4 (fun hHeld => ?hRn1_4)
    case hSn1_4 => ((try dsimp only); exact ⟨has1, has1⟩)
    clear hK K
    try simp only [Act.put, zp1, zp2, zp3, zp4, zp5, zp6]
    refine wpAnyH_take (i := 4) (v := ?vn1_5) rfl (by kernel_rfl) (by kernel_rfl) (by kernel_rfl) (fun _ _ _ h => h) (Or.inl ⟨by rfl, ?hyn1_5⟩) (by assumption) ?hRn1_5
    case hyn1_5 => (intro w hSw; (try dsimp only at hSw); go_simp; (try with_reducible rfl))
    try simp only [Act.put, zp1, zp2, zp3, zp4, zp5, zp6]
    refine wpAnyH_done (by kernel_rfl) ?_ _
    all_goals
      go_wp2
      refine bodyPost_ret (v := .tuple #[.agg #[.slice A q.len c], .agg #[.slice A' r.len c'], .bool true]) (by simp [results, Tryz.results89, go_sem]) rfl ?_
      exact ⟨A, c, A', c', rfl, (trx X _ A : SSl X _ q A c), (trx Y _ A' : SSl Y _ r A' c'), ext w _⟩
  · go_enter Tryz.func89, Tryz.ntmps89
    go_wp2_with (first | ((with_reducible refine at_dst (N := 4) rfl ?_); refine ev_box (cs := #[.slice A q.len c]) (t := 26) rfl ?hr4 ?_; (case hr4 => first | (go_simp; done) | (go_simp; rfl)); intro g4 v4 _ _ _ _) | ((with_reducible refine at_dst (N := 5) rfl ?_); refine ev_box (cs := #[.slice A' r.len c']) (t := 26) rfl ?hr5 ?_; (case hr5 => first | (go_simp; done) | (go_simp; rfl)); intro g5 v5 _ _ _ _) | ((with_reducible refine at_dst (N := 6) rfl ?_); refine ev_box (cs := #[.slice none 0 0]) (t := 26) rfl ?hr6 ?_; (case hr6 => first | (go_simp; done) | (go_simp; rfl)); intro g6 v6 _ _ _ _) | ((with_reducible refine at_dst (N := 7) rfl ?_); refine ev_box (cs := #[.slice none 0 0]) (t := 26) rfl ?hr7 ?_; (case hr7 => first | (go_simp; done) | (go_simp; rfl)); intro g7 v7 _ _ _ _))
    refine bodyPost_ret (v := .tuple #[.agg #[.slice none 0 0], .agg #[.slice none 0 0], .bool false]) (by simp [results, Tryz.results89, go_sem]) rfl ?_
    exact ⟨none, 0, none, 0, rfl, SSl.nil _ _, SSl.nil _ _, ext w _⟩

set_option synthInstance.maxHeartbeats 2000000 in
set_option synthInstance.maxSize 4000 in
set_option maxHeartbeats 3200000 in
set_option maxRecDepth 100000 in
theorem QuotientTerms_any (x y : Sur) (n : Int) (X Y : Nat → Prop) (A A' : Option Addr) (c c' : Nat) (w : World) (sx : SSl X w x A c) (sy : SSl Y w y A' c') :
    Calls Tryz.prog 19 #[.agg #[.slice A x.len c], .agg #[.slice A' y.len c'], .int .i64 n] w (RetQ w (quoT x y n)) := by
  haveI := Tr.arg (sx.more (Y := XN) (fun _ h => h.elim))
  haveI := Tr.arg (sy.more (Y := XN) (fun _ h => h.elim))
  clear sx sy
  cases gg : (sGood x && sGood y)
  · have H := Lib.hid (show quoT x y n = none by unfold quoT; rw [gg]; rfl)
    go_enter Tryz.func19, Tryz.ntmps19
    go_wp2_with (first | ((with_reducible refine at_dst (N := 3) rfl ?_); refine ev_box (cs := #[.slice A x.len c]) (t := 26) rfl ?hr3 ?_; (case hr3 => first | (go_simp; done) | (go_simp; rfl)); intro g3 v3 _ _ _ _) | ((with_reducible refine at_dst (N := 4) rfl ?_); refine ev_box (cs := #[.slice A' y.len c']) (t := 26) rfl ?hr4 ?_; (case hr4 => first | (go_simp; done) | (go_simp; rfl)); intro g4 v4 _ _ _ _) | ((with_reducible refine at_dst (N := 6) rfl ?_); refine ev_box (cs := #[.slice none 0 0]) (t := 26) rfl ?hr6 ?_; (case hr6 => first | (go_simp; done) | (go_simp; rfl)); intro g6 v6 _ _ _ _) | ((with_reducible refine at_dst (N := 7) rfl ?_); refine ev_box (cs := #[.slice none 0 0]) (t := 26) rfl ?hr7 ?_; (case hr7 => first | (go_simp; done) | (go_simp; rfl)); intro g7 v7 _ _ _ _) | (go_at_call 78; refine (surreals_any x y _ _ A A' _ _ _ (tr _ A) (tr _ A')).mono ?_; rintro e14 w14 ⟨rfl, hb⟩; haveI : Bel _ w14 := ⟨hb⟩; clear hb))
    (refine bodyPost_ret (v := .tuple #[.agg #[.slice none 0 0], .agg #[.slice none 0 0], .bool false]) (by simp [results, Tryz.results19, go_sem]) rfl ?_; exact RetQ.none (ext w _) H.out)
  · by_cases hy : y.len = 0
    · have H := Lib.hid (show quoT x y n = none by unfold quoT; rw [show decide (y.len ≠ 0) = false by simpa using hy]; simp)
      have hy' : ((y.len : Int) == 0) = true := by simpa using hy
      clear hy
      go_enter Tryz.func19, Tryz.ntmps19
      go_wp2_with (first | ((with_reducible refine at_dst (N := 3) rfl ?_); refine ev_box (cs := #[.slice A x.len c]) (t := 26) rfl ?hr3 ?_; (case hr3 => first | (go_simp; done) | (go_simp; rfl)); intro g3 v3 _ _ _ _) | ((with_reducible refine at_dst (N := 4) rfl ?_); refine ev_box (cs := #[.slice A' y.len c']) (t := 26) rfl ?hr4 ?_; (case hr4 => first | (go_simp; done) | (go_simp; rfl)); intro g4 v4 _ _ _ _) | ((with_reducible refine at_dst (N := 6) rfl ?_); refine ev_box (cs := #[.slice none 0 0]) (t := 26) rfl ?hr6 ?_; (case hr6 => first | (go_simp; done) | (go_simp; rfl)); intro g6 v6 _ _ _ _) | ((with_reducible refine at_dst (N := 7) rfl ?_); refine ev_box (cs := #[.slice none 0 0]) (t := 26) rfl ?hr7 ?_; (case hr7 => first | (go_simp; done) | (go_simp; rfl)); intro g7 v7 _ _ _ _) | (go_at_call 78; refine (surreals_any x y _ _ A A' _ _ _ (tr _ A) (tr _ A')).mono ?_; rintro e14 w14 ⟨rfl, hb⟩; haveI : Bel _ w14 := ⟨hb⟩; clear hb) | (go_at_call 87; refine (isNothing_any y A' c' _).mono ?_; rintro e18 w18 ⟨rfl, hb⟩; haveI : Bel _ w18 := ⟨hb⟩; clear hb))
      (refine bodyPost_ret (v := .tuple #[.agg #[.slice none 0 0], .agg #[.slice none 0 0], .bool false]) (by simp [results, Tryz.results19, go_sem]) rfl ?_; exact RetQ.none (ext w _) H.out)
    · have hy' : ((y.len : Int) == 0) = false := by simp; omega
      have hyd : decide (y.len ≠ 0) = true := by simpa using hy
      cases hn : stepsB n
      · have H := Lib.hid (show quoT x y n = none by unfold quoT; rw [hn]; simp)
        clear hy hyd
        go_enter Tryz.func19, Tryz.ntmps19
        go_wp2_with (first | ((with_reducible refine at_dst (N := 3) rfl ?_); refine ev_box (cs := #[.slice A x.len c]) (t := 26) rfl ?hr3 ?_; (case hr3 => first | (go_simp; done) | (go_simp; rfl)); intro g3 v3 _ _ _ _) | ((with_reducible refine at_dst (N := 4) rfl ?_); refine ev_box (cs := #[.slice A' y.len c']) (t := 26) rfl ?hr4 ?_; (case hr4 => first | (go_simp; done) | (go_simp; rfl)); intro g4 v4 _ _ _ _) | ((with_reducible refine at_dst (N := 6) rfl ?_); refine ev_box (cs := #[.slice none 0 0]) (t := 26) rfl ?hr6 ?_; (case hr6 => first | (go_simp; done) | (go_simp; rfl)); intro g6 v6 _ _ _ _) | ((with_reducible refine at_dst (N := 7) rfl ?_); refine ev_box (cs := #[.slice none 0 0]) (t := 26) rfl ?hr7 ?_; (case hr7 => first | (go_simp; done) | (go_simp; rfl)); intro g7 v7 _ _ _ _) | (go_at_call 78; refine (surreals_any x y _ _ A A' _ _ _ (tr _ A) (tr _ A')).mono ?_; rintro e14 w14 ⟨rfl, hb⟩; haveI : Bel _ w14 := ⟨hb⟩; clear hb) | (go_at_call 87; refine (isNothing_any y A' c' _).mono ?_; rintro e18 w18 ⟨rfl, hb⟩; haveI : Bel _ w18 := ⟨hb⟩; clear hb) | (go_at_call 49; refine (stepsOk_any n _).mono ?_; rintro e22 w22 ⟨rfl, rfl⟩))
        (refine bodyPost_ret (v := .tuple #[.agg #[.slice none 0 0], .agg #[.slice none 0 0], .bool false]) (by simp [results, Tryz.results19, go_sem]) rfl ?_; exact RetQ.none (ext w _) H.out)
      · have HE : Hid ((if (divGo y n.toNat false .nil x).1 = true then none else some ((divGo y n.toNat false .nil x).2.1, (divGo y n.toNat false .nil x).2.2)) = quoT x y n) := by
          show _ = _
          unfold quoT
          rw [gg, hyd, hn]; rfl
        have HG : Hid (sGood x = true ∧ sGood y = true ∧ y.len ≠ 0 ∧ 0 ≤ n ∧ n ≤ 12) := by
          simp only [Bool.and_eq_true] at gg
          exact ⟨gg.1, gg.2, hy, (stepsB_true hn).1, (stepsB_true hn).2⟩
        clear hy hyd
        go_enter Tryz.func19, Tryz.ntmps19
        go_wp2_with (first | ((with_reducible refine at_dst (N := 3) rfl ?_); refine ev_box (cs := #[.slice A x.len c]) (t := 26) rfl ?hr3 ?_; (case hr3 => first | (go_simp; done) | (go_simp; rfl)); intro g3 v3 _ _ _ _) | ((with_reducible refine at_dst (N := 4) rfl ?_); refine ev_box (cs := #[.slice A' y.len c']) (t := 26) rfl ?hr4 ?_; (case hr4 => first | (go_simp; done) | (go_simp; rfl)); intro g4 v4 _ _ _ _) | ((with_reducible refine at_dst (N := 6) rfl ?_); refine ev_box (cs := #[.slice none 0 0]) (t := 26) rfl ?hr6 ?_; (case hr6 => first | (go_simp; done) | (go_simp; rfl)); intro g6 v6 _ _ _ _) | ((with_reducible refine at_dst (N := 7) rfl ?_); refine ev_box (cs := #[.slice none 0 0]) (t := 26) rfl ?hr7 ?_; (case hr7 => first | (go_simp; done) | (go_simp; rfl)); intro g7 v7 _ _ _ _) | (go_at_call 78; refine (surreals_any x y _ _ A A' _ _ _ (tr _ A) (tr _ A')).mono ?_; rintro e14 w14 ⟨rfl, hb⟩; haveI : Bel _ w14 := ⟨hb⟩; clear hb) | (go_at_call 87; refine (isNothing_any y A' c' _).mono ?_; rintro e18 w18 ⟨rfl, hb⟩; haveI : Bel _ w18 := ⟨hb⟩; clear hb) | (go_at_call 49; refine (stepsOk_any n _).mono ?_; rintro e22 w22 ⟨rfl, rfl⟩) | ((with_reducible refine at_dst (N := 9) rfl ?_); refine ev_box (cs := #[.bool false]) (t := 77) rfl ?hr9 ?_; (case hr9 => first | (go_simp; done) | (go_simp; rfl)); intro g9 v9 _ _ _ _) | (go_at_call 88; refine (divided_any x y n g9 (XE g9) (XE g9) A A' c c' _ (trx (XE g9) _ A) (trx (XE g9) _ A') HG.out.1 HG.out.2.1 HG.out.2.2.1 HG.out.2.2.2.1 HG.out.2.2.2.2).mono ?_; rintro e32 w32 ⟨A1, c1, A2, c2, rfl, hf, hf', hb⟩; haveI := belM hb; haveI := Fs.of hf; haveI := Fs.of hf'; clear hf hf' hb) | ((with_reducible refine at_dst (N := 10) rfl ?_); refine ev_box (cs := #[.slice none 0 0]) (t := 26) rfl ?hr10 ?_; (case hr10 => first | (go_simp; done) | (go_simp; rfl)); intro g10 v10 _ _ _ _) | ((with_reducible refine at_dst (N := 11) rfl ?_); refine ev_box (cs := #[.slice none 0 0]) (t := 26) rfl ?hr11 ?_; (case hr11 => first | (go_simp; done) | (go_simp; rfl)); intro g11 v11 _ _ _ _) | (go_at_call 89; refine (mtwo_any _ _ _ g9 (XL v9) (XL v9) A1 A2 c1 c2 _ (trx (XL v9) _ A1) (trx (XL v9) _ A2)).mono ?_; rintro e37 w37 ⟨A3, c3, A4, c4, he, hs, hs', hb⟩; rw [HE.out] at he hs hs'; subst he; haveI : Bel _ w37 := ⟨hb⟩; haveI := Tr.arg hs; haveI := Tr.arg hs'; clear hs hs' hb))
        refine bodyPost_ret (v := .tuple #[.agg #[.slice A3 ((quoT x y n).getD (.nil, .nil)).1.len c3], .agg #[.slice A4 ((quoT x y n).getD (.nil, .nil)).2.len c4], .bool (quoT x y n).isSome]) (by simp [results, Tryz.results19, go_sem]) rfl ?_
        exact ⟨A3, c3, A4, c4, rfl, trx (XL w) _ A3, trx (XL w) _ A4, ext w _⟩

set_option synthInstance.maxHeartbeats 2000000 in
set_option synthInstance.maxSize 4000 in
set_option maxHeartbeats 3200000 in
set_option maxRecDepth 100000 in
theorem sQuotientTerms_any (x y : Sur) (n : Int) (X Y : Nat → Prop) (A A' : Option Addr) (c c' : Nat) (w : World) (sx : SSl X w x A c) (sy : SSl Y w y A' c') :
    Calls Tryz.prog 20 #[.agg #[.slice A x.len c], .agg #[.slice A' y.len c'], .int .i64 n] w (RetQ w (squo x y n)) := by
  haveI := Tr.arg (sx.more (Y := XN) (fun _ h => h.elim))
  haveI := Tr.arg (sy.more (Y := XN) (fun _ h => h.elim))
  clear sx sy
  cases gx : sGood x
  · have H := Lib.hid (show squo x y n = none by unfold squo; rw [gx]; rfl)
    go_enter Tryz.func20, Tryz.ntmps20
    go_wp2_with (first | ((with_reducible refine at_dst (N := 3) rfl ?_); refine ev_box (cs := #[.slice A x.len c]) (t := 26) rfl ?hr3 ?_; (case hr3 => first | (go_simp; done) | (go_simp; rfl)); intro g3 v3 _ _ _ _) | ((with_reducible refine at_dst (N := 4) rfl ?_); refine ev_box (cs := #[.slice A' y.len c']) (t := 26) rfl ?hr4 ?_; (case hr4 => first | (go_simp; done) | (go_simp; rfl)); intro g4 v4 _ _ _ _) | ((with_reducible refine at_dst (N := 6) rfl ?_); refine ev_box (cs := #[.slice none 0 0]) (t := 26) rfl ?hr6 ?_; (case hr6 => first | (go_simp; done) | (go_simp; rfl)); intro g6 v6 _ _ _ _) | ((with_reducible refine at_dst (N := 7) rfl ?_); refine ev_box (cs := #[.slice none 0 0]) (t := 26) rfl ?hr7 ?_; (case hr7 => first | (go_simp; done) | (go_simp; rfl)); intro g7 v7 _ _ _ _) | ((fail_if_success (have _q := w13)); go_at_call 61; (with_reducible refine (suGood_any x _ A _ _ (tr _ A)).mono ?_); rintro e13 w13 ⟨rfl, hb⟩; haveI : Bel _ w13 := ⟨hb⟩; clear hb))
    (refine bodyPost_ret (v := .tuple #[.agg #[.slice none 0 0], .agg #[.slice none 0 0], .bool false]) (by simp [results, Tryz.results20, go_sem]) rfl ?_; exact RetQ.none (ext w _) H.out)
  cases gy : sGood y
  · have H := Lib.hid (show squo x y n = none by unfold squo; rw [gx, gy]; rfl)
    go_enter Tryz.func20, Tryz.ntmps20
    go_wp2_with (first | ((with_reducible refine at_dst (N := 3) rfl ?_); refine ev_box (cs := #[.slice A x.len c]) (t := 26) rfl ?hr3 ?_; (case hr3 => first | (go_simp; done) | (go_simp; rfl)); intro g3 v3 _ _ _ _) | ((with_reducible refine at_dst (N := 4) rfl ?_); refine ev_box (cs := #[.slice A' y.len c']) (t := 26) rfl ?hr4 ?_; (case hr4 => first | (go_simp; done) | (go_simp; rfl)); intro g4 v4 _ _ _ _) | ((with_reducible refine at_dst (N := 6) rfl ?_); refine ev_box (cs := #[.slice none 0 0]) (t := 26) rfl ?hr6 ?_; (case hr6 => first | (go_simp; done) | (go_simp; rfl)); intro g6 v6 _ _ _ _) | ((with_reducible refine at_dst (N := 7) rfl ?_); refine ev_box (cs := #[.slice none 0 0]) (t := 26) rfl ?hr7 ?_; (case hr7 => first | (go_simp; done) | (go_simp; rfl)); intro g7 v7 _ _ _ _) | ((fail_if_success (have _q := w13)); go_at_call 61; (with_reducible refine (suGood_any x _ A _ _ (tr _ A)).mono ?_); rintro e13 w13 ⟨rfl, hb⟩; haveI : Bel _ w13 := ⟨hb⟩; clear hb) | ((fail_if_success (have _q := w17)); go_at_call 61; (with_reducible refine (suGood_any y _ A' _ _ (tr _ A')).mono ?_); rintro e17 w17 ⟨rfl, hb⟩; haveI : Bel _ w17 := ⟨hb⟩; clear hb))
    (refine bodyPost_ret (v := .tuple #[.agg #[.slice none 0 0], .agg #[.slice none 0 0], .bool false]) (by simp [results, Tryz.results20, go_sem]) rfl ?_; exact RetQ.none (ext w _) H.out)
  by_cases hy : y.len = 0
  · have H := Lib.hid (show squo x y n = none by unfold squo; rw [show decide (y.len ≠ 0) = false by simpa using hy]; simp)
    have hy' : ((y.len : Int) == 0) = true := by simpa using hy
    clear hy
    go_enter Tryz.func20, Tryz.ntmps20
    go_wp2_with (first | ((with_reducible refine at_dst (N := 3) rfl ?_); refine ev_box (cs := #[.slice A x.len c]) (t := 26) rfl ?hr3 ?_; (case hr3 => first | (go_simp; done) | (go_simp; rfl)); intro g3 v3 _ _ _ _) | ((with_reducible refine at_dst (N := 4) rfl ?_); refine ev_box (cs := #[.slice A' y.len c']) (t := 26) rfl ?hr4 ?_; (case hr4 => first | (go_simp; done) | (go_simp; rfl)); intro g4 v4 _ _ _ _) | ((with_reducible refine at_dst (N := 6) rfl ?_); refine ev_box (cs := #[.slice none 0 0]) (t := 26) rfl ?hr6 ?_; (case hr6 => first | (go_simp; done) | (go_simp; rfl)); intro g6 v6 _ _ _ _) | ((with_reducible refine at_dst (N := 7) rfl ?_); refine ev_box (cs := #[.slice none 0 0]) (t := 26) rfl ?hr7 ?_; (case hr7 => first | (go_simp; done) | (go_simp; rfl)); intro g7 v7 _ _ _ _) | ((fail_if_success (have _q := w13)); go_at_call 61; (with_reducible refine (suGood_any x _ A _ _ (tr _ A)).mono ?_); rintro e13 w13 ⟨rfl, hb⟩; haveI : Bel _ w13 := ⟨hb⟩; clear hb) | ((fail_if_success (have _q := w17)); go_at_call 61; (with_reducible refine (suGood_any y _ A' _ _ (tr _ A')).mono ?_); rintro e17 w17 ⟨rfl, hb⟩; haveI : Bel _ w17 := ⟨hb⟩; clear hb) | (go_at_call 90; refine (suZero_any y A' c' _).mono ?_; rintro e22 w22 ⟨rfl, hb⟩; haveI : Bel _ w22 := ⟨hb⟩; clear hb))
    (refine bodyPost_ret (v := .tuple #[.agg #[.slice none 0 0], .agg #[.slice none 0 0], .bool false]) (by simp [results, Tryz.results20, go_sem]) rfl ?_; exact RetQ.none (ext w _) H.out)
  have hy' : ((y.len : Int) == 0) = false := by simp; omega
  have hyd : decide (y.len ≠ 0) = true := by simpa using hy
  cases hn : stepsB n
  · have H := Lib.hid (show squo x y n = none by unfold squo; rw [hn]; simp)
    clear hy hyd
    go_enter Tryz.func20, Tryz.ntmps20
    go_wp2_with (first | ((with_reducible refine at_dst (N := 3) rfl ?_); refine ev_box (cs := #[.slice A x.len c]) (t := 26) rfl ?hr3 ?_; (case hr3 => first | (go_simp; done) | (go_simp; rfl)); intro g3 v3 _ _ _ _) | ((with_reducible refine at_dst (N := 4) rfl ?_); refine ev_box (cs := #[.slice A' y.len c']) (t := 26) rfl ?hr4 ?_; (case hr4 => first | (go_simp; done) | (go_simp; rfl)); intro g4 v4 _ _ _ _) | ((with_reducible refine at_dst (N := 6) rfl ?_); refine ev_box (cs := #[.slice none 0 0]) (t := 26) rfl ?hr6 ?_; (case hr6 => first | (go_simp; done) | (go_simp; rfl)); intro g6 v6 _ _ _ _) | ((with_reducible refine at_dst (N := 7) rfl ?_); refine ev_box (cs := #[.slice none 0 0]) (t := 26) rfl ?hr7 ?_; (case hr7 => first | (go_simp; done) | (go_simp; rfl)); intro g7 v7 _ _ _ _) | ((fail_if_success (have _q := w13)); go_at_call 61; (with_reducible refine (suGood_any x _ A _ _ (tr _ A)).mono ?_); rintro e13 w13 ⟨rfl, hb⟩; haveI : Bel _ w13 := ⟨hb⟩; clear hb) | ((fail_if_success (have _q := w17)); go_at_call 61; (with_reducible refine (suGood_any y _ A' _ _ (tr _ A')).mono ?_); rintro e17 w17 ⟨rfl, hb⟩; haveI : Bel _ w17 := ⟨hb⟩; clear hb) | (go_at_call 90; refine (suZero_any y A' c' _).mono ?_; rintro e22 w22 ⟨rfl, hb⟩; haveI : Bel _ w22 := ⟨hb⟩; clear hb) | (go_at_call 63; refine (seSteps_any n _).mono ?_; rintro e26 w26 ⟨rfl, rfl⟩))
    (refine bodyPost_ret (v := .tuple #[.agg #[.slice none 0 0], .agg #[.slice none 0 0], .bool false]) (by simp [results, Tryz.results20, go_sem]) rfl ?_; exact RetQ.none (ext w _) H.out)
  have HE : Hid (squo x y n = if (sdivGo y n.toNat false .nil x).1 = true then none else some ((sdivGo y n.toNat false .nil x).2.1, (sdivGo y n.toNat false .nil x).2.2)) := by
    show _ = _
    unfold squo
    rw [gx, gy, hyd, hn]; rfl
  have HG : Hid (sGood x = true ∧ sGood y = true ∧ y.len ≠ 0 ∧ 0 ≤ n ∧ n ≤ 12) := ⟨gx, gy, hy, (stepsB_true hn).1, (stepsB_true hn).2⟩
  clear hy hyd
  go_enter Tryz.func20, Tryz.ntmps20
  go_upto_region 4 with (first | ((with_reducible refine at_dst (N := 3) rfl ?_); refine ev_box (cs := #[.slice A x.len c]) (t := 26) rfl ?hr3 ?_; (case hr3 => first | (go_simp; done) | (go_simp; rfl)); intro g3 v3 _ _ _ _) | ((with_reducible refine at_dst (N := 4) rfl ?_); refine ev_box (cs := #[.slice A' y.len c']) (t := 26) rfl ?hr4 ?_; (case hr4 => first | (go_simp; done) | (go_simp; rfl)); intro g4 v4 _ _ _ _) | ((with_reducible refine at_dst (N := 6) rfl ?_); refine ev_box (cs := #[.slice none 0 0]) (t := 26) rfl ?hr6 ?_; (case hr6 => first | (go_simp; done) | (go_simp; rfl)); intro g6 v6 _ _ _ _) | ((with_reducible refine at_dst (N := 7) rfl ?_); refine ev_box (cs := #[.slice none 0 0]) (t := 26) rfl ?hr7 ?_; (case hr7 => first | (go_simp; done) | (go_simp; rfl)); intro g7 v7 _ _ _ _) | ((fail_if_success (have _q := w13)); go_at_call 61; (with_reducible refine (suGood_any x _ A _ _ (tr _ A)).mono ?_); rintro e13 w13 ⟨rfl, hb⟩; haveI : Bel _ w13 := ⟨hb⟩; clear hb) | ((fail_if_success (have _q := w17)); go_at_call 61; (with_reducible refine (suGood_any y _ A' _ _ (tr _ A')).mono ?_); rintro e17 w17 ⟨rfl, hb⟩; haveI : Bel _ w17 := ⟨hb⟩; clear hb) | (go_at_call 90; refine (suZero_any y A' c' _).mono ?_; rintro e22 w22 ⟨rfl, hb⟩; haveI : Bel _ w22 := ⟨hb⟩; clear hb) | (go_at_call 63; refine (seSteps_any n _).mono ?_; rintro e26 w26 ⟨rfl, rfl⟩) | (go_at_call 91; refine (seQuotient_any x y n XN _ A A' c c' _ (fun _ h => h.elim) (trx XN _ A) (tr _ A') HG.out.1 HG.out.2.1 HG.out.2.2.1 HG.out.2.2.2.1 HG.out.2.2.2.2).mono ?_; rintro e35 w35 ⟨A1, c1, A2, c2, rfl, hs, hs', gq, gr, hb⟩; haveI : Bel _ w35 := ⟨hb⟩; haveI := Tr.arg hs; haveI := Tr.arg hs'; have HN1 := Lib.hid (sGood_len gq).2.1; have HN2 := Lib.hid (sGood_len gr).2.1; clear hs hs' hb gq gr) | ((with_reducible refine at_dst (N := 9) rfl ?_); refine ev_box (cs := #[.slice none 0 0]) (t := 26) rfl ?hr9 ?_; (case hr9 => first | (go_simp; done) | (go_simp; rfl)); intro g9 v9 _ _ _ _) | ((with_reducible refine at_dst (N := 10) rfl ?_); refine ev_box (cs := #[.slice none 0 0]) (t := 26) rfl ?hr10 ?_; (case hr10 => first | (go_simp; done) | (go_simp; rfl)); intro g10 v10 _ _ _ _))
  generalize (sdivGo y n.toNat false .nil x).1 = bad at *
  generalize (sdivGo y n.toNat false .nil x).2.1 = q at *
  generalize (sdivGo y n.toNat false .nil x).2.2 = r at *
  cases bad
  · go_upto_region 6 with fail
    refine wp_region_held_drew (S := (fun w' => w'.cell? ⟨g9, 0, none⟩ = some (.slice A1 q.len c1) ∧ w'.cell? ⟨g10, 0, none⟩ = some (.slice A2 r.len c2))) (by kernel_rfl) ?hSn2_ (fun hHeld => ?hRn2_)
    case hSn2_ => (exact ⟨has1, has1⟩)
    refine wpAnyH_take (i := 0) (v := ?vn2_1) rfl (by kernel_rfl) (by kernel_rfl) (by kernel_rfl) (fun _ _ _ h => h) (Or.inl ⟨by rfl, ?hyn2_1⟩) (by assumption) ?hRn2_1
    case hyn2_1 => (intro w hSw; (try dsimp only at hSw); go_simp; (try with_reducible rfl))
    try simp only [Act.put, zp1, zp2, zp3, zp4, zp5, zp6]
    refine wpAnyH_take (i := 2) (v := ?vn2_2) rfl (by kernel_rfl) (by kernel_rfl) (by kernel_rfl) (fun _ _ _ h => h) (Or.inl ⟨by rfl, ?hyn2_2⟩) (by assumption) ?hRn2_2
    case hyn2_2 => (intro w hSw; (try dsimp only at hSw); go_simp; (try with_reducible rfl))
    try simp only [Act.put, zp1, zp2, zp3, zp4, zp5, zp6]
    refine wpAnyH_ready (rs := [1]) (by kernel_rfl) (by simp) ?_
    refine AllReadyH.cons rfl (fun K hK => ?_) AllReadyH.nil
    go_simp
    (((fail_if_success (have _q := A44)); go_at_call 92; (with_reducible refine (suOwn_any 100 (by omega) q _ A1 c1 _ (Nat.le_trans HN1.out (by omega)) (tr _ A1)).mono ?_); rintro e44 w44 ⟨A44, c44, rfl, hf, hb⟩; haveI : Bel _ w44 := ⟨hb⟩; haveI := Fs.of hf; clear hf hb))
    go_wp2_with fail
    refine hK.out _ _ ?hSn2_3 (fun hHeld => ?hRn2_3)
    case hSn2_3 => ((try dsimp only); exact ⟨has1, has1⟩)
    clear hK K
    try simp only [Act.put, zp1, zp2, zp3, zp4, zp5, zp6]
    refine wpAnyH_ready (rs := [3]) (by kernel_rfl) (by simp) ?_
    refine AllReadyH.cons rfl (fun K hK => ?_) AllReadyH.nil
    go_simp
    (((fail_if_success (have _q := A46)); go_at_call 92; (with_reducible refine (suOwn_any 100 (by omega) r _ A2 c2 _ (Nat.le_trans HN2.out (by omega)) (tr _ A2)).mono ?_); rintro e46 w46 ⟨A46, c46, rfl, hf, hb⟩; haveI : Bel _ w46 := ⟨hb⟩; haveI := Fs.of hf; clear hf hb))
    go_wp2_with fail
    refine hK.out _ _ ?hSn2_4 (fun hHeld => ?hRn2_4)
    case hSn2_4 => ((try dsimp only); exact ⟨has1, has1⟩)
    clear hK K
    try simp only [Act.put, zp1, zp2, zp3, zp4, zp5, zp6]
    refine wpAnyH_ready (rs := [4]) (by kernel_rfl) (by simp) ?_
    refine AllReadyH.cons rfl (fun K hK => ?_) AllReadyH.nil
    go_simp
    refine hK.out _ _ ?hSn2_5 (fun hHeld => ?hRn2_5)
    case hSn2_5 => ((try dsimp only); exact ⟨has1, has1⟩)
    clear hK K
    try simp only [Act.put, zp1, zp2, zp3, zp4, zp5, zp6]
    refine wpAnyH_ready (rs := [5]) (by kernel_rfl) (by simp) ?_
    refine AllReadyH.cons rfl (fun K hK => ?_) AllReadyH.nil
    go_simp
    refine hK.out _ _ ?hSn2_6 (fun hHeld => ?hRn2_6)
    case hSn2_6 => ((try dsimp only); exact ⟨has1, has1⟩)
    clear hK K
    try simp only [Act.put, zp1, zp2, zp3, zp4, zp5, zp6]
    refine wpAnyH_take (i := 6) (v := ?vn2_7) rfl (by kernel_rfl) (by kernel_rfl) (by kernel_rfl) (fun _ _ _ h => h) (Or.inl ⟨by rfl, ?hyn2_7⟩) (by assumption) ?hRn2_7
    case hyn2_7 => (intro w hSw; (try dsimp only at hSw); go_simp; (try with_reducible rfl))
    try simp only [Act.put, zp1, zp2, zp3, zp4, zp5, zp6]
    refine wpAnyH_done (by kernel_rfl) ?_ _
    all_goals
      go_wp2
      refine bodyPost_ret (v := .tuple #[.agg #[.slice A44 q.len c44], .agg #[.slice A46 r.len c46], .bool true]) (by simp [results, Tryz.results20, go_sem]) rfl ?_
      rw [HE.out]
      exact ⟨A44, c44, A46, c46, rfl, trx (XL w) _ A44, trx (XL w) _ A46, ext w _⟩
  · have H := Lib.hid (HE.out.trans rfl)
    go_wp2
    refine bodyPost_ret (v := .tuple #[.agg #[.slice none 0 0], .agg #[.slice none 0 0], .bool false]) (by simp [results, Tryz.results20, go_sem]) rfl ?_
    exact RetQ.none (ext w _) HE.out
end Go.Proofs.YtphabopnbcgodaaGreat
