/-
  Walks: RootTerms, the reference's.
-/
import Derived.Test.YtonlfnbjbmgegaaGreatSRt
import Derived.Test.YtonlfnbjbmgegaaGreatRB
namespace Go.Proofs.YtonlfnbjbmgegaaGreat
open Go.RowKit
open List renaming getElem_toArray → zp1, getElem_cons_zero → zp2, getElem_cons_succ → zp3, setIfInBounds_toArray → zp4, set_cons_zero → zp5, set_cons_succ → zp6
set_option linter.unusedSimpArgs false
set_option linter.unusedVariables false

theorem XN.no {k : Nat} {p : Prop} (h : XN k) : p := False.elim h
theorem srGo_good (x : Sur) (k : Nat) : ∀ (m : Nat) (bad : Bool) (s r : Sur), sGood s = true → sGood r = true → ∀ z, srGo x k m bad s r = some z → sGood z.2.1 = true ∧ sGood z.2.2 = true
  | 0, bad, s, r, gs, gr, z, h => by simp only [srGo, Option.some.injEq] at h; subst h; exact ⟨gs, gr⟩
  | m + 1, bad, s, r, gs, gr, z, h => by
    simp only [srGo] at h
    split at h
    · split at h
      · cases h
      · exact srGo_good x k m _ _ _ ssS_good (keepS_good fun z hz => sumS_good hz) z h
    · simp only [Option.some.injEq] at h; subst h; exact ⟨gs, gr⟩
theorem rootT_good (x : Sur) (k n : Int) : sGood ((rootT x k n).getD (.nil, .nil)).1 = true ∧ sGood ((rootT x k n).getD (.nil, .nil)).2 = true := by
  rw [← srootT_rootT]
  unfold srootT
  split
  · rename_i h
    simp only [Bool.and_eq_true] at h
    split
    · exact ⟨sGood_nil, sGood_nil⟩
    · simp only [Option.getD_some]
      unfold srR
      cases hz : srGo x k.toNat n.toNat false .nil x with
      | none => exact ⟨sGood_nil, sGood_nil⟩
      | some z => exact srGo_good x k.toNat n.toNat false .nil x sGood_nil h.1 z hz
  · exact ⟨sGood_nil, sGood_nil⟩
set_option maxHeartbeats 400000 in
theorem seDegree_any (n : Int) (w : World) :
    Calls Tryz.prog 41 #[.int .i64 n] w fun e w' => e = .returned (.bool (inB n 2 4)) ∧ w = w' := by
  go_enter Tryz.func41, Tryz.ntmps41
  go_wp2_with (go_at_call 92; refine (l1In_any _ _ _ _).mono ?_; rintro e w' ⟨rfl, rfl⟩)
  go_ret
  exact ⟨rfl, rfl⟩
attribute [local go_sem high] has_cell has_frozen
set_option synthInstance.maxHeartbeats 2000000 in
set_option synthInstance.maxSize 4000 in
set_option maxHeartbeats 3200000 in
set_option maxRecDepth 100000 in
theorem sRootTerms_any (x : Sur) (k n : Int) (X : Nat → Prop) (A : Option Addr) (c : Nat) (w : World) (sx : SSl X w x A c) :
    Calls Tryz.prog 8 #[.agg #[.slice A x.len c], .int .i64 k, .int .i64 n] w (RetQ w (srootT x k n)) := by
  haveI := Tr.arg (sx.more (Y := XN) (fun _ h => h.elim))
  clear sx
  cases gx : sGood x
  · have H := Lib.hid (show srootT x k n = none by unfold srootT; rw [gx]; rfl)
    go_enter Tryz.func8, Tryz.ntmps8
    go_wp2_with (first | ((with_reducible refine at_dst (N := 3) rfl ?_); refine ev_box (cs := #[.slice A x.len c]) (t := 26) rfl ?hr3 ?_; (case hr3 => first | (go_simp; done) | (go_simp; rfl)); intro g3 v3 _ _ _ _) | ((with_reducible refine at_dst (N := 6) rfl ?_); refine ev_box (cs := #[.slice none 0 0]) (t := 26) rfl ?hr6 ?_; (case hr6 => first | (go_simp; done) | (go_simp; rfl)); intro g6 v6 _ _ _ _) | ((with_reducible refine at_dst (N := 7) rfl ?_); refine ev_box (cs := #[.slice none 0 0]) (t := 26) rfl ?hr7 ?_; (case hr7 => first | (go_simp; done) | (go_simp; rfl)); intro g7 v7 _ _ _ _) | (go_at_call 40; (with_reducible refine (suGood_any x _ A _ _ (tr _ A)).mono ?_); rintro e13 w13 ⟨rfl, hb⟩; haveI : Bel _ w13 := ⟨hb⟩; clear hb))
    (refine bodyPost_ret (v := .tuple #[.agg #[.slice none 0 0], .agg #[.slice none 0 0], .bool false]) (by simp [results, Tryz.results8, go_sem]) rfl ?_; exact RetQ.none (ext w _) H.out)
  cases hk : inB k 2 4
  · have H := Lib.hid (show srootT x k n = none by unfold srootT; rw [hk]; simp)
    go_enter Tryz.func8, Tryz.ntmps8
    go_wp2_with (first | ((with_reducible refine at_dst (N := 3) rfl ?_); refine ev_box (cs := #[.slice A x.len c]) (t := 26) rfl ?hr3 ?_; (case hr3 => first | (go_simp; done) | (go_simp; rfl)); intro g3 v3 _ _ _ _) | ((with_reducible refine at_dst (N := 6) rfl ?_); refine ev_box (cs := #[.slice none 0 0]) (t := 26) rfl ?hr6 ?_; (case hr6 => first | (go_simp; done) | (go_simp; rfl)); intro g6 v6 _ _ _ _) | ((with_reducible refine at_dst (N := 7) rfl ?_); refine ev_box (cs := #[.slice none 0 0]) (t := 26) rfl ?hr7 ?_; (case hr7 => first | (go_simp; done) | (go_simp; rfl)); intro g7 v7 _ _ _ _) | (go_at_call 40; (with_reducible refine (suGood_any x _ A _ _ (tr _ A)).mono ?_); rintro e13 w13 ⟨rfl, hb⟩; haveI : Bel _ w13 := ⟨hb⟩; clear hb) | (go_at_call 41; refine (seDegree_any k _).mono ?_; rintro e17 w17 ⟨rfl, rfl⟩))
    (refine bodyPost_ret (v := .tuple #[.agg #[.slice none 0 0], .agg #[.slice none 0 0], .bool false]) (by simp [results, Tryz.results8, go_sem]) rfl ?_; exact RetQ.none (ext w _) H.out)
  cases hn : stepsB n
  · have H := Lib.hid (show srootT x k n = none by unfold srootT; rw [hn]; simp)
    go_enter Tryz.func8, Tryz.ntmps8
    go_wp2_with (first | ((with_reducible refine at_dst (N := 3) rfl ?_); refine ev_box (cs := #[.slice A x.len c]) (t := 26) rfl ?hr3 ?_; (case hr3 => first | (go_simp; done) | (go_simp; rfl)); intro g3 v3 _ _ _ _) | ((with_reducible refine at_dst (N := 6) rfl ?_); refine ev_box (cs := #[.slice none 0 0]) (t := 26) rfl ?hr6 ?_; (case hr6 => first | (go_simp; done) | (go_simp; rfl)); intro g6 v6 _ _ _ _) | ((with_reducible refine at_dst (N := 7) rfl ?_); refine ev_box (cs := #[.slice none 0 0]) (t := 26) rfl ?hr7 ?_; (case hr7 => first | (go_simp; done) | (go_simp; rfl)); intro g7 v7 _ _ _ _) | (go_at_call 40; (with_reducible refine (suGood_any x _ A _ _ (tr _ A)).mono ?_); rintro e13 w13 ⟨rfl, hb⟩; haveI : Bel _ w13 := ⟨hb⟩; clear hb) | (go_at_call 41; refine (seDegree_any k _).mono ?_; rintro e17 w17 ⟨rfl, rfl⟩) | (go_at_call 42; refine (seSteps_any n _).mono ?_; rintro e22 w22 ⟨rfl, rfl⟩))
    (refine bodyPost_ret (v := .tuple #[.agg #[.slice none 0 0], .agg #[.slice none 0 0], .bool false]) (by simp [results, Tryz.results8, go_sem]) rfl ?_; exact RetQ.none (ext w _) H.out)
  have hk' : 2 ≤ k ∧ k ≤ 4 := by simpa [inB] using hk
  have hn' := stepsB_true hn
  obtain ⟨KK, rfl⟩ : ∃ KK : Nat, k = KK := ⟨k.toNat, by omega⟩
  obtain ⟨N, rfl⟩ : ∃ N : Nat, n = N := ⟨n.toNat, by omega⟩
  obtain ⟨⟨bad, q, r⟩, hV⟩ : ∃ V, srR x KK N = V := ⟨_, rfl⟩
  have HV : Hid (srR x KK (N : Int).toNat = (bad, q, r)) := hV
  have HE : Hid (srootT x KK N = if bad = true then none else some (q, r)) := by
    show _ = _
    unfold srootT
    rw [gx, hk, hn, Int.toNat_natCast, Int.toNat_natCast, hV]; rfl
  have HG : Hid (sGood x = true ∧ 2 ≤ KK ∧ KK ≤ 4 ∧ 0 ≤ (N : Int) ∧ (N : Int) ≤ 12) := ⟨gx, by omega, by omega, by omega, by omega⟩
  clear hV
  go_enter Tryz.func8, Tryz.ntmps8
  go_upto_region 4 with (first | ((with_reducible refine at_dst (N := 3) rfl ?_); refine ev_box (cs := #[.slice A x.len c]) (t := 26) rfl ?hr3 ?_; (case hr3 => first | (go_simp; done) | (go_simp; rfl)); intro g3 v3 _ _ _ _) | ((with_reducible refine at_dst (N := 6) rfl ?_); refine ev_box (cs := #[.slice none 0 0]) (t := 26) rfl ?hr6 ?_; (case hr6 => first | (go_simp; done) | (go_simp; rfl)); intro g6 v6 _ _ _ _) | ((with_reducible refine at_dst (N := 7) rfl ?_); refine ev_box (cs := #[.slice none 0 0]) (t := 26) rfl ?hr7 ?_; (case hr7 => first | (go_simp; done) | (go_simp; rfl)); intro g7 v7 _ _ _ _) | (go_at_call 40; (with_reducible refine (suGood_any x _ A _ _ (tr _ A)).mono ?_); rintro e13 w13 ⟨rfl, hb⟩; haveI : Bel _ w13 := ⟨hb⟩; clear hb) | (go_at_call 41; refine (seDegree_any KK _).mono ?_; rintro e17 w17 ⟨rfl, rfl⟩) | (go_at_call 42; refine (seSteps_any N _).mono ?_; rintro e22 w22 ⟨rfl, rfl⟩) | (go_at_call 43; (with_reducible refine (seRoots_any x KK N XN A c _ (fun _ h => XN.no h) (trx XN _ A) HG.out.1 HG.out.2.1 HG.out.2.2.1 HG.out.2.2.2.1 HG.out.2.2.2.2).mono ?_); rintro e31 w31 ⟨A1, c1, A2, c2, he, hs, hs', gq, gr, hb⟩; rw [HV.out] at he hs hs' gq gr; dsimp only at he hs hs' gq gr; subst he; haveI : Bel _ w31 := ⟨hb⟩; haveI := Tr.arg hs; haveI := Tr.arg hs'; have HN1 := Lib.hid (sGood_len gq).2.1; have HN2 := Lib.hid (sGood_len gr).2.1; clear hs hs' hb gq gr) | ((with_reducible refine at_dst (N := 9) rfl ?_); refine ev_box (cs := #[.slice none 0 0]) (t := 26) rfl ?hr9 ?_; (case hr9 => first | (go_simp; done) | (go_simp; rfl)); intro g9 v9 _ _ _ _) | ((with_reducible refine at_dst (N := 10) rfl ?_); refine ev_box (cs := #[.slice none 0 0]) (t := 26) rfl ?hr10 ?_; (case hr10 => first | (go_simp; done) | (go_simp; rfl)); intro g10 v10 _ _ _ _))
  cases bad
  · go_upto_region 6 with fail
    refine wp_region_held_drew (S := (fun w' => w'.cell? ⟨g9, 0, none⟩ = some (.slice A1 q.len c1) ∧ w'.cell? ⟨g10, 0, none⟩ = some (.slice A2 r.len c2))) (by kernel_rfl) ?hSn1_ (fun hHeld => ?hRn1_)
    case hSn1_ => (exact ⟨has1, has1⟩)
    refine wpAnyH_take (i := 0) (v := ?vn1_1) rfl (by kernel_rfl) (by kernel_rfl) (by kernel_rfl) (fun _ _ _ h => h) (Or.inl ⟨by rfl, ?hyn1_1⟩) (by assumption) ?hRn1_1
    case hyn1_1 => (intro w hSw; (try dsimp only at hSw); go_simp; (try with_reducible rfl))
    try simp only [Act.put, zp1, zp2, zp3, zp4, zp5, zp6]
    refine wpAnyH_take (i := 2) (v := ?vn1_2) rfl (by kernel_rfl) (by kernel_rfl) (by kernel_rfl) (fun _ _ _ h => h) (Or.inl ⟨by rfl, ?hyn1_2⟩) (by assumption) ?hRn1_2
    case hyn1_2 => (intro w hSw; (try dsimp only at hSw); go_simp; (try with_reducible rfl))
    try simp only [Act.put, zp1, zp2, zp3, zp4, zp5, zp6]
    refine wpAnyH_ready (rs := [1]) (by kernel_rfl) (by simp) ?_
    refine AllReadyH.cons rfl (fun K hK => ?_) AllReadyH.nil
    go_simp
    (((fail_if_success (have _q := A40)); go_at_call 44; (with_reducible refine (suOwn_any 100 (by omega) q _ A1 c1 _ (Nat.le_trans HN1.out (by omega)) (tr _ A1)).mono ?_); rintro e40 w40 ⟨A40, c40, rfl, hf, hb⟩; haveI : Bel _ w40 := ⟨hb⟩; haveI := Fs.of hf; clear hf hb))
    go_wp2_with fail
    refine hK.out _ _ ?hSn1_3 (fun hHeld => ?hRn1_3)
    case hSn1_3 => ((try dsimp only); exact ⟨has1, has1⟩)
    clear hK K
    try simp only [Act.put, zp1, zp2, zp3, zp4, zp5, zp6]
    refine wpAnyH_ready (rs := [3]) (by kernel_rfl) (by simp) ?_
    refine AllReadyH.cons rfl (fun K hK => ?_) AllReadyH.nil
    go_simp
    (((fail_if_success (have _q := A42)); go_at_call 44; (with_reducible refine (suOwn_any 100 (by omega) r _ A2 c2 _ (Nat.le_trans HN2.out (by omega)) (tr _ A2)).mono ?_); rintro e42 w42 ⟨A42, c42, rfl, hf, hb⟩; haveI : Bel _ w42 := ⟨hb⟩; haveI := Fs.of hf; clear hf hb))
    go_wp2_with fail
    refine hK.out _ _ ?hSn1_4 (fun hHeld => ?hRn1_4)
    case hSn1_4 => ((try dsimp only); exact ⟨has1, has1⟩)
    clear hK K
    try simp only [Act.put, zp1, zp2, zp3, zp4, zp5, zp6]
    refine wpAnyH_ready (rs := [4]) (by kernel_rfl) (by simp) ?_
    refine AllReadyH.cons rfl (fun K hK => ?_) AllReadyH.nil
    go_simp
    refine hK.out _ _ ?hSn1_5 (fun hHeld => ?hRn1_5)
    case hSn1_5 => ((try dsimp only); exact ⟨has1, has1⟩)
    clear hK K
    try simp only [Act.put, zp1, zp2, zp3, zp4, zp5, zp6]
    refine wpAnyH_ready (rs := [5]) (by kernel_rfl) (by simp) ?_
    refine AllReadyH.cons rfl (fun K hK => ?_) AllReadyH.nil
    go_simp
    refine hK.out _ _ ?hSn1_6 (fun hHeld => ?hRn1_6)
    case hSn1_6 => ((try dsimp only); exact ⟨has1, has1⟩)
    clear hK K
    try simp only [Act.put, zp1, zp2, zp3, zp4, zp5, zp6]
    refine wpAnyH_take (i := 6) (v := ?vn1_7) rfl (by kernel_rfl) (by kernel_rfl) (by kernel_rfl) (fun _ _ _ h => h) (Or.inl ⟨by rfl, ?hyn1_7⟩) (by assumption) ?hRn1_7
    case hyn1_7 => (intro w hSw; (try dsimp only at hSw); go_simp; (try with_reducible rfl))
    try simp only [Act.put, zp1, zp2, zp3, zp4, zp5, zp6]
    refine wpAnyH_done (by kernel_rfl) ?_ _
    all_goals
      go_wp2
      refine bodyPost_ret (v := .tuple #[.agg #[.slice A40 q.len c40], .agg #[.slice A42 r.len c42], .bool true]) (by simp [results, Tryz.results8, go_sem]) rfl ?_
      rw [HE.out]
      exact ⟨A40, c40, A42, c42, rfl, trx (XL w) _ A40, trx (XL w) _ A42, ext w _⟩
  · have H := Lib.hid (HE.out.trans rfl)
    go_wp2
    refine bodyPost_ret (v := .tuple #[.agg #[.slice none 0 0], .agg #[.slice none 0 0], .bool false]) (by simp [results, Tryz.results8, go_sem]) rfl ?_
    exact RetQ.none (ext w _) HE.out
end Go.Proofs.YtonlfnbjbmgegaaGreat
