/-
  Walks: CheckRoot, the program's.
-/
import Derived.Test.YtonlfnbjbmgegaaGreatWK
import Derived.Test.YtonlfnbjbmgegaaGreatRB
namespace Go.Proofs.YtonlfnbjbmgegaaGreat
open Go.RowKit
open List renaming getElem_toArray → zp1, getElem_cons_zero → zp2, getElem_cons_succ → zp3, setIfInBounds_toArray → zp4, set_cons_zero → zp5, set_cons_succ → zp6
set_option linter.unusedSimpArgs false
set_option linter.unusedVariables false

attribute [local go_sem high] has_cell has_frozen
theorem ssl_hd1 {X : Nat → Prop} {w : World} {x : Sur} {A : Option Addr} {c : Nat} (h : SSl X w x A c) (hx : x.len ≠ 0) : SSl X w (hd1 x) A c := by
  cases x with
  | nil => exact absurd rfl hx
  | cons e n d r => exact h.hd1
set_option maxHeartbeats 1600000 in
theorem firstTerm_any (x : Sur) (X : Nat → Prop) (A : Option Addr) (c : Nat) (w : World) (sx : SSl X w x A c) (nx : x.len ≠ 0) :
    Calls Tryz.prog 53 #[.agg #[.slice A x.len c]] w fun e w' => e = .returned (.agg #[.slice A (hd1 x).len c]) ∧ Below w.heap.size w w' := by
  obtain ⟨b, o, _, _, _, _, _, rfl, _, _, _, _, _, _, _, _, _⟩ := sx.at_ (k := 0) (by omega)
  have lx := sx.cap
  have lx' := sx.le
  unfold maxLen at lx
  have hl := hd1_len nx
  have h1c : 1 ≤ c := by omega
  have HL : Hid ((hd1 x).len = 1) := hl
  clear sx hl
  go_enter Tryz.func53, Tryz.ntmps53
  go_wp2_with (first | ((with_reducible refine at_dst (N := 1) rfl ?_); refine ev_box (cs := #[.slice (some ⟨b, o, none⟩) x.len c]) (t := 26) rfl ?hr1 ?_; (case hr1 => first | (go_simp; done) | (go_simp; rfl)); intro g1 v1 _ _ _ _) | ((with_reducible refine at_dst (N := 2) rfl ?_); refine ev_box (cs := #[.slice none 0 0]) (t := 26) rfl ?hr2 ?_; (case hr2 => first | (go_simp; done) | (go_simp; rfl)); intro g2 v2 _ _ _ _))
  refine bodyPost_ret (v := .agg #[.slice (some ⟨b, o, none⟩) 1 c]) (by simp [results, Tryz.results53, go_sem]) rfl ?_
  rw [HL.out]
  exact ⟨rfl, ext w _⟩
set_option synthInstance.maxHeartbeats 2000000 in
set_option synthInstance.maxSize 4000 in
set_option maxHeartbeats 6400000 in
set_option maxRecDepth 100000 in
theorem CheckRoot_any (x : Sur) (k : Int) (s r : Sur) (X Q R : Nat → Prop) (Ax As Ar : Option Addr) (cx cs cr : Nat) (w : World) (sx : SSl X w x Ax cx) (ss : SSl Q w s As cs) (sr : SSl R w r Ar cr) :
    Calls Tryz.prog 12 #[.agg #[.slice Ax x.len cx], .int .i64 k, .agg #[.slice As s.len cs], .agg #[.slice Ar r.len cr]] w (RetChk w (rchk x k s r)) := by
  haveI := Tr.arg (sx.more (Y := XN) (fun _ h => h.elim))
  haveI := Tr.arg (ss.more (Y := XN) (fun _ h => h.elim))
  haveI := Tr.arg (sr.more (Y := XN) (fun _ h => h.elim))
  clear sx ss sr
  cases gx : sGood x
  · have H := Lib.hid (rchk_bad (show rkG x k s r = false by unfold rkG; rw [gx]; rfl))
    go_enter Tryz.func12, Tryz.ntmps12
    go_wp2_with (first | ((with_reducible refine at_dst (N := 4) rfl ?_); refine ev_box (cs := #[.slice Ax x.len cx]) (t := 26) rfl ?hr4 ?_; (case hr4 => first | (go_simp; done) | (go_simp; rfl)); intro g4 v4 _ _ _ _) | ((with_reducible refine at_dst (N := 6) rfl ?_); refine ev_box (cs := #[.slice As s.len cs]) (t := 26) rfl ?hr6 ?_; (case hr6 => first | (go_simp; done) | (go_simp; rfl)); intro g6 v6 _ _ _ _) | ((with_reducible refine at_dst (N := 7) rfl ?_); refine ev_box (cs := #[.slice Ar r.len cr]) (t := 26) rfl ?hr7 ?_; (case hr7 => first | (go_simp; done) | (go_simp; rfl)); intro g7 v7 _ _ _ _) | (go_at_call 29; (with_reducible refine (IsSurreal_any x _ Ax cx _ (tr _ Ax)).mono ?_); rintro e13 w13 ⟨he, hb⟩; rw [gx] at he; subst he; haveI : Bel _ w13 := ⟨hb⟩; clear hb))
    (refine bodyPost_ret (v := .tuple #[.bool false, .bool false]) (by simp [results, Tryz.results12, go_sem]) rfl ?_; unfold RetChk; rw [H.out]; exact ⟨rfl, ext w _⟩)
  cases g2 : (sGood s && sGood r)
  · have H := Lib.hid (rchk_bad (show rkG x k s r = false by unfold rkG; rw [g2]; simp))
    go_enter Tryz.func12, Tryz.ntmps12
    go_wp2_with (first | ((with_reducible refine at_dst (N := 4) rfl ?_); refine ev_box (cs := #[.slice Ax x.len cx]) (t := 26) rfl ?hr4 ?_; (case hr4 => first | (go_simp; done) | (go_simp; rfl)); intro g4 v4 _ _ _ _) | ((with_reducible refine at_dst (N := 6) rfl ?_); refine ev_box (cs := #[.slice As s.len cs]) (t := 26) rfl ?hr6 ?_; (case hr6 => first | (go_simp; done) | (go_simp; rfl)); intro g6 v6 _ _ _ _) | ((with_reducible refine at_dst (N := 7) rfl ?_); refine ev_box (cs := #[.slice Ar r.len cr]) (t := 26) rfl ?hr7 ?_; (case hr7 => first | (go_simp; done) | (go_simp; rfl)); intro g7 v7 _ _ _ _) | (go_at_call 29; (with_reducible refine (IsSurreal_any x _ Ax cx _ (tr _ Ax)).mono ?_); rintro e13 w13 ⟨he, hb⟩; rw [gx] at he; subst he; haveI : Bel _ w13 := ⟨hb⟩; clear hb) | (go_at_call 46; (with_reducible refine (surreals_any s r _ _ As Ar _ _ _ (tr _ As) (tr _ Ar)).mono ?_); rintro e18 w18 ⟨he, hb⟩; rw [g2] at he; subst he; haveI : Bel _ w18 := ⟨hb⟩; clear hb))
    (refine bodyPost_ret (v := .tuple #[.bool false, .bool false]) (by simp [results, Tryz.results12, go_sem]) rfl ?_; unfold RetChk; rw [H.out]; exact ⟨rfl, ext w _⟩)
  cases g3 : inB k 2 4
  · have H := Lib.hid (rchk_bad (show rkG x k s r = false by unfold rkG; rw [g3]; simp))
    have g3' := g3
    clear g3
    go_enter Tryz.func12, Tryz.ntmps12
    go_wp2_with (first | ((with_reducible refine at_dst (N := 4) rfl ?_); refine ev_box (cs := #[.slice Ax x.len cx]) (t := 26) rfl ?hr4 ?_; (case hr4 => first | (go_simp; done) | (go_simp; rfl)); intro g4 v4 _ _ _ _) | ((with_reducible refine at_dst (N := 6) rfl ?_); refine ev_box (cs := #[.slice As s.len cs]) (t := 26) rfl ?hr6 ?_; (case hr6 => first | (go_simp; done) | (go_simp; rfl)); intro g6 v6 _ _ _ _) | ((with_reducible refine at_dst (N := 7) rfl ?_); refine ev_box (cs := #[.slice Ar r.len cr]) (t := 26) rfl ?hr7 ?_; (case hr7 => first | (go_simp; done) | (go_simp; rfl)); intro g7 v7 _ _ _ _) | (go_at_call 29; (with_reducible refine (IsSurreal_any x _ Ax cx _ (tr _ Ax)).mono ?_); rintro e13 w13 ⟨he, hb⟩; rw [gx] at he; subst he; haveI : Bel _ w13 := ⟨hb⟩; clear hb) | (go_at_call 46; (with_reducible refine (surreals_any s r _ _ As Ar _ _ _ (tr _ As) (tr _ Ar)).mono ?_); rintro e18 w18 ⟨he, hb⟩; rw [g2] at he; subst he; haveI : Bel _ w18 := ⟨hb⟩; clear hb) | (go_at_call 30; refine (in_any k 2 4 _).mono ?_; rintro e23 w23 ⟨he, rfl⟩; rw [g3'] at he; subst he))
    (refine bodyPost_ret (v := .tuple #[.bool false, .bool false]) (by simp [results, Tryz.results12, go_sem]) rfl ?_; unfold RetChk; rw [H.out]; exact ⟨rfl, ext w _⟩)
  have hk : 2 ≤ k ∧ k ≤ 4 := by simpa [inB] using g3
  have g3' := g3
  have HCG : Hid (rkG x k s r = true) := by show _ = _; unfold rkG; rw [gx, g2, g3]; rfl
  have HBX : Hid (x.All Bd) := good_bd gx
  have HBR : Hid (r.All Bd) := by simp only [Bool.and_eq_true] at g2; exact good_bd g2.2
  have HKK : Hid (0 ≤ k ∧ k ≤ 12) := ⟨by omega, by omega⟩
  have HK1 : Hid (0 ≤ k - 1 ∧ k - 1 ≤ 12) := ⟨by omega, by omega⟩
  have hw : IntKind.i64.wrap (k - 1) = k - 1 := IntWalk.i64_in _ (by omega)
  obtain ⟨⟨zb, z⟩, hP⟩ : ∃ P, mpow s k false = P := ⟨_, rfl⟩
  obtain ⟨v, vb, GV⟩ := optV (addS z r)
  obtain ⟨O, HO⟩ := intH (order v x)
  obtain ⟨⟨qb, q⟩, hQ⟩ : ∃ P, mpow (hd1 s) (k - 1) (zb || !vb) = P := ⟨_, rfl⟩
  obtain ⟨L, lb, GL⟩ := optV (mulS (lastS s) q)
  obtain ⟨nb, HNB⟩ := boolH (neglB r L)
  obtain ⟨rb, HRB⟩ := boolH (O == 0)
  have hB1 : rkB1 k s r = (zb || !vb) := by unfold rkB1; rw [hP, GV.hb]
  have hR : rkR x k s r = rb := by
    unfold rkR
    rw [hP, GV.hz, HO.out, ← HRB.out]; rfl
  have hQ' : rkQ k s r = (qb, q) := by unfold rkQ; rw [hB1, hQ]
  have hL' : rkL k s r = mulS (lastS s) q := by unfold rkL; rw [hQ']
  have hB2 : rkB2 k s r = (qb || !lb) := by unfold rkB2; rw [hQ', hL', GL.hb]
  have hN : rkN k s r = nb := by unfold rkN; rw [hL', GL.hz, HNB.out]
  have HC2 : s.len ≠ 0 ∧ r.len ≠ 0 → Hid (rchk x k s r = ((nb && rb) && !(qb || !lb), !(qb || !lb))) := fun h => by
    show _ = _
    unfold rchk
    rw [if_pos HCG.out, if_pos h, hN, hR, hB2]
  have HC1 : ¬ (s.len ≠ 0 ∧ r.len ≠ 0) → Hid (rchk x k s r = (rb && !(zb || !vb), !(zb || !vb))) := fun h => by
    show _ = _
    unfold rchk
    rw [if_pos HCG.out, if_neg h, hR, hB1]
  have HP := Lib.hid hP
  have HQ := Lib.hid hQ
  have HBV : Hid (v.All Bd) := by show Sur.All _ _; rw [← GV.hz]; exact mix_all fun u h => All.bd (addS_all h).1
  have HBL : Hid (L.All Bd) := by show Sur.All _ _; rw [← GL.hz]; exact mix_all fun u h => good_bd (mulS_some h).2.2.2
  clear hP hQ hB1 hR hQ' hL' hB2 hN g3 hk
  go_enter Tryz.func12, Tryz.ntmps12
  go_upto_region 4 with (first | ((with_reducible refine at_dst (N := 4) rfl ?_); refine ev_box (cs := #[.slice Ax x.len cx]) (t := 26) rfl ?hr4 ?_; (case hr4 => first | (go_simp; done) | (go_simp; rfl)); intro g4 v4 _ _ _ _) | ((with_reducible refine at_dst (N := 6) rfl ?_); refine ev_box (cs := #[.slice As s.len cs]) (t := 26) rfl ?hr6 ?_; (case hr6 => first | (go_simp; done) | (go_simp; rfl)); intro g6 v6 _ _ _ _) | ((with_reducible refine at_dst (N := 7) rfl ?_); refine ev_box (cs := #[.slice Ar r.len cr]) (t := 26) rfl ?hr7 ?_; (case hr7 => first | (go_simp; done) | (go_simp; rfl)); intro g7 v7 _ _ _ _) | (go_at_call 29; (with_reducible refine (IsSurreal_any x _ Ax cx _ (tr _ Ax)).mono ?_); rintro e13 w13 ⟨he, hb⟩; rw [gx] at he; subst he; haveI : Bel _ w13 := ⟨hb⟩; clear hb) | (go_at_call 46; (with_reducible refine (surreals_any s r _ _ As Ar _ _ _ (tr _ As) (tr _ Ar)).mono ?_); rintro e18 w18 ⟨he, hb⟩; rw [g2] at he; subst he; haveI : Bel _ w18 := ⟨hb⟩; clear hb) | (go_at_call 30; refine (in_any k 2 4 _).mono ?_; rintro e23 w23 ⟨he, rfl⟩; rw [g3'] at he; subst he) | ((with_reducible refine at_dst (N := 10) rfl ?_); refine ev_box (cs := #[.bool false]) (t := 61) rfl ?hr10 ?_; (case hr10 => first | (go_simp; done) | (go_simp; rfl)); intro g10 v10 _ _ _ _))
  refine wp_region_held_drew (S := (fun w' => w'.cell? ⟨g4, 0, none⟩ = some (.slice Ax x.len cx) ∧ w'.cell? ⟨g6, 0, none⟩ = some (.slice As s.len cs) ∧ w'.cell? ⟨g7, 0, none⟩ = some (.slice Ar r.len cr))) (by kernel_rfl) ?hSn1_ (fun hHeld => ?hRn1_)
  case hSn1_ => (exact ⟨has1, has1, has1⟩)
  refine wpAnyH_take (i := 0) (v := ?vn1_1) rfl (by kernel_rfl) (by kernel_rfl) (by kernel_rfl) (fun _ _ _ h => h) (Or.inl ⟨by rfl, ?hyn1_1⟩) (by assumption) ?hRn1_1
  case hyn1_1 => (intro w hSw; (try dsimp only at hSw); go_simp; (try with_reducible rfl))
  try simp only [Act.put, zp1, zp2, zp3, zp4, zp5, zp6]
  refine wpAnyH_take (i := 1) (v := ?vn1_2) rfl (by kernel_rfl) (by kernel_rfl) (by kernel_rfl) (fun _ _ _ h => h) (Or.inl ⟨by rfl, ?hyn1_2⟩) (by assumption) ?hRn1_2
  case hyn1_2 => (intro w hSw; (try dsimp only at hSw); go_simp; (try with_reducible rfl))
  try simp only [Act.put, zp1, zp2, zp3, zp4, zp5, zp6]
  refine wpAnyH_take (i := 3) (v := ?vn1_3) rfl (by kernel_rfl) (by kernel_rfl) (by kernel_rfl) (fun _ _ _ h => h) (Or.inl ⟨by rfl, ?hyn1_3⟩) (by assumption) ?hRn1_3
  case hyn1_3 => (intro w hSw; (try dsimp only at hSw); go_simp; (try with_reducible rfl))
  try simp only [Act.put, zp1, zp2, zp3, zp4, zp5, zp6]
  refine wpAnyH_take (i := 5) (v := ?vn1_4) rfl (by kernel_rfl) (by kernel_rfl) (by kernel_rfl) (fun _ _ _ h => h) (Or.inl ⟨by rfl, ?hyn1_4⟩) (by assumption) ?hRn1_4
  case hyn1_4 => (intro w hSw; (try dsimp only at hSw); go_simp; (try with_reducible rfl))
  try simp only [Act.put, zp1, zp2, zp3, zp4, zp5, zp6]
  refine wpAnyH_ready (rs := [2]) (by kernel_rfl) (by simp) ?_
  refine AllReadyH.cons rfl (fun K hK => ?_) AllReadyH.nil
  go_simp
  (((fail_if_success (have _q := A29)); go_at_call 38; (with_reducible refine (mpower_any s k false g10 (XE g10) As cs _ (trx (XE g10) _ As) HKK.out.1 HKK.out.2).mono ?_); rintro e29 w29 ⟨A29, c29, he, hs, hb⟩; rw [HP.out] at he hs hb; subst he; haveI := belM hb; haveI := Tr.arg hs; clear hs hb))
  go_wp2_with fail
  refine hK.out _ _ ?hSn1_5 (fun hHeld => ?hRn1_5)
  case hSn1_5 => ((try dsimp only); exact ⟨has1, has1, has1⟩)
  clear hK K
  try simp only [Act.put, zp1, zp2, zp3, zp4, zp5, zp6]
  refine wpAnyH_ready (rs := [4]) (by kernel_rfl) (by simp) ?_
  refine AllReadyH.cons rfl (fun K hK => ?_) AllReadyH.nil
  go_simp
  ((go_at_call 36; (with_reducible refine (madd_any z r _ g10 _ _ A29 Ar _ _ _ (tr _ A29) (tr _ Ar) has1 has_frozen).mono ?_); rintro e31 w31 ⟨A31, c31, he, hf, hb⟩; rw [GV.hz] at he hf; rw [GV.hb] at hb; subst he; haveI := belM hb; haveI := Fs.of hf; clear hf hb))
  go_wp2_with fail
  refine hK.out _ _ ?hSn1_6 (fun hHeld => ?hRn1_6)
  case hSn1_6 => ((try dsimp only); exact ⟨has1, has1, has1⟩)
  clear hK K
  try simp only [Act.put, zp1, zp2, zp3, zp4, zp5, zp6]
  refine wpAnyH_ready (rs := [6]) (by kernel_rfl) (by simp) ?_
  refine AllReadyH.cons rfl (fun K hK => ?_) AllReadyH.nil
  go_simp
  ((go_at_call 49; (with_reducible refine (order_any _ v x _ _ A31 Ax _ _ _ (Nat.le_refl _) HBV.out HBX.out (tr _ A31) (tr _ Ax)).mono ?_); rintro e33 w33 ⟨he, hb⟩; rw [HO.out] at he; subst he; haveI : Bel _ w33 := ⟨hb⟩; clear hb))
  go_wp2_with fail
  refine hK.out _ _ ?hSn1_7 (fun hHeld => ?hRn1_7)
  case hSn1_7 => ((try dsimp only); exact ⟨has1, has1, has1⟩)
  clear hK K
  try simp only [Act.put, zp1, zp2, zp3, zp4, zp5, zp6]
  refine wpAnyH_take (i := 7) (v := ?vn1_8) rfl (by kernel_rfl) (by kernel_rfl) (by kernel_rfl) (fun _ _ _ h => h) (Or.inl ⟨by rfl, ?hyn1_8⟩) (by assumption) ?hRn1_8
  case hyn1_8 => (intro w hSw; (try dsimp only at hSw); go_simp; (try with_reducible rfl))
  try simp only [Act.put, zp1, zp2, zp3, zp4, zp5, zp6]
  refine wpAnyH_take (i := 8) (v := ?vn1_9) rfl (by kernel_rfl) (by kernel_rfl) (by kernel_rfl) (fun _ _ _ h => h) (Or.inl ⟨by rfl, ?hyn1_9⟩) (by assumption) ?hRn1_9
  case hyn1_9 => (intro w hSw; (try dsimp only at hSw); go_simp; (try with_reducible rfl))
  try simp only [Act.put, zp1, zp2, zp3, zp4, zp5, zp6]
  refine wpAnyH_done (by kernel_rfl) ?_ _
  go_upto_region 5 with fail
  go_cut [42] (fun s42 wx => ∃ b : Bool, s42 = .bool b ∧ Hid (b = true ↔ s.len ≠ 0 ∧ r.len ≠ 0) ∧ Bel w33 wx)
  case first => as_aux_lemma =>
    by_cases hq : s.len = 0
    · have hq' : ((s.len : Int) == 0) = true := by simpa using hq
      have HQ := Lib.hid hq
      clear hq
      go_wp2_with (first | ((fail_if_success (have _q := w36)); go_at_call 33; (with_reducible refine (isNothing_any s As cs _).mono ?_); rintro e36 w36 ⟨rfl, hb⟩; haveI : Bel _ w36 := ⟨hb⟩; clear hb) | ((fail_if_success (have _q := w40)); go_at_call 33; (with_reducible refine (isNothing_any r Ar cr _).mono ?_); rintro e40 w40 ⟨rfl, hb⟩; haveI : Bel _ w40 := ⟨hb⟩; clear hb))
      go_meet
      exact ⟨false, rfl, ⟨(fun h => by cases h), (fun h => absurd HQ.out h.1)⟩, ⟨ext _ _⟩⟩
    · have HQ := Lib.hid hq
      have hq' : ((s.len : Int) == 0) = false := by simp; omega
      clear hq
      by_cases hr : r.len = 0
      · have hr' : ((r.len : Int) == 0) = true := by simpa using hr
        have HR := Lib.hid hr
        clear hr
        go_wp2_with (first | ((fail_if_success (have _q := w36)); go_at_call 33; (with_reducible refine (isNothing_any s As cs _).mono ?_); rintro e36 w36 ⟨rfl, hb⟩; haveI : Bel _ w36 := ⟨hb⟩; clear hb) | ((fail_if_success (have _q := w40)); go_at_call 33; (with_reducible refine (isNothing_any r Ar cr _).mono ?_); rintro e40 w40 ⟨rfl, hb⟩; haveI : Bel _ w40 := ⟨hb⟩; clear hb))
        go_meet
        exact ⟨false, rfl, ⟨(fun h => by cases h), (fun h => absurd HR.out h.2)⟩, ⟨ext _ _⟩⟩
      · have HR := Lib.hid hr
        have hr' : ((r.len : Int) == 0) = false := by simp; omega
        clear hr
        go_wp2_with (first | ((fail_if_success (have _q := w36)); go_at_call 33; (with_reducible refine (isNothing_any s As cs _).mono ?_); rintro e36 w36 ⟨rfl, hb⟩; haveI : Bel _ w36 := ⟨hb⟩; clear hb) | ((fail_if_success (have _q := w40)); go_at_call 33; (with_reducible refine (isNothing_any r Ar cr _).mono ?_); rintro e40 w40 ⟨rfl, hb⟩; haveI : Bel _ w40 := ⟨hb⟩; clear hb))
        go_meet
        exact ⟨true, rfl, ⟨(fun _ => ⟨HQ.out, HR.out⟩), (fun _ => rfl)⟩, ⟨ext _ _⟩⟩
  case rest =>
  rename World => wx
  obtain ⟨b, rfl, HB, _⟩ := hcut
  have HRB' := HRB.out
  go_upto_if 42 with fail
  go_cut [11] (fun s11 wy => ∃ rt bd : Bool, s11 = .bool rt ∧ Has wy g10 (.cells #[.bool bd] 61 (0, 0)) ∧ Hid (rchk x k s r = (rt && !bd, !bd)) ∧ Kp wx (XE g10) wy)
  case first => as_aux_lemma =>
    cases b
    · have HC := HC1 fun h => by have := HB.out.2 h; cases this
      clear HC1 HC2
      go_wp2
      go_meet
      exact ⟨rb, _, by rw [HRB.out], inferInstance, HC, kp _ _ _⟩
    · have HS0 : Hid (s.len ≠ 0) := (HB.out.1 rfl).1
      have HC := HC2 (HB.out.1 rfl)
      clear HC1 HC2
      go_upto_region 6 with fail
      cases nb
      · have _hc := HC
        refine wp_region_held_drew (S := (fun w' => w'.cell? ⟨g6, 0, none⟩ = some (.slice As s.len cs) ∧ w'.cell? ⟨g7, 0, none⟩ = some (.slice Ar r.len cr))) (by kernel_rfl) ?hSn2_ (fun hHeld => ?hRn2_)
        case hSn2_ => (exact ⟨has1, has1⟩)
        refine wpAnyH_take (i := 0) (v := ?vn2_1) rfl (by kernel_rfl) (by kernel_rfl) (by kernel_rfl) (fun _ _ _ h => h) (Or.inl ⟨by rfl, ?hyn2_1⟩) (by assumption) ?hRn2_1
        case hyn2_1 => (intro w hSw; (try dsimp only at hSw); go_simp; (try with_reducible rfl))
        try simp only [Act.put, zp1, zp2, zp3, zp4, zp5, zp6]
        refine wpAnyH_take (i := 1) (v := ?vn2_2) rfl (by kernel_rfl) (by kernel_rfl) (by kernel_rfl) (fun _ _ _ h => h) (Or.inl ⟨by rfl, ?hyn2_2⟩) (by assumption) ?hRn2_2
        case hyn2_2 => (intro w hSw; (try dsimp only at hSw); go_simp; (try with_reducible rfl))
        try simp only [Act.put, zp1, zp2, zp3, zp4, zp5, zp6]
        refine wpAnyH_take (i := 3) (v := ?vn2_3) rfl (by kernel_rfl) (by kernel_rfl) (by kernel_rfl) (fun _ _ _ h => h) (Or.inl ⟨by rfl, ?hyn2_3⟩) (by assumption) ?hRn2_3
        case hyn2_3 => (intro w hSw; (try dsimp only at hSw); go_simp; (try with_reducible rfl))
        try simp only [Act.put, zp1, zp2, zp3, zp4, zp5, zp6]
        refine wpAnyH_take (i := 5) (v := ?vn2_4) rfl (by kernel_rfl) (by kernel_rfl) (by kernel_rfl) (fun _ _ _ h => h) (Or.inl ⟨by rfl, ?hyn2_4⟩) (by assumption) ?hRn2_4
        case hyn2_4 => (intro w hSw; (try dsimp only at hSw); go_simp; (try with_reducible rfl))
        try simp only [Act.put, zp1, zp2, zp3, zp4, zp5, zp6]
        refine wpAnyH_take (i := 6) (v := ?vn2_5) rfl (by kernel_rfl) (by kernel_rfl) (by kernel_rfl) (fun _ _ _ h => h) (Or.inl ⟨by rfl, ?hyn2_5⟩) (by assumption) ?hRn2_5
        case hyn2_5 => (intro w hSw; (try dsimp only at hSw); go_simp; (try with_reducible rfl))
        try simp only [Act.put, zp1, zp2, zp3, zp4, zp5, zp6]
        refine wpAnyH_ready (rs := [2]) (by kernel_rfl) (by simp) ?_
        refine AllReadyH.cons rfl (fun K hK => ?_) AllReadyH.nil
        go_simp
        ((go_at_call 52; (with_reducible refine (lastTerm_any s _ As cs _ (tr _ As) HS0.out).mono ?_); rintro e45 w45 ⟨A45, c45, rfl, hs, hb⟩; haveI : Bel _ w45 := ⟨hb⟩; haveI := Tr.arg hs; clear hs hb))
        go_wp2_with fail
        refine hK.out _ _ ?hSn2_6 (fun hHeld => ?hRn2_6)
        case hSn2_6 => ((try dsimp only); exact ⟨has1, has1⟩)
        clear hK K
        try simp only [Act.put, zp1, zp2, zp3, zp4, zp5, zp6]
        refine wpAnyH_ready (rs := [4]) (by kernel_rfl) (by simp) ?_
        refine AllReadyH.cons rfl (fun K hK => ?_) AllReadyH.nil
        go_simp
        ((go_at_call 53; (with_reducible refine (firstTerm_any s _ As cs _ (tr _ As) HS0.out).mono ?_); rintro e47 w47 ⟨rfl, hb⟩; haveI : Bel _ w47 := ⟨hb⟩; clear hb))
        go_wp2_with fail
        refine hK.out _ _ ?hSn2_7 (fun hHeld => ?hRn2_7)
        case hSn2_7 => ((try dsimp only); exact ⟨has1, has1⟩)
        clear hK K
        try simp only [Act.put, zp1, zp2, zp3, zp4, zp5, zp6]
        refine wpAnyH_ready (rs := [7]) (by kernel_rfl) (by simp) ?_
        refine AllReadyH.cons rfl (fun K hK => ?_) AllReadyH.nil
        go_simp
        (((fail_if_success (have _q := A50)); go_at_call 38; (with_reducible refine (mpower_any (hd1 s) (k - 1) (zb || !vb) g10 (XE g10) As cs _ (ssl_hd1 (trx (XE g10) _ As) HS0.out) HK1.out.1 HK1.out.2).mono ?_); rintro e50 w50 ⟨A50, c50, he, hs, hb⟩; rw [HQ.out] at he hs hb; subst he; haveI := belM hb; haveI := Tr.arg hs; clear hs hb))
        go_wp2_with fail
        refine hK.out _ _ ?hSn2_8 (fun hHeld => ?hRn2_8)
        case hSn2_8 => ((try dsimp only); exact ⟨has1, has1⟩)
        clear hK K
        try simp only [Act.put, zp1, zp2, zp3, zp4, zp5, zp6]
        refine wpAnyH_ready (rs := [8]) (by kernel_rfl) (by simp) ?_
        refine AllReadyH.cons rfl (fun K hK => ?_) AllReadyH.nil
        go_simp
        ((go_at_call 51; (with_reducible refine (mmul_any (lastS s) q _ g10 _ _ A45 A50 _ _ _ (tr _ A45) (tr _ A50) has1 has_frozen).mono ?_); rintro e51 w51 ⟨A51, c51, he, hf, hb⟩; rw [GL.hz] at he hf; rw [GL.hb] at hb; subst he; haveI := belM hb; haveI := Fs.of hf; clear hf hb))
        go_wp2_with fail
        refine hK.out _ _ ?hSn2_9 (fun hHeld => ?hRn2_9)
        case hSn2_9 => ((try dsimp only); exact ⟨has1, has1⟩)
        clear hK K
        try simp only [Act.put, zp1, zp2, zp3, zp4, zp5, zp6]
        refine wpAnyH_ready (rs := [9]) (by kernel_rfl) (by simp) ?_
        refine AllReadyH.cons rfl (fun K hK => ?_) AllReadyH.nil
        go_simp
        ((go_at_call 50; (with_reducible refine (negligible_any r L _ _ Ar A51 _ _ _ (tr _ Ar) (tr _ A51) HBR.out HBL.out).mono ?_); rintro e52 w52 ⟨he, hb⟩; rw [HNB.out] at he; subst he; haveI : Bel _ w52 := ⟨hb⟩; clear hb))
        go_wp2_with fail
        refine hK.out _ _ ?hSn2_10 (fun hHeld => ?hRn2_10)
        case hSn2_10 => ((try dsimp only); exact ⟨has1, has1⟩)
        clear hK K
        try simp only [Act.put, zp1, zp2, zp3, zp4, zp5, zp6]
        refine wpAnyH_take (i := 10) (v := ?vn2_11) rfl (by kernel_rfl) (by kernel_rfl) (by kernel_rfl) (fun _ _ _ h => h) (Or.inl ⟨by rfl, ?hyn2_11⟩) (by assumption) ?hRn2_11
        case hyn2_11 => (intro w hSw; (try dsimp only at hSw); go_simp; (try with_reducible rfl))
        try simp only [Act.put, zp1, zp2, zp3, zp4, zp5, zp6]
        refine wpAnyH_take (i := 11) (v := undef) rfl (by kernel_rfl) (by kernel_rfl) (by kernel_rfl) (fun _ _ _ h => h) (Or.inr ⟨by rfl, by rfl⟩) (by assumption) ?_
        try simp only [Act.put, zp1, zp2, zp3, zp4, zp5, zp6]
        refine wpAnyH_take (i := 12) (v := ?vn2_13) rfl (by kernel_rfl) (by kernel_rfl) (by kernel_rfl) (fun _ _ _ h => h) (Or.inl ⟨by rfl, ?hyn2_13⟩) (by assumption) ?hRn2_13
        case hyn2_13 => (intro w hSw; (try dsimp only at hSw); go_simp; (try with_reducible rfl))
        try simp only [Act.put, zp1, zp2, zp3, zp4, zp5, zp6]
        refine wpAnyH_take (i := 13) (v := ?vn2_14) rfl (by kernel_rfl) (by kernel_rfl) (by kernel_rfl) (fun _ _ _ h => h) (Or.inl ⟨by rfl, ?hyn2_14⟩) (by assumption) ?hRn2_14
        case hyn2_14 => (intro w hSw; (try dsimp only at hSw); go_simp; (try with_reducible rfl))
        try simp only [Act.put, zp1, zp2, zp3, zp4, zp5, zp6]
        refine wpAnyH_done (by kernel_rfl) ?_ _
        all_goals
          go_wp2
          go_meet
          exact ⟨_, _, rfl, inferInstance, HC, kp _ _ _⟩
      · rw [HRB.out]
        refine wp_region_held_drew (S := (fun w' => w'.cell? ⟨g6, 0, none⟩ = some (.slice As s.len cs) ∧ w'.cell? ⟨g7, 0, none⟩ = some (.slice Ar r.len cr))) (by kernel_rfl) ?hSn3_ (fun hHeld => ?hRn3_)
        case hSn3_ => (exact ⟨has1, has1⟩)
        refine wpAnyH_take (i := 0) (v := ?vn3_1) rfl (by kernel_rfl) (by kernel_rfl) (by kernel_rfl) (fun _ _ _ h => h) (Or.inl ⟨by rfl, ?hyn3_1⟩) (by assumption) ?hRn3_1
        case hyn3_1 => (intro w hSw; (try dsimp only at hSw); go_simp; (try with_reducible rfl))
        try simp only [Act.put, zp1, zp2, zp3, zp4, zp5, zp6]
        refine wpAnyH_take (i := 1) (v := ?vn3_2) rfl (by kernel_rfl) (by kernel_rfl) (by kernel_rfl) (fun _ _ _ h => h) (Or.inl ⟨by rfl, ?hyn3_2⟩) (by assumption) ?hRn3_2
        case hyn3_2 => (intro w hSw; (try dsimp only at hSw); go_simp; (try with_reducible rfl))
        try simp only [Act.put, zp1, zp2, zp3, zp4, zp5, zp6]
        refine wpAnyH_take (i := 3) (v := ?vn3_3) rfl (by kernel_rfl) (by kernel_rfl) (by kernel_rfl) (fun _ _ _ h => h) (Or.inl ⟨by rfl, ?hyn3_3⟩) (by assumption) ?hRn3_3
        case hyn3_3 => (intro w hSw; (try dsimp only at hSw); go_simp; (try with_reducible rfl))
        try simp only [Act.put, zp1, zp2, zp3, zp4, zp5, zp6]
        refine wpAnyH_take (i := 5) (v := ?vn3_4) rfl (by kernel_rfl) (by kernel_rfl) (by kernel_rfl) (fun _ _ _ h => h) (Or.inl ⟨by rfl, ?hyn3_4⟩) (by assumption) ?hRn3_4
        case hyn3_4 => (intro w hSw; (try dsimp only at hSw); go_simp; (try with_reducible rfl))
        try simp only [Act.put, zp1, zp2, zp3, zp4, zp5, zp6]
        refine wpAnyH_take (i := 6) (v := ?vn3_5) rfl (by kernel_rfl) (by kernel_rfl) (by kernel_rfl) (fun _ _ _ h => h) (Or.inl ⟨by rfl, ?hyn3_5⟩) (by assumption) ?hRn3_5
        case hyn3_5 => (intro w hSw; (try dsimp only at hSw); go_simp; (try with_reducible rfl))
        try simp only [Act.put, zp1, zp2, zp3, zp4, zp5, zp6]
        refine wpAnyH_ready (rs := [2]) (by kernel_rfl) (by simp) ?_
        refine AllReadyH.cons rfl (fun K hK => ?_) AllReadyH.nil
        go_simp
        ((go_at_call 52; (with_reducible refine (lastTerm_any s _ As cs _ (tr _ As) HS0.out).mono ?_); rintro e45 w45 ⟨A45, c45, rfl, hs, hb⟩; haveI : Bel _ w45 := ⟨hb⟩; haveI := Tr.arg hs; clear hs hb))
        go_wp2_with fail
        refine hK.out _ _ ?hSn3_6 (fun hHeld => ?hRn3_6)
        case hSn3_6 => ((try dsimp only); exact ⟨has1, has1⟩)
        clear hK K
        try simp only [Act.put, zp1, zp2, zp3, zp4, zp5, zp6]
        refine wpAnyH_ready (rs := [4]) (by kernel_rfl) (by simp) ?_
        refine AllReadyH.cons rfl (fun K hK => ?_) AllReadyH.nil
        go_simp
        ((go_at_call 53; (with_reducible refine (firstTerm_any s _ As cs _ (tr _ As) HS0.out).mono ?_); rintro e47 w47 ⟨rfl, hb⟩; haveI : Bel _ w47 := ⟨hb⟩; clear hb))
        go_wp2_with fail
        refine hK.out _ _ ?hSn3_7 (fun hHeld => ?hRn3_7)
        case hSn3_7 => ((try dsimp only); exact ⟨has1, has1⟩)
        clear hK K
        try simp only [Act.put, zp1, zp2, zp3, zp4, zp5, zp6]
        refine wpAnyH_ready (rs := [7]) (by kernel_rfl) (by simp) ?_
        refine AllReadyH.cons rfl (fun K hK => ?_) AllReadyH.nil
        go_simp
        (((fail_if_success (have _q := A50)); go_at_call 38; (with_reducible refine (mpower_any (hd1 s) (k - 1) (zb || !vb) g10 (XE g10) As cs _ (ssl_hd1 (trx (XE g10) _ As) HS0.out) HK1.out.1 HK1.out.2).mono ?_); rintro e50 w50 ⟨A50, c50, he, hs, hb⟩; rw [HQ.out] at he hs hb; subst he; haveI := belM hb; haveI := Tr.arg hs; clear hs hb))
        go_wp2_with fail
        refine hK.out _ _ ?hSn3_8 (fun hHeld => ?hRn3_8)
        case hSn3_8 => ((try dsimp only); exact ⟨has1, has1⟩)
        clear hK K
        try simp only [Act.put, zp1, zp2, zp3, zp4, zp5, zp6]
        refine wpAnyH_ready (rs := [8]) (by kernel_rfl) (by simp) ?_
        refine AllReadyH.cons rfl (fun K hK => ?_) AllReadyH.nil
        go_simp
        ((go_at_call 51; (with_reducible refine (mmul_any (lastS s) q _ g10 _ _ A45 A50 _ _ _ (tr _ A45) (tr _ A50) has1 has_frozen).mono ?_); rintro e51 w51 ⟨A51, c51, he, hf, hb⟩; rw [GL.hz] at he hf; rw [GL.hb] at hb; subst he; haveI := belM hb; haveI := Fs.of hf; clear hf hb))
        go_wp2_with fail
        refine hK.out _ _ ?hSn3_9 (fun hHeld => ?hRn3_9)
        case hSn3_9 => ((try dsimp only); exact ⟨has1, has1⟩)
        clear hK K
        try simp only [Act.put, zp1, zp2, zp3, zp4, zp5, zp6]
        refine wpAnyH_ready (rs := [9]) (by kernel_rfl) (by simp) ?_
        refine AllReadyH.cons rfl (fun K hK => ?_) AllReadyH.nil
        go_simp
        ((go_at_call 50; (with_reducible refine (negligible_any r L _ _ Ar A51 _ _ _ (tr _ Ar) (tr _ A51) HBR.out HBL.out).mono ?_); rintro e52 w52 ⟨he, hb⟩; rw [HNB.out] at he; subst he; haveI : Bel _ w52 := ⟨hb⟩; clear hb))
        go_wp2_with fail
        refine hK.out _ _ ?hSn3_10 (fun hHeld => ?hRn3_10)
        case hSn3_10 => ((try dsimp only); exact ⟨has1, has1⟩)
        clear hK K
        try simp only [Act.put, zp1, zp2, zp3, zp4, zp5, zp6]
        refine wpAnyH_take (i := 10) (v := ?vn3_11) rfl (by kernel_rfl) (by kernel_rfl) (by kernel_rfl) (fun _ _ _ h => h) (Or.inl ⟨by rfl, ?hyn3_11⟩) (by assumption) ?hRn3_11
        case hyn3_11 => (intro w hSw; (try dsimp only at hSw); go_simp; (try with_reducible rfl))
        try simp only [Act.put, zp1, zp2, zp3, zp4, zp5, zp6]
        refine wpAnyH_take (i := 11) (v := ?vn3_12) rfl (by kernel_rfl) (by kernel_rfl) (by kernel_rfl) (fun _ _ _ h => h) (Or.inl ⟨by rfl, ?hyn3_12⟩) (by assumption) ?hRn3_12
        case hyn3_12 => (intro w hSw; (try dsimp only at hSw); go_simp; (try with_reducible rfl))
        try simp only [Act.put, zp1, zp2, zp3, zp4, zp5, zp6]
        refine wpAnyH_take (i := 12) (v := ?vn3_13) rfl (by kernel_rfl) (by kernel_rfl) (by kernel_rfl) (fun _ _ _ h => h) (Or.inl ⟨by rfl, ?hyn3_13⟩) (by assumption) ?hRn3_13
        case hyn3_13 => (intro w hSw; (try dsimp only at hSw); go_simp; (try with_reducible rfl))
        try simp only [Act.put, zp1, zp2, zp3, zp4, zp5, zp6]
        refine wpAnyH_take (i := 13) (v := ?vn3_14) rfl (by kernel_rfl) (by kernel_rfl) (by kernel_rfl) (fun _ _ _ h => h) (Or.inl ⟨by rfl, ?hyn3_14⟩) (by assumption) ?hRn3_14
        case hyn3_14 => (intro w hSw; (try dsimp only at hSw); go_simp; (try with_reducible rfl))
        try simp only [Act.put, zp1, zp2, zp3, zp4, zp5, zp6]
        refine wpAnyH_done (by kernel_rfl) ?_ _
        all_goals
          go_wp2
          go_meet
          exact ⟨_, _, rfl, inferInstance, HC, kp _ _ _⟩
  case rest => as_aux_lemma =>
  rename World => wy
  obtain ⟨rt, bd, rfl, _, HC, _⟩ := hcut
  cases rt
  · go_upto_region 7 with fail
    refine wp_region_held_drew (S := (fun w' => w'.cell? ⟨g10, 0, none⟩ = some (.bool bd))) (by kernel_rfl) ?hSn4_ (fun hHeld => ?hRn4_)
    case hSn4_ => (exact has1)
    refine wpAnyH_take (i := 0) (v := ?vn4_1) rfl (by kernel_rfl) (by kernel_rfl) (by kernel_rfl) (fun _ _ _ h => h) (Or.inl ⟨by rfl, ?hyn4_1⟩) (by assumption) ?hRn4_1
    case hyn4_1 => (intro w hSw; (try dsimp only at hSw); go_simp; (try with_reducible rfl))
    try simp only [Act.put, zp1, zp2, zp3, zp4, zp5, zp6]
    refine wpAnyH_take (i := 1) (v := ?vn4_2) rfl (by kernel_rfl) (by kernel_rfl) (by kernel_rfl) (fun _ _ _ h => h) (Or.inl ⟨by rfl, ?hyn4_2⟩) (by assumption) ?hRn4_2
    case hyn4_2 => (intro w hSw; (try dsimp only at hSw); go_simp; (try with_reducible rfl))
    try simp only [Act.put, zp1, zp2, zp3, zp4, zp5, zp6]
    refine wpAnyH_take (i := 2) (v := undef) rfl (by kernel_rfl) (by kernel_rfl) (by kernel_rfl) (fun _ _ _ h => h) (Or.inr ⟨by rfl, by rfl⟩) (by assumption) ?_
    try simp only [Act.put, zp1, zp2, zp3, zp4, zp5, zp6]
    refine wpAnyH_take (i := 3) (v := undef) rfl (by kernel_rfl) (by kernel_rfl) (by kernel_rfl) (fun _ _ _ h => h) (Or.inr ⟨by rfl, by rfl⟩) (by assumption) ?_
    try simp only [Act.put, zp1, zp2, zp3, zp4, zp5, zp6]
    refine wpAnyH_take (i := 4) (v := undef) rfl (by kernel_rfl) (by kernel_rfl) (by kernel_rfl) (fun _ _ _ h => h) (Or.inr ⟨by rfl, by rfl⟩) (by assumption) ?_
    try simp only [Act.put, zp1, zp2, zp3, zp4, zp5, zp6]
    refine wpAnyH_take (i := 5) (v := ?vn4_6) rfl (by kernel_rfl) (by kernel_rfl) (by kernel_rfl) (fun _ _ _ h => h) (Or.inl ⟨by rfl, ?hyn4_6⟩) (by assumption) ?hRn4_6
    case hyn4_6 => (intro w hSw; (try dsimp only at hSw); go_simp; (try with_reducible rfl))
    try simp only [Act.put, zp1, zp2, zp3, zp4, zp5, zp6]
    refine wpAnyH_take (i := 6) (v := ?vn4_7) rfl (by kernel_rfl) (by kernel_rfl) (by kernel_rfl) (fun _ _ _ h => h) (Or.inl ⟨by rfl, ?hyn4_7⟩) (by assumption) ?hRn4_7
    case hyn4_7 => (intro w hSw; (try dsimp only at hSw); go_simp; (try with_reducible rfl))
    try simp only [Act.put, zp1, zp2, zp3, zp4, zp5, zp6]
    refine wpAnyH_take (i := 7) (v := ?vn4_8) rfl (by kernel_rfl) (by kernel_rfl) (by kernel_rfl) (fun _ _ _ h => h) (Or.inl ⟨by rfl, ?hyn4_8⟩) (by assumption) ?hRn4_8
    case hyn4_8 => (intro w hSw; (try dsimp only at hSw); go_simp; (try with_reducible rfl))
    try simp only [Act.put, zp1, zp2, zp3, zp4, zp5, zp6]
    refine wpAnyH_take (i := 8) (v := ?vn4_9) rfl (by kernel_rfl) (by kernel_rfl) (by kernel_rfl) (fun _ _ _ h => h) (Or.inl ⟨by rfl, ?hyn4_9⟩) (by assumption) ?hRn4_9
    case hyn4_9 => (intro w hSw; (try dsimp only at hSw); go_simp; (try with_reducible rfl))
    try simp only [Act.put, zp1, zp2, zp3, zp4, zp5, zp6]
    refine wpAnyH_take (i := 9) (v := ?vn4_10) rfl (by kernel_rfl) (by kernel_rfl) (by kernel_rfl) (fun _ _ _ h => h) (Or.inl ⟨by rfl, ?hyn4_10⟩) (by assumption) ?hRn4_10
    case hyn4_10 => (intro w hSw; (try dsimp only at hSw); go_simp; (try with_reducible rfl))
    try simp only [Act.put, zp1, zp2, zp3, zp4, zp5, zp6]
    refine wpAnyH_take (i := 10) (v := ?vn4_11) rfl (by kernel_rfl) (by kernel_rfl) (by kernel_rfl) (fun _ _ _ h => h) (Or.inl ⟨by rfl, ?hyn4_11⟩) (by assumption) ?hRn4_11
    case hyn4_11 => (intro w hSw; (try dsimp only at hSw); go_simp; (try with_reducible rfl))
    try simp only [Act.put, zp1, zp2, zp3, zp4, zp5, zp6]
    refine wpAnyH_done (by kernel_rfl) ?_ _
    all_goals
      go_wp2
      refine bodyPost_ret (v := .tuple #[.bool false, .bool (!bd)]) (by simp [results, Tryz.results12, go_sem]) rfl ?_
      unfold RetChk
      rw [HC.out]
      exact ⟨rfl, ext w _⟩
  · go_upto_region 7 with fail
    refine wp_region_held_drew (S := (fun w' => w'.cell? ⟨g10, 0, none⟩ = some (.bool bd))) (by kernel_rfl) ?hSn5_ (fun hHeld => ?hRn5_)
    case hSn5_ => (exact has1)
    refine wpAnyH_take (i := 0) (v := ?vn5_1) rfl (by kernel_rfl) (by kernel_rfl) (by kernel_rfl) (fun _ _ _ h => h) (Or.inl ⟨by rfl, ?hyn5_1⟩) (by assumption) ?hRn5_1
    case hyn5_1 => (intro w hSw; (try dsimp only at hSw); go_simp; (try with_reducible rfl))
    try simp only [Act.put, zp1, zp2, zp3, zp4, zp5, zp6]
    refine wpAnyH_take (i := 1) (v := ?vn5_2) rfl (by kernel_rfl) (by kernel_rfl) (by kernel_rfl) (fun _ _ _ h => h) (Or.inl ⟨by rfl, ?hyn5_2⟩) (by assumption) ?hRn5_2
    case hyn5_2 => (intro w hSw; (try dsimp only at hSw); go_simp; (try with_reducible rfl))
    try simp only [Act.put, zp1, zp2, zp3, zp4, zp5, zp6]
    refine wpAnyH_take (i := 2) (v := ?vn5_3) rfl (by kernel_rfl) (by kernel_rfl) (by kernel_rfl) (fun _ _ _ h => h) (Or.inl ⟨by rfl, ?hyn5_3⟩) (by assumption) ?hRn5_3
    case hyn5_3 => (intro w hSw; (try dsimp only at hSw); go_simp; (try with_reducible rfl))
    try simp only [Act.put, zp1, zp2, zp3, zp4, zp5, zp6]
    refine wpAnyH_take (i := 3) (v := ?vn5_4) rfl (by kernel_rfl) (by kernel_rfl) (by kernel_rfl) (fun _ _ _ h => h) (Or.inl ⟨by rfl, ?hyn5_4⟩) (by assumption) ?hRn5_4
    case hyn5_4 => (intro w hSw; (try dsimp only at hSw); go_simp; (try with_reducible rfl))
    try simp only [Act.put, zp1, zp2, zp3, zp4, zp5, zp6]
    refine wpAnyH_take (i := 4) (v := ?vn5_5) rfl (by kernel_rfl) (by kernel_rfl) (by kernel_rfl) (fun _ _ _ h => h) (Or.inl ⟨by rfl, ?hyn5_5⟩) (by assumption) ?hRn5_5
    case hyn5_5 => (intro w hSw; (try dsimp only at hSw); go_simp; (try with_reducible rfl))
    try simp only [Act.put, zp1, zp2, zp3, zp4, zp5, zp6]
    refine wpAnyH_take (i := 5) (v := ?vn5_6) rfl (by kernel_rfl) (by kernel_rfl) (by kernel_rfl) (fun _ _ _ h => h) (Or.inl ⟨by rfl, ?hyn5_6⟩) (by assumption) ?hRn5_6
    case hyn5_6 => (intro w hSw; (try dsimp only at hSw); go_simp; (try with_reducible rfl))
    try simp only [Act.put, zp1, zp2, zp3, zp4, zp5, zp6]
    refine wpAnyH_take (i := 6) (v := ?vn5_7) rfl (by kernel_rfl) (by kernel_rfl) (by kernel_rfl) (fun _ _ _ h => h) (Or.inl ⟨by rfl, ?hyn5_7⟩) (by assumption) ?hRn5_7
    case hyn5_7 => (intro w hSw; (try dsimp only at hSw); go_simp; (try with_reducible rfl))
    try simp only [Act.put, zp1, zp2, zp3, zp4, zp5, zp6]
    refine wpAnyH_take (i := 7) (v := ?vn5_8) rfl (by kernel_rfl) (by kernel_rfl) (by kernel_rfl) (fun _ _ _ h => h) (Or.inl ⟨by rfl, ?hyn5_8⟩) (by assumption) ?hRn5_8
    case hyn5_8 => (intro w hSw; (try dsimp only at hSw); go_simp; (try with_reducible rfl))
    try simp only [Act.put, zp1, zp2, zp3, zp4, zp5, zp6]
    refine wpAnyH_take (i := 8) (v := ?vn5_9) rfl (by kernel_rfl) (by kernel_rfl) (by kernel_rfl) (fun _ _ _ h => h) (Or.inl ⟨by rfl, ?hyn5_9⟩) (by assumption) ?hRn5_9
    case hyn5_9 => (intro w hSw; (try dsimp only at hSw); go_simp; (try with_reducible rfl))
    try simp only [Act.put, zp1, zp2, zp3, zp4, zp5, zp6]
    refine wpAnyH_take (i := 9) (v := ?vn5_10) rfl (by kernel_rfl) (by kernel_rfl) (by kernel_rfl) (fun _ _ _ h => h) (Or.inl ⟨by rfl, ?hyn5_10⟩) (by assumption) ?hRn5_10
    case hyn5_10 => (intro w hSw; (try dsimp only at hSw); go_simp; (try with_reducible rfl))
    try simp only [Act.put, zp1, zp2, zp3, zp4, zp5, zp6]
    refine wpAnyH_take (i := 10) (v := ?vn5_11) rfl (by kernel_rfl) (by kernel_rfl) (by kernel_rfl) (fun _ _ _ h => h) (Or.inl ⟨by rfl, ?hyn5_11⟩) (by assumption) ?hRn5_11
    case hyn5_11 => (intro w hSw; (try dsimp only at hSw); go_simp; (try with_reducible rfl))
    try simp only [Act.put, zp1, zp2, zp3, zp4, zp5, zp6]
    refine wpAnyH_done (by kernel_rfl) ?_ _
    all_goals
      go_wp2
      refine bodyPost_ret (v := .tuple #[.bool (!bd), .bool (!bd)]) (by simp [results, Tryz.results12, go_sem]) rfl ?_
      unfold RetChk
      rw [HC.out]
      exact ⟨rfl, ext w _⟩
end Go.Proofs.YtonlfnbjbmgegaaGreat
