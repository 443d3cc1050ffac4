/-
  Walks: CheckQuotient, the program's and the reference's; ExactQuotient.
-/
import Derived.Test.YtphabopnbcgodaaGreatWChk
namespace Go.Proofs.YtphabopnbcgodaaGreat
open Go.RowKit
open List renaming getElem_toArray → zp1, getElem_cons_zero → zp2, getElem_cons_succ → zp3, setIfInBounds_toArray → zp4, set_cons_zero → zp5, set_cons_succ → zp6
set_option linter.unusedSimpArgs false
set_option linter.unusedVariables false

structure OptV (o : Option Sur) (z : Sur) (b : Bool) : Prop where
  hz : o.getD .nil = z
  hb : o.isSome = b
theorem optV (o : Option Sur) : ∃ z b, OptV o z b := ⟨_, _, rfl, rfl⟩
theorem boolH (b : Bool) : ∃ c, Hid (b = c) := ⟨b, rfl⟩
theorem intH (b : Int) : ∃ c, Hid (b = c) := ⟨b, rfl⟩
def RetChk (w : World) (o : Bool × Bool) (e : Ending) (w' : World) : Prop := e = .returned (.tuple #[.bool o.1, .bool o.2]) ∧ Below w.heap.size w w'
theorem good_bd {x : Sur} (h : sGood x = true) : x.All Bd := Sur.All.mono (fun _ _ h => FOk.bd h) x (sGood_len h).2.2
theorem chk_bad {x y q r : Sur} (h : chG x y q r = false) : chk x y q r = (false, false) := by unfold chk; rw [if_neg (by simp [h])]
attribute [local go_sem high] has_cell has_frozen
set_option synthInstance.maxHeartbeats 2000000 in
set_option synthInstance.maxSize 4000 in
set_option maxHeartbeats 6400000 in
set_option maxRecDepth 100000 in
theorem CheckQuotient_any (x y q r : Sur) (X Y Q R : Nat → Prop) (Ax Ay Aq Ar : Option Addr) (cx cy cq cr : Nat) (w : World) (sx : SSl X w x Ax cx) (sy : SSl Y w y Ay cy) (sq : SSl Q w q Aq cq) (sr : SSl R w r Ar cr) :
    Calls Tryz.prog 22 #[.agg #[.slice Ax x.len cx], .agg #[.slice Ay y.len cy], .agg #[.slice Aq q.len cq], .agg #[.slice Ar r.len cr]] w (RetChk w (chk x y q r)) := by
  haveI := Tr.arg (sx.more (Y := XN) (fun _ h => h.elim))
  haveI := Tr.arg (sy.more (Y := XN) (fun _ h => h.elim))
  haveI := Tr.arg (sq.more (Y := XN) (fun _ h => h.elim))
  haveI := Tr.arg (sr.more (Y := XN) (fun _ h => h.elim))
  clear sx sy sq sr
  cases g1 : (sGood x && sGood y)
  · have H := Lib.hid (chk_bad (show chG x y q r = false by unfold chG; rw [g1]; rfl))
    go_enter Tryz.func22, Tryz.ntmps22
    go_wp2_with (first | ((with_reducible refine at_dst (N := 4) rfl ?_); refine ev_box (cs := #[.slice Ax x.len cx]) (t := 26) rfl ?hr4 ?_; (case hr4 => first | (go_simp; done) | (go_simp; rfl)); intro g4 v4 _ _ _ _) | ((with_reducible refine at_dst (N := 5) rfl ?_); refine ev_box (cs := #[.slice Ay y.len cy]) (t := 26) rfl ?hr5 ?_; (case hr5 => first | (go_simp; done) | (go_simp; rfl)); intro g5 v5 _ _ _ _) | ((with_reducible refine at_dst (N := 6) rfl ?_); refine ev_box (cs := #[.slice Aq q.len cq]) (t := 26) rfl ?hr6 ?_; (case hr6 => first | (go_simp; done) | (go_simp; rfl)); intro g6 v6 _ _ _ _) | ((with_reducible refine at_dst (N := 7) rfl ?_); refine ev_box (cs := #[.slice Ar r.len cr]) (t := 26) rfl ?hr7 ?_; (case hr7 => first | (go_simp; done) | (go_simp; rfl)); intro g7 v7 _ _ _ _) | ((fail_if_success (have _q := w14)); go_at_call 78; (with_reducible refine (surreals_any x y _ _ Ax Ay _ _ _ (tr _ Ax) (tr _ Ay)).mono ?_); rintro e14 w14 ⟨he, hb⟩; rw [g1] at he; subst he; haveI : Bel _ w14 := ⟨hb⟩; clear hb))
    (refine bodyPost_ret (v := .tuple #[.bool false, .bool false]) (by simp [results, Tryz.results22, go_sem]) rfl ?_; unfold RetChk; rw [H.out]; exact ⟨rfl, ext w _⟩)
  cases g2 : (sGood q && sGood r)
  · have H := Lib.hid (chk_bad (show chG x y q r = false by unfold chG; rw [g2]; simp))
    go_enter Tryz.func22, Tryz.ntmps22
    go_wp2_with (first | ((with_reducible refine at_dst (N := 4) rfl ?_); refine ev_box (cs := #[.slice Ax x.len cx]) (t := 26) rfl ?hr4 ?_; (case hr4 => first | (go_simp; done) | (go_simp; rfl)); intro g4 v4 _ _ _ _) | ((with_reducible refine at_dst (N := 5) rfl ?_); refine ev_box (cs := #[.slice Ay y.len cy]) (t := 26) rfl ?hr5 ?_; (case hr5 => first | (go_simp; done) | (go_simp; rfl)); intro g5 v5 _ _ _ _) | ((with_reducible refine at_dst (N := 6) rfl ?_); refine ev_box (cs := #[.slice Aq q.len cq]) (t := 26) rfl ?hr6 ?_; (case hr6 => first | (go_simp; done) | (go_simp; rfl)); intro g6 v6 _ _ _ _) | ((with_reducible refine at_dst (N := 7) rfl ?_); refine ev_box (cs := #[.slice Ar r.len cr]) (t := 26) rfl ?hr7 ?_; (case hr7 => first | (go_simp; done) | (go_simp; rfl)); intro g7 v7 _ _ _ _) | ((fail_if_success (have _q := w14)); go_at_call 78; (with_reducible refine (surreals_any x y _ _ Ax Ay _ _ _ (tr _ Ax) (tr _ Ay)).mono ?_); rintro e14 w14 ⟨he, hb⟩; rw [g1] at he; subst he; haveI : Bel _ w14 := ⟨hb⟩; clear hb) | ((fail_if_success (have _q := w19)); go_at_call 78; (with_reducible refine (surreals_any q r _ _ Aq Ar _ _ _ (tr _ Aq) (tr _ Ar)).mono ?_); rintro e19 w19 ⟨he, hb⟩; rw [g2] at he; subst he; haveI : Bel _ w19 := ⟨hb⟩; clear hb))
    (refine bodyPost_ret (v := .tuple #[.bool false, .bool false]) (by simp [results, Tryz.results22, go_sem]) rfl ?_; unfold RetChk; rw [H.out]; exact ⟨rfl, ext w _⟩)
  by_cases hy : y.len = 0
  · have H := Lib.hid (chk_bad (show chG x y q r = false by unfold chG; rw [show decide (y.len ≠ 0) = false by simpa using hy]; simp))
    have hy' : ((y.len : Int) == 0) = true := by simpa using hy
    clear hy
    go_enter Tryz.func22, Tryz.ntmps22
    go_wp2_with (first | ((with_reducible refine at_dst (N := 4) rfl ?_); refine ev_box (cs := #[.slice Ax x.len cx]) (t := 26) rfl ?hr4 ?_; (case hr4 => first | (go_simp; done) | (go_simp; rfl)); intro g4 v4 _ _ _ _) | ((with_reducible refine at_dst (N := 5) rfl ?_); refine ev_box (cs := #[.slice Ay y.len cy]) (t := 26) rfl ?hr5 ?_; (case hr5 => first | (go_simp; done) | (go_simp; rfl)); intro g5 v5 _ _ _ _) | ((with_reducible refine at_dst (N := 6) rfl ?_); refine ev_box (cs := #[.slice Aq q.len cq]) (t := 26) rfl ?hr6 ?_; (case hr6 => first | (go_simp; done) | (go_simp; rfl)); intro g6 v6 _ _ _ _) | ((with_reducible refine at_dst (N := 7) rfl ?_); refine ev_box (cs := #[.slice Ar r.len cr]) (t := 26) rfl ?hr7 ?_; (case hr7 => first | (go_simp; done) | (go_simp; rfl)); intro g7 v7 _ _ _ _) | ((fail_if_success (have _q := w14)); go_at_call 78; (with_reducible refine (surreals_any x y _ _ Ax Ay _ _ _ (tr _ Ax) (tr _ Ay)).mono ?_); rintro e14 w14 ⟨he, hb⟩; rw [g1] at he; subst he; haveI : Bel _ w14 := ⟨hb⟩; clear hb) | ((fail_if_success (have _q := w19)); go_at_call 78; (with_reducible refine (surreals_any q r _ _ Aq Ar _ _ _ (tr _ Aq) (tr _ Ar)).mono ?_); rintro e19 w19 ⟨he, hb⟩; rw [g2] at he; subst he; haveI : Bel _ w19 := ⟨hb⟩; clear hb) | ((fail_if_success (have _q := w24)); go_at_call 87; (with_reducible refine (isNothing_any y Ay cy _).mono ?_); rintro e24 w24 ⟨rfl, hb⟩; haveI : Bel _ w24 := ⟨hb⟩; clear hb))
    (refine bodyPost_ret (v := .tuple #[.bool false, .bool false]) (by simp [results, Tryz.results22, go_sem]) rfl ?_; unfold RetChk; rw [H.out]; exact ⟨rfl, ext w _⟩)
  have hy' : ((y.len : Int) == 0) = false := by simp; omega
  have HCG : Hid (chG x y q r = true) := by show _ = _; unfold chG; rw [g1, g2, show decide (y.len ≠ 0) = true by simpa using hy]; rfl
  have HBX : Hid (x.All Bd) := by simp only [Bool.and_eq_true] at g1; exact good_bd g1.1
  have HBR : Hid (r.All Bd) := by simp only [Bool.and_eq_true] at g2; exact good_bd g2.2
  clear hy
  go_enter Tryz.func22, Tryz.ntmps22
  go_upto_region 4 with (first | ((with_reducible refine at_dst (N := 4) rfl ?_); refine ev_box (cs := #[.slice Ax x.len cx]) (t := 26) rfl ?hr4 ?_; (case hr4 => first | (go_simp; done) | (go_simp; rfl)); intro g4 v4 _ _ _ _) | ((with_reducible refine at_dst (N := 5) rfl ?_); refine ev_box (cs := #[.slice Ay y.len cy]) (t := 26) rfl ?hr5 ?_; (case hr5 => first | (go_simp; done) | (go_simp; rfl)); intro g5 v5 _ _ _ _) | ((with_reducible refine at_dst (N := 6) rfl ?_); refine ev_box (cs := #[.slice Aq q.len cq]) (t := 26) rfl ?hr6 ?_; (case hr6 => first | (go_simp; done) | (go_simp; rfl)); intro g6 v6 _ _ _ _) | ((with_reducible refine at_dst (N := 7) rfl ?_); refine ev_box (cs := #[.slice Ar r.len cr]) (t := 26) rfl ?hr7 ?_; (case hr7 => first | (go_simp; done) | (go_simp; rfl)); intro g7 v7 _ _ _ _) | ((fail_if_success (have _q := w14)); go_at_call 78; (with_reducible refine (surreals_any x y _ _ Ax Ay _ _ _ (tr _ Ax) (tr _ Ay)).mono ?_); rintro e14 w14 ⟨he, hb⟩; rw [g1] at he; subst he; haveI : Bel _ w14 := ⟨hb⟩; clear hb) | ((fail_if_success (have _q := w19)); go_at_call 78; (with_reducible refine (surreals_any q r _ _ Aq Ar _ _ _ (tr _ Aq) (tr _ Ar)).mono ?_); rintro e19 w19 ⟨he, hb⟩; rw [g2] at he; subst he; haveI : Bel _ w19 := ⟨hb⟩; clear hb) | ((fail_if_success (have _q := w24)); go_at_call 87; (with_reducible refine (isNothing_any y Ay cy _).mono ?_); rintro e24 w24 ⟨rfl, hb⟩; haveI : Bel _ w24 := ⟨hb⟩; clear hb) | ((with_reducible refine at_dst (N := 10) rfl ?_); refine ev_box (cs := #[.bool false]) (t := 77) rfl ?hr10 ?_; (case hr10 => first | (go_simp; done) | (go_simp; rfl)); intro g10 v10 _ _ _ _))
  refine wp_region_held_drew (S := (fun w' => w'.cell? ⟨g4, 0, none⟩ = some (.slice Ax x.len cx) ∧ w'.cell? ⟨g5, 0, none⟩ = some (.slice Ay y.len cy) ∧ w'.cell? ⟨g6, 0, none⟩ = some (.slice Aq q.len cq) ∧ w'.cell? ⟨g7, 0, none⟩ = some (.slice Ar r.len cr))) (by kernel_rfl) ?hSn1_ (fun hHeld => ?hRn1_)
  case hSn1_ => (exact ⟨has1, has1, has1, has1⟩)
  refine wpAnyH_take (i := 0) (v := ?vn1_1) rfl (by kernel_rfl) (by kernel_rfl) (by kernel_rfl) (fun _ _ _ h => h) (Or.inl ⟨by rfl, ?hyn1_1⟩) (by assumption) ?hRn1_1
  case hyn1_1 => (intro w hSw; (try dsimp only at hSw); go_simp; (try with_reducible rfl))
  try simp only [Act.put, zp1, zp2, zp3, zp4, zp5, zp6]
  refine wpAnyH_take (i := 1) (v := ?vn1_2) rfl (by kernel_rfl) (by kernel_rfl) (by kernel_rfl) (fun _ _ _ h => h) (Or.inl ⟨by rfl, ?hyn1_2⟩) (by assumption) ?hRn1_2
  case hyn1_2 => (intro w hSw; (try dsimp only at hSw); go_simp; (try with_reducible rfl))
  try simp only [Act.put, zp1, zp2, zp3, zp4, zp5, zp6]
  refine wpAnyH_take (i := 3) (v := ?vn1_3) rfl (by kernel_rfl) (by kernel_rfl) (by kernel_rfl) (fun _ _ _ h => h) (Or.inl ⟨by rfl, ?hyn1_3⟩) (by assumption) ?hRn1_3
  case hyn1_3 => (intro w hSw; (try dsimp only at hSw); go_simp; (try with_reducible rfl))
  try simp only [Act.put, zp1, zp2, zp3, zp4, zp5, zp6]
  refine wpAnyH_take (i := 5) (v := ?vn1_4) rfl (by kernel_rfl) (by kernel_rfl) (by kernel_rfl) (fun _ _ _ h => h) (Or.inl ⟨by rfl, ?hyn1_4⟩) (by assumption) ?hRn1_4
  case hyn1_4 => (intro w hSw; (try dsimp only at hSw); go_simp; (try with_reducible rfl))
  try simp only [Act.put, zp1, zp2, zp3, zp4, zp5, zp6]
  refine wpAnyH_ready (rs := [2]) (by kernel_rfl) (by simp) ?_
  refine AllReadyH.cons rfl (fun K hK => ?_) AllReadyH.nil
  go_simp
  (((fail_if_success (have _q := A29)); go_at_call 53; (with_reducible refine (mmul_any q y false g10 _ _ Aq Ay _ _ _ (tr _ Aq) (tr _ Ay) has1 has_frozen).mono ?_); rintro e29 w29 ⟨A29, c29, he, hf, hb⟩; obtain ⟨z, zb, GZ⟩ := optV (mulS q y); rw [GZ.hz] at he hf; rw [GZ.hb] at hb; subst he; haveI := belM hb; haveI := Fs.of hf; clear hf hb))
  go_wp2_with fail
  refine hK.out _ _ ?hSn1_5 (fun hHeld => ?hRn1_5)
  case hSn1_5 => ((try dsimp only); exact ⟨has1, has1, has1, has1⟩)
  clear hK K
  try simp only [Act.put, zp1, zp2, zp3, zp4, zp5, zp6]
  refine wpAnyH_ready (rs := [4]) (by kernel_rfl) (by simp) ?_
  refine AllReadyH.cons rfl (fun K hK => ?_) AllReadyH.nil
  go_simp
  ((go_at_call 58; (with_reducible refine (madd_any z r _ g10 _ _ A29 Ar _ _ _ (tr _ A29) (tr _ Ar) has1 has_frozen).mono ?_); rintro e31 w31 ⟨A31, c31, he, hf, hb⟩; obtain ⟨v, vb, GV⟩ := optV (addS z r); rw [GV.hz] at he hf; rw [GV.hb] at hb; subst he; haveI := belM hb; haveI := Fs.of hf; clear hf hb))
  go_wp2_with fail
  refine hK.out _ _ ?hSn1_6 (fun hHeld => ?hRn1_6)
  case hSn1_6 => ((try dsimp only); exact ⟨has1, has1, has1, has1⟩)
  clear hK K
  try simp only [Act.put, zp1, zp2, zp3, zp4, zp5, zp6]
  refine wpAnyH_ready (rs := [6]) (by kernel_rfl) (by simp) ?_
  refine AllReadyH.cons rfl (fun K hK => ?_) AllReadyH.nil
  go_simp
  ((go_at_call 93; (with_reducible refine (order_any _ v x _ _ A31 Ax _ _ _ (Nat.le_refl _) (by rw [← GV.hz]; exact mix_all fun u h => All.bd (addS_all h).1) HBX.out (tr _ A31) (tr _ Ax)).mono ?_); rintro e33 w33 ⟨he, hb⟩; obtain ⟨O, HO⟩ := intH (order v x); rw [HO.out] at he; subst he; haveI : Bel _ w33 := ⟨hb⟩; clear hb))
  go_wp2_with fail
  refine hK.out _ _ ?hSn1_7 (fun hHeld => ?hRn1_7)
  case hSn1_7 => ((try dsimp only); exact ⟨has1, has1, has1, has1⟩)
  clear hK K
  try simp only [Act.put, zp1, zp2, zp3, zp4, zp5, zp6]
  refine wpAnyH_take (i := 7) (v := ?vn1_8) rfl (by kernel_rfl) (by kernel_rfl) (by kernel_rfl) (fun _ _ _ h => h) (Or.inl ⟨by rfl, ?hyn1_8⟩) (by assumption) ?hRn1_8
  case hyn1_8 => (intro w hSw; (try dsimp only at hSw); go_simp; (try with_reducible rfl))
  try simp only [Act.put, zp1, zp2, zp3, zp4, zp5, zp6]
  refine wpAnyH_take (i := 8) (v := ?vn1_9) rfl (by kernel_rfl) (by kernel_rfl) (by kernel_rfl) (fun _ _ _ h => h) (Or.inl ⟨by rfl, ?hyn1_9⟩) (by assumption) ?hRn1_9
  case hyn1_9 => (intro w hSw; (try dsimp only at hSw); go_simp; (try with_reducible rfl))
  try simp only [Act.put, zp1, zp2, zp3, zp4, zp5, zp6]
  refine wpAnyH_done (by kernel_rfl) ?_ _
  go_upto_region 5 with fail
  go_cut [42] (fun s42 wx => ∃ b : Bool, s42 = .bool b ∧ Hid (b = true ↔ q.len ≠ 0 ∧ r.len ≠ 0) ∧ Bel w33 wx)
  case first => as_aux_lemma =>
    by_cases hq : q.len = 0
    · have hq' : ((q.len : Int) == 0) = true := by simpa using hq
      have HQ := Lib.hid hq
      clear hq
      go_wp2_with (first | ((fail_if_success (have _q := w36)); go_at_call 87; (with_reducible refine (isNothing_any q Aq cq _).mono ?_); rintro e36 w36 ⟨rfl, hb⟩; haveI : Bel _ w36 := ⟨hb⟩; clear hb) | ((fail_if_success (have _q := w40)); go_at_call 87; (with_reducible refine (isNothing_any r Ar cr _).mono ?_); rintro e40 w40 ⟨rfl, hb⟩; haveI : Bel _ w40 := ⟨hb⟩; clear hb))
      go_meet
      exact ⟨false, rfl, ⟨(fun h => by cases h), (fun h => absurd HQ.out h.1)⟩, ⟨ext _ _⟩⟩
    · have HQ := Lib.hid hq
      have hq' : ((q.len : Int) == 0) = false := by simp; omega
      clear hq
      by_cases hr : r.len = 0
      · have hr' : ((r.len : Int) == 0) = true := by simpa using hr
        have HR := Lib.hid hr
        clear hr
        go_wp2_with (first | ((fail_if_success (have _q := w36)); go_at_call 87; (with_reducible refine (isNothing_any q Aq cq _).mono ?_); rintro e36 w36 ⟨rfl, hb⟩; haveI : Bel _ w36 := ⟨hb⟩; clear hb) | ((fail_if_success (have _q := w40)); go_at_call 87; (with_reducible refine (isNothing_any r Ar cr _).mono ?_); rintro e40 w40 ⟨rfl, hb⟩; haveI : Bel _ w40 := ⟨hb⟩; clear hb))
        go_meet
        exact ⟨false, rfl, ⟨(fun h => by cases h), (fun h => absurd HR.out h.2)⟩, ⟨ext _ _⟩⟩
      · have HR := Lib.hid hr
        have hr' : ((r.len : Int) == 0) = false := by simp; omega
        clear hr
        go_wp2_with (first | ((fail_if_success (have _q := w36)); go_at_call 87; (with_reducible refine (isNothing_any q Aq cq _).mono ?_); rintro e36 w36 ⟨rfl, hb⟩; haveI : Bel _ w36 := ⟨hb⟩; clear hb) | ((fail_if_success (have _q := w40)); go_at_call 87; (with_reducible refine (isNothing_any r Ar cr _).mono ?_); rintro e40 w40 ⟨rfl, hb⟩; haveI : Bel _ w40 := ⟨hb⟩; clear hb))
        go_meet
        exact ⟨true, rfl, ⟨(fun _ => ⟨HQ.out, HR.out⟩), (fun _ => rfl)⟩, ⟨ext _ _⟩⟩
  case rest =>
  rename World => wx
  obtain ⟨b, rfl, HB, _⟩ := hcut
  have HE1 : Hid (chR x y q r = (O == 0) ∧ chB1 y q r = ((false || !zb) || !vb)) := by
    show _ ∧ _
    unfold chR chB1
    rw [GZ.hz, GZ.hb, GV.hz, GV.hb, HO.out]
    exact ⟨rfl, rfl⟩
  obtain ⟨rb, HRB⟩ := boolH (O == 0)
  have HRB' := HRB.out
  go_upto_if 42 with fail
  go_cut [11] (fun s11 wy => ∃ rt bd : Bool, s11 = .bool rt ∧ Has wy g10 (.cells #[.bool bd] 77 (0, 0)) ∧ Hid (chk x y q r = (rt && !bd, !bd)) ∧ Kp wx (XE g10) wy)
  case first => as_aux_lemma =>
    cases b
    · have HC : Hid (chk x y q r = (rb && !((false || !zb) || !vb), !((false || !zb) || !vb))) := by
        show _ = _
        unfold chk
        rw [if_pos HCG.out, if_neg (fun h => by have := HB.out.2 h; cases this), HE1.out.1, HE1.out.2, HRB.out]
      go_wp2
      go_meet
      exact ⟨rb, _, by rw [HRB.out], inferInstance, HC, kp _ _ _⟩
    · have HQ0 : Hid (q.len ≠ 0) := (HB.out.1 rfl).1
      have HR0 : Hid (r.len ≠ 0) := (HB.out.1 rfl).2
      go_upto_region 6 with fail
      cases hnb : chN y q r
      · have HNB := Lib.hid hnb
        clear hnb
        refine wp_region_held_drew (S := (fun w' => w'.cell? ⟨g5, 0, none⟩ = some (.slice Ay y.len cy) ∧ w'.cell? ⟨g6, 0, none⟩ = some (.slice Aq q.len cq) ∧ w'.cell? ⟨g7, 0, none⟩ = some (.slice Ar r.len cr))) (by kernel_rfl) ?hSn2_ (fun hHeld => ?hRn2_)
        case hSn2_ => (exact ⟨has1, has1, has1⟩)
        refine wpAnyH_take (i := 0) (v := ?vn2_1) rfl (by kernel_rfl) (by kernel_rfl) (by kernel_rfl) (fun _ _ _ h => h) (Or.inl ⟨by rfl, ?hyn2_1⟩) (by assumption) ?hRn2_1
        case hyn2_1 => (intro w hSw; (try dsimp only at hSw); go_simp; (try with_reducible rfl))
        try simp only [Act.put, zp1, zp2, zp3, zp4, zp5, zp6]
        refine wpAnyH_take (i := 1) (v := ?vn2_2) rfl (by kernel_rfl) (by kernel_rfl) (by kernel_rfl) (fun _ _ _ h => h) (Or.inl ⟨by rfl, ?hyn2_2⟩) (by assumption) ?hRn2_2
        case hyn2_2 => (intro w hSw; (try dsimp only at hSw); go_simp; (try with_reducible rfl))
        try simp only [Act.put, zp1, zp2, zp3, zp4, zp5, zp6]
        refine wpAnyH_take (i := 3) (v := ?vn2_3) rfl (by kernel_rfl) (by kernel_rfl) (by kernel_rfl) (fun _ _ _ h => h) (Or.inl ⟨by rfl, ?hyn2_3⟩) (by assumption) ?hRn2_3
        case hyn2_3 => (intro w hSw; (try dsimp only at hSw); go_simp; (try with_reducible rfl))
        try simp only [Act.put, zp1, zp2, zp3, zp4, zp5, zp6]
        refine wpAnyH_ready (rs := [2]) (by kernel_rfl) (by simp) ?_
        refine AllReadyH.cons rfl (fun K hK => ?_) AllReadyH.nil
        go_simp
        ((go_at_call 95; (with_reducible refine (lastTerm_any q _ Aq cq _ (tr _ Aq) HQ0.out).mono ?_); rintro e45 w45 ⟨A45, c45, rfl, hs, hb⟩; haveI : Bel _ w45 := ⟨hb⟩; haveI := Tr.arg hs; clear hs hb))
        go_wp2_with fail
        refine hK.out _ _ ?hSn2_4 (fun hHeld => ?hRn2_4)
        case hSn2_4 => ((try dsimp only); exact ⟨has1, has1, has1⟩)
        clear hK K
        try simp only [Act.put, zp1, zp2, zp3, zp4, zp5, zp6]
        refine wpAnyH_ready (rs := [4]) (by kernel_rfl) (by simp) ?_
        refine AllReadyH.cons rfl (fun K hK => ?_) AllReadyH.nil
        go_simp
        (((fail_if_success (have _q := A47)); go_at_call 53; (with_reducible refine (mmul_any (lastS q) y _ g10 _ _ A45 Ay _ _ _ (tr _ A45) (tr _ Ay) has1 has_frozen).mono ?_); rintro e47 w47 ⟨A47, c47, he, hf, hb⟩; obtain ⟨L, lb, GL⟩ := optV (mulS (lastS q) y); rw [GL.hz] at he hf; rw [GL.hb] at hb; subst he; haveI := belM hb; haveI := Fs.of hf; clear hf hb))
        go_wp2_with fail
        refine hK.out _ _ ?hSn2_5 (fun hHeld => ?hRn2_5)
        case hSn2_5 => ((try dsimp only); exact ⟨has1, has1, has1⟩)
        clear hK K
        try simp only [Act.put, zp1, zp2, zp3, zp4, zp5, zp6]
        refine wpAnyH_ready (rs := [5]) (by kernel_rfl) (by simp) ?_
        refine AllReadyH.cons rfl (fun K hK => ?_) AllReadyH.nil
        go_simp
        ((go_at_call 94; (with_reducible refine (negligible_any r L _ _ Ar A47 _ _ _ (tr _ Ar) (tr _ A47) HBR.out (by rw [← GL.hz]; exact mix_all fun u h => good_bd (mulS_some h).2.2.2)).mono ?_); rintro e48 w48 ⟨he, hb⟩; rw [show neglB r L = chN y q r by unfold chN; rw [GL.hz]] at he; rw [HNB.out] at he; subst he; haveI : Bel _ w48 := ⟨hb⟩; clear hb))
        go_wp2_with fail
        refine hK.out _ _ ?hSn2_6 (fun hHeld => ?hRn2_6)
        case hSn2_6 => ((try dsimp only); exact ⟨has1, has1, has1⟩)
        clear hK K
        try simp only [Act.put, zp1, zp2, zp3, zp4, zp5, zp6]
        refine wpAnyH_take (i := 6) (v := ?vn2_7) rfl (by kernel_rfl) (by kernel_rfl) (by kernel_rfl) (fun _ _ _ h => h) (Or.inl ⟨by rfl, ?hyn2_7⟩) (by assumption) ?hRn2_7
        case hyn2_7 => (intro w hSw; (try dsimp only at hSw); go_simp; (try with_reducible rfl))
        try simp only [Act.put, zp1, zp2, zp3, zp4, zp5, zp6]
        refine wpAnyH_take (i := 7) (v := undef) rfl (by kernel_rfl) (by kernel_rfl) (by kernel_rfl) (fun _ _ _ h => h) (Or.inr ⟨by rfl, by rfl⟩) (by assumption) ?_
        try simp only [Act.put, zp1, zp2, zp3, zp4, zp5, zp6]
        refine wpAnyH_take (i := 8) (v := ?vn2_9) rfl (by kernel_rfl) (by kernel_rfl) (by kernel_rfl) (fun _ _ _ h => h) (Or.inl ⟨by rfl, ?hyn2_9⟩) (by assumption) ?hRn2_9
        case hyn2_9 => (intro w hSw; (try dsimp only at hSw); go_simp; (try with_reducible rfl))
        try simp only [Act.put, zp1, zp2, zp3, zp4, zp5, zp6]
        refine wpAnyH_take (i := 9) (v := ?vn2_10) rfl (by kernel_rfl) (by kernel_rfl) (by kernel_rfl) (fun _ _ _ h => h) (Or.inl ⟨by rfl, ?hyn2_10⟩) (by assumption) ?hRn2_10
        case hyn2_10 => (intro w hSw; (try dsimp only at hSw); go_simp; (try with_reducible rfl))
        try simp only [Act.put, zp1, zp2, zp3, zp4, zp5, zp6]
        refine wpAnyH_done (by kernel_rfl) ?_ _
        all_goals
          (have HC : Hid (chk x y q r = ((chN y q r && (O == 0)) && !(((false || !zb) || !vb) || !lb), !(((false || !zb) || !vb) || !lb))) := (by show _ = _; unfold chk chB2; rw [if_pos HCG.out, if_pos ⟨HQ0.out, HR0.out⟩, HE1.out.1, HE1.out.2, GL.hb]); rw [HNB.out, HRB.out] at HC; go_wp2; go_meet; exact ⟨_, _, rfl, inferInstance, HC, kp _ _ _⟩)
      · have HNB := Lib.hid hnb
        clear hnb
        refine wp_region_held_drew (S := (fun w' => w'.cell? ⟨g5, 0, none⟩ = some (.slice Ay y.len cy) ∧ w'.cell? ⟨g6, 0, none⟩ = some (.slice Aq q.len cq) ∧ w'.cell? ⟨g7, 0, none⟩ = some (.slice Ar r.len cr))) (by kernel_rfl) ?hSn3_ (fun hHeld => ?hRn3_)
        case hSn3_ => (exact ⟨has1, has1, has1⟩)
        refine wpAnyH_take (i := 0) (v := ?vn3_1) rfl (by kernel_rfl) (by kernel_rfl) (by kernel_rfl) (fun _ _ _ h => h) (Or.inl ⟨by rfl, ?hyn3_1⟩) (by assumption) ?hRn3_1
        case hyn3_1 => (intro w hSw; (try dsimp only at hSw); go_simp; (try with_reducible rfl))
        try simp only [Act.put, zp1, zp2, zp3, zp4, zp5, zp6]
        refine wpAnyH_take (i := 1) (v := ?vn3_2) rfl (by kernel_rfl) (by kernel_rfl) (by kernel_rfl) (fun _ _ _ h => h) (Or.inl ⟨by rfl, ?hyn3_2⟩) (by assumption) ?hRn3_2
        case hyn3_2 => (intro w hSw; (try dsimp only at hSw); go_simp; (try with_reducible rfl))
        try simp only [Act.put, zp1, zp2, zp3, zp4, zp5, zp6]
        refine wpAnyH_take (i := 3) (v := ?vn3_3) rfl (by kernel_rfl) (by kernel_rfl) (by kernel_rfl) (fun _ _ _ h => h) (Or.inl ⟨by rfl, ?hyn3_3⟩) (by assumption) ?hRn3_3
        case hyn3_3 => (intro w hSw; (try dsimp only at hSw); go_simp; (try with_reducible rfl))
        try simp only [Act.put, zp1, zp2, zp3, zp4, zp5, zp6]
        refine wpAnyH_ready (rs := [2]) (by kernel_rfl) (by simp) ?_
        refine AllReadyH.cons rfl (fun K hK => ?_) AllReadyH.nil
        go_simp
        ((go_at_call 95; (with_reducible refine (lastTerm_any q _ Aq cq _ (tr _ Aq) HQ0.out).mono ?_); rintro e45 w45 ⟨A45, c45, rfl, hs, hb⟩; haveI : Bel _ w45 := ⟨hb⟩; haveI := Tr.arg hs; clear hs hb))
        go_wp2_with fail
        refine hK.out _ _ ?hSn3_4 (fun hHeld => ?hRn3_4)
        case hSn3_4 => ((try dsimp only); exact ⟨has1, has1, has1⟩)
        clear hK K
        try simp only [Act.put, zp1, zp2, zp3, zp4, zp5, zp6]
        refine wpAnyH_ready (rs := [4]) (by kernel_rfl) (by simp) ?_
        refine AllReadyH.cons rfl (fun K hK => ?_) AllReadyH.nil
        go_simp
        (((fail_if_success (have _q := A47)); go_at_call 53; (with_reducible refine (mmul_any (lastS q) y _ g10 _ _ A45 Ay _ _ _ (tr _ A45) (tr _ Ay) has1 has_frozen).mono ?_); rintro e47 w47 ⟨A47, c47, he, hf, hb⟩; obtain ⟨L, lb, GL⟩ := optV (mulS (lastS q) y); rw [GL.hz] at he hf; rw [GL.hb] at hb; subst he; haveI := belM hb; haveI := Fs.of hf; clear hf hb))
        go_wp2_with fail
        refine hK.out _ _ ?hSn3_5 (fun hHeld => ?hRn3_5)
        case hSn3_5 => ((try dsimp only); exact ⟨has1, has1, has1⟩)
        clear hK K
        try simp only [Act.put, zp1, zp2, zp3, zp4, zp5, zp6]
        refine wpAnyH_ready (rs := [5]) (by kernel_rfl) (by simp) ?_
        refine AllReadyH.cons rfl (fun K hK => ?_) AllReadyH.nil
        go_simp
        ((go_at_call 94; (with_reducible refine (negligible_any r L _ _ Ar A47 _ _ _ (tr _ Ar) (tr _ A47) HBR.out (by rw [← GL.hz]; exact mix_all fun u h => good_bd (mulS_some h).2.2.2)).mono ?_); rintro e48 w48 ⟨he, hb⟩; rw [show neglB r L = chN y q r by unfold chN; rw [GL.hz]] at he; rw [HNB.out] at he; subst he; haveI : Bel _ w48 := ⟨hb⟩; clear hb))
        go_wp2_with fail
        refine hK.out _ _ ?hSn3_6 (fun hHeld => ?hRn3_6)
        case hSn3_6 => ((try dsimp only); exact ⟨has1, has1, has1⟩)
        clear hK K
        try simp only [Act.put, zp1, zp2, zp3, zp4, zp5, zp6]
        refine wpAnyH_take (i := 6) (v := ?vn3_7) rfl (by kernel_rfl) (by kernel_rfl) (by kernel_rfl) (fun _ _ _ h => h) (Or.inl ⟨by rfl, ?hyn3_7⟩) (by assumption) ?hRn3_7
        case hyn3_7 => (intro w hSw; (try dsimp only at hSw); go_simp; (try with_reducible rfl))
        try simp only [Act.put, zp1, zp2, zp3, zp4, zp5, zp6]
        refine wpAnyH_take (i := 7) (v := ?vn3_8) rfl (by kernel_rfl) (by kernel_rfl) (by kernel_rfl) (fun _ _ _ h => h) (Or.inl ⟨by rfl, ?hyn3_8⟩) (by assumption) ?hRn3_8
        case hyn3_8 => (intro w hSw; (try dsimp only at hSw); go_simp; (try with_reducible rfl))
        try simp only [Act.put, zp1, zp2, zp3, zp4, zp5, zp6]
        refine wpAnyH_take (i := 8) (v := ?vn3_9) rfl (by kernel_rfl) (by kernel_rfl) (by kernel_rfl) (fun _ _ _ h => h) (Or.inl ⟨by rfl, ?hyn3_9⟩) (by assumption) ?hRn3_9
        case hyn3_9 => (intro w hSw; (try dsimp only at hSw); go_simp; (try with_reducible rfl))
        try simp only [Act.put, zp1, zp2, zp3, zp4, zp5, zp6]
        refine wpAnyH_take (i := 9) (v := ?vn3_10) rfl (by kernel_rfl) (by kernel_rfl) (by kernel_rfl) (fun _ _ _ h => h) (Or.inl ⟨by rfl, ?hyn3_10⟩) (by assumption) ?hRn3_10
        case hyn3_10 => (intro w hSw; (try dsimp only at hSw); go_simp; (try with_reducible rfl))
        try simp only [Act.put, zp1, zp2, zp3, zp4, zp5, zp6]
        refine wpAnyH_done (by kernel_rfl) ?_ _
        all_goals
          (have HC : Hid (chk x y q r = ((chN y q r && (O == 0)) && !(((false || !zb) || !vb) || !lb), !(((false || !zb) || !vb) || !lb))) := (by show _ = _; unfold chk chB2; rw [if_pos HCG.out, if_pos ⟨HQ0.out, HR0.out⟩, HE1.out.1, HE1.out.2, GL.hb]); rw [HNB.out, HRB.out] at HC; go_wp2; go_meet; exact ⟨_, _, rfl, inferInstance, HC, kp _ _ _⟩)
  case rest => as_aux_lemma =>
  rename World => wy
  obtain ⟨rt, bd, rfl, _, HC, _⟩ := hcut
  cases rt
  · go_upto_region 7 with fail
    refine wp_region_held_drew (S := (fun w' => w'.cell? ⟨g10, 0, none⟩ = some (.bool bd))) (by kernel_rfl) ?hSn4_ (fun hHeld => ?hRn4_)
    case hSn4_ => (exact has1)
    refine wpAnyH_take (i := 0) (v := ?vn4_1) rfl (by kernel_rfl) (by kernel_rfl) (by kernel_rfl) (fun _ _ _ h => h) (Or.inl ⟨by rfl, ?hyn4_1⟩) (by assumption) ?hRn4_1
    case hyn4_1 => (intro w hSw; (try dsimp only at hSw); go_simp; (try with_reducible rfl))
    try simp only [Act.put, zp1, zp2, zp3, zp4, zp5, zp6]
    refine wpAnyH_take (i := 1) (v := ?vn4_2) rfl (by kernel_rfl) (by kernel_rfl) (by kernel_rfl) (fun _ _ _ h => h) (Or.inl ⟨by rfl, ?hyn4_2⟩) (by assumption) ?hRn4_2
    case hyn4_2 => (intro w hSw; (try dsimp only at hSw); go_simp; (try with_reducible rfl))
    try simp only [Act.put, zp1, zp2, zp3, zp4, zp5, zp6]
    refine wpAnyH_take (i := 2) (v := undef) rfl (by kernel_rfl) (by kernel_rfl) (by kernel_rfl) (fun _ _ _ h => h) (Or.inr ⟨by rfl, by rfl⟩) (by assumption) ?_
    try simp only [Act.put, zp1, zp2, zp3, zp4, zp5, zp6]
    refine wpAnyH_take (i := 3) (v := undef) rfl (by kernel_rfl) (by kernel_rfl) (by kernel_rfl) (fun _ _ _ h => h) (Or.inr ⟨by rfl, by rfl⟩) (by assumption) ?_
    try simp only [Act.put, zp1, zp2, zp3, zp4, zp5, zp6]
    refine wpAnyH_take (i := 4) (v := undef) rfl (by kernel_rfl) (by kernel_rfl) (by kernel_rfl) (fun _ _ _ h => h) (Or.inr ⟨by rfl, by rfl⟩) (by assumption) ?_
    try simp only [Act.put, zp1, zp2, zp3, zp4, zp5, zp6]
    refine wpAnyH_take (i := 5) (v := ?vn4_6) rfl (by kernel_rfl) (by kernel_rfl) (by kernel_rfl) (fun _ _ _ h => h) (Or.inl ⟨by rfl, ?hyn4_6⟩) (by assumption) ?hRn4_6
    case hyn4_6 => (intro w hSw; (try dsimp only at hSw); go_simp; (try with_reducible rfl))
    try simp only [Act.put, zp1, zp2, zp3, zp4, zp5, zp6]
    refine wpAnyH_take (i := 6) (v := ?vn4_7) rfl (by kernel_rfl) (by kernel_rfl) (by kernel_rfl) (fun _ _ _ h => h) (Or.inl ⟨by rfl, ?hyn4_7⟩) (by assumption) ?hRn4_7
    case hyn4_7 => (intro w hSw; (try dsimp only at hSw); go_simp; (try with_reducible rfl))
    try simp only [Act.put, zp1, zp2, zp3, zp4, zp5, zp6]
    refine wpAnyH_take (i := 7) (v := ?vn4_8) rfl (by kernel_rfl) (by kernel_rfl) (by kernel_rfl) (fun _ _ _ h => h) (Or.inl ⟨by rfl, ?hyn4_8⟩) (by assumption) ?hRn4_8
    case hyn4_8 => (intro w hSw; (try dsimp only at hSw); go_simp; (try with_reducible rfl))
    try simp only [Act.put, zp1, zp2, zp3, zp4, zp5, zp6]
    refine wpAnyH_take (i := 8) (v := ?vn4_9) rfl (by kernel_rfl) (by kernel_rfl) (by kernel_rfl) (fun _ _ _ h => h) (Or.inl ⟨by rfl, ?hyn4_9⟩) (by assumption) ?hRn4_9
    case hyn4_9 => (intro w hSw; (try dsimp only at hSw); go_simp; (try with_reducible rfl))
    try simp only [Act.put, zp1, zp2, zp3, zp4, zp5, zp6]
    refine wpAnyH_take (i := 9) (v := ?vn4_10) rfl (by kernel_rfl) (by kernel_rfl) (by kernel_rfl) (fun _ _ _ h => h) (Or.inl ⟨by rfl, ?hyn4_10⟩) (by assumption) ?hRn4_10
    case hyn4_10 => (intro w hSw; (try dsimp only at hSw); go_simp; (try with_reducible rfl))
    try simp only [Act.put, zp1, zp2, zp3, zp4, zp5, zp6]
    refine wpAnyH_take (i := 10) (v := ?vn4_11) rfl (by kernel_rfl) (by kernel_rfl) (by kernel_rfl) (fun _ _ _ h => h) (Or.inl ⟨by rfl, ?hyn4_11⟩) (by assumption) ?hRn4_11
    case hyn4_11 => (intro w hSw; (try dsimp only at hSw); go_simp; (try with_reducible rfl))
    try simp only [Act.put, zp1, zp2, zp3, zp4, zp5, zp6]
    refine wpAnyH_done (by kernel_rfl) ?_ _
    all_goals
      go_wp2
      refine bodyPost_ret (v := .tuple #[.bool false, .bool (!bd)]) (by simp [results, Tryz.results22, go_sem]) rfl ?_
      unfold RetChk
      rw [HC.out]
      exact ⟨rfl, ext w _⟩
  · go_upto_region 7 with fail
    refine wp_region_held_drew (S := (fun w' => w'.cell? ⟨g10, 0, none⟩ = some (.bool bd))) (by kernel_rfl) ?hSn5_ (fun hHeld => ?hRn5_)
    case hSn5_ => (exact has1)
    refine wpAnyH_take (i := 0) (v := ?vn5_1) rfl (by kernel_rfl) (by kernel_rfl) (by kernel_rfl) (fun _ _ _ h => h) (Or.inl ⟨by rfl, ?hyn5_1⟩) (by assumption) ?hRn5_1
    case hyn5_1 => (intro w hSw; (try dsimp only at hSw); go_simp; (try with_reducible rfl))
    try simp only [Act.put, zp1, zp2, zp3, zp4, zp5, zp6]
    refine wpAnyH_take (i := 1) (v := ?vn5_2) rfl (by kernel_rfl) (by kernel_rfl) (by kernel_rfl) (fun _ _ _ h => h) (Or.inl ⟨by rfl, ?hyn5_2⟩) (by assumption) ?hRn5_2
    case hyn5_2 => (intro w hSw; (try dsimp only at hSw); go_simp; (try with_reducible rfl))
    try simp only [Act.put, zp1, zp2, zp3, zp4, zp5, zp6]
    refine wpAnyH_take (i := 2) (v := ?vn5_3) rfl (by kernel_rfl) (by kernel_rfl) (by kernel_rfl) (fun _ _ _ h => h) (Or.inl ⟨by rfl, ?hyn5_3⟩) (by assumption) ?hRn5_3
    case hyn5_3 => (intro w hSw; (try dsimp only at hSw); go_simp; (try with_reducible rfl))
    try simp only [Act.put, zp1, zp2, zp3, zp4, zp5, zp6]
    refine wpAnyH_take (i := 3) (v := ?vn5_4) rfl (by kernel_rfl) (by kernel_rfl) (by kernel_rfl) (fun _ _ _ h => h) (Or.inl ⟨by rfl, ?hyn5_4⟩) (by assumption) ?hRn5_4
    case hyn5_4 => (intro w hSw; (try dsimp only at hSw); go_simp; (try with_reducible rfl))
    try simp only [Act.put, zp1, zp2, zp3, zp4, zp5, zp6]
    refine wpAnyH_take (i := 4) (v := ?vn5_5) rfl (by kernel_rfl) (by kernel_rfl) (by kernel_rfl) (fun _ _ _ h => h) (Or.inl ⟨by rfl, ?hyn5_5⟩) (by assumption) ?hRn5_5
    case hyn5_5 => (intro w hSw; (try dsimp only at hSw); go_simp; (try with_reducible rfl))
    try simp only [Act.put, zp1, zp2, zp3, zp4, zp5, zp6]
    refine wpAnyH_take (i := 5) (v := ?vn5_6) rfl (by kernel_rfl) (by kernel_rfl) (by kernel_rfl) (fun _ _ _ h => h) (Or.inl ⟨by rfl, ?hyn5_6⟩) (by assumption) ?hRn5_6
    case hyn5_6 => (intro w hSw; (try dsimp only at hSw); go_simp; (try with_reducible rfl))
    try simp only [Act.put, zp1, zp2, zp3, zp4, zp5, zp6]
    refine wpAnyH_take (i := 6) (v := ?vn5_7) rfl (by kernel_rfl) (by kernel_rfl) (by kernel_rfl) (fun _ _ _ h => h) (Or.inl ⟨by rfl, ?hyn5_7⟩) (by assumption) ?hRn5_7
    case hyn5_7 => (intro w hSw; (try dsimp only at hSw); go_simp; (try with_reducible rfl))
    try simp only [Act.put, zp1, zp2, zp3, zp4, zp5, zp6]
    refine wpAnyH_take (i := 7) (v := ?vn5_8) rfl (by kernel_rfl) (by kernel_rfl) (by kernel_rfl) (fun _ _ _ h => h) (Or.inl ⟨by rfl, ?hyn5_8⟩) (by assumption) ?hRn5_8
    case hyn5_8 => (intro w hSw; (try dsimp only at hSw); go_simp; (try with_reducible rfl))
    try simp only [Act.put, zp1, zp2, zp3, zp4, zp5, zp6]
    refine wpAnyH_take (i := 8) (v := ?vn5_9) rfl (by kernel_rfl) (by kernel_rfl) (by kernel_rfl) (fun _ _ _ h => h) (Or.inl ⟨by rfl, ?hyn5_9⟩) (by assumption) ?hRn5_9
    case hyn5_9 => (intro w hSw; (try dsimp only at hSw); go_simp; (try with_reducible rfl))
    try simp only [Act.put, zp1, zp2, zp3, zp4, zp5, zp6]
    refine wpAnyH_take (i := 9) (v := ?vn5_10) rfl (by kernel_rfl) (by kernel_rfl) (by kernel_rfl) (fun _ _ _ h => h) (Or.inl ⟨by rfl, ?hyn5_10⟩) (by assumption) ?hRn5_10
    case hyn5_10 => (intro w hSw; (try dsimp only at hSw); go_simp; (try with_reducible rfl))
    try simp only [Act.put, zp1, zp2, zp3, zp4, zp5, zp6]
    refine wpAnyH_take (i := 10) (v := ?vn5_11) rfl (by kernel_rfl) (by kernel_rfl) (by kernel_rfl) (fun _ _ _ h => h) (Or.inl ⟨by rfl, ?hyn5_11⟩) (by assumption) ?hRn5_11
    case hyn5_11 => (intro w hSw; (try dsimp only at hSw); go_simp; (try with_reducible rfl))
    try simp only [Act.put, zp1, zp2, zp3, zp4, zp5, zp6]
    refine wpAnyH_done (by kernel_rfl) ?_ _
    all_goals
      go_wp2
      refine bodyPost_ret (v := .tuple #[.bool (!bd), .bool (!bd)]) (by simp [results, Tryz.results22, go_sem]) rfl ?_
      unfold RetChk
      rw [HC.out]
      exact ⟨rfl, ext w _⟩
end Go.Proofs.YtphabopnbcgodaaGreat
