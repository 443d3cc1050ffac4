/-
  Walks: CheckQuotient, the reference's; ExactQuotient of both.
-/
import Derived.Test.YtphabopnbcgodaaGreatWChk2
namespace Go.Proofs.YtphabopnbcgodaaGreat
open Go.RowKit
open List renaming getElem_toArray → zp1, getElem_cons_zero → zp2, getElem_cons_succ → zp3, setIfInBounds_toArray → zp4, set_cons_zero → zp5, set_cons_succ → zp6
set_option linter.unusedSimpArgs false
set_option linter.unusedVariables false

attribute [local go_sem high] has_cell has_frozen
theorem neglB_cons {x y : Sur} (hx : x.len ≠ 0) (hy : y.len ≠ 0) : neglB x y = decide (order (fE x) (fE y) < 0) := by
  cases x with
  | nil => exact absurd rfl hx
  | cons e n d r =>
    cases y with
    | nil => exact absurd rfl hy
    | cons e' n' d' r' => rfl
theorem neglB_nilL {x y : Sur} (hx : x.len = 0) (hy : y.len ≠ 0) : neglB x y = true := by
  cases x with
  | cons e n d r => simp [Sur.len] at hx
  | nil =>
    cases y with
    | nil => exact absurd rfl hy
    | cons e' n' d' r' => rfl
theorem fE_all {x : Sur} {p : Int → Int → Prop} (h : x.All p) : (fE x).All p := by
  cases x with
  | nil => exact trivial
  | cons e n d r => exact h.1
set_option synthInstance.maxHeartbeats 2000000 in
set_option maxHeartbeats 3200000 in
set_option maxRecDepth 100000 in
theorem suSmall_any (x y : Sur) (X Y : Nat → Prop) (A A' : Option Addr) (c c' : Nat) (w : World) (sx : SSl X w x A c) (sy : SSl Y w y A' c') (hx : x.All FOk) (hy : y.All FOk) :
    Calls Tryz.prog 97 #[.agg #[.slice A x.len c], .agg #[.slice A' y.len c']] w fun e w' => e = .returned (.bool (neglB x y)) ∧ Below w.heap.size w w' := by
  have lx := sx.cap
  have lx' := sx.le
  have ly := sy.cap
  have ly' := sy.le
  unfold maxLen at lx ly
  by_cases h2 : y.len = 0
  · have E := Lib.hid (show neglB x y = false by cases y with | nil => exact neglB_nil x | cons _ _ _ _ => simp [Sur.len] at h2)
    have h2' : ((y.len : Int) == 0) = true := by simpa using h2
    by_cases h1 : x.len = 0
    · have h1' : ((x.len : Int) == 0) = true := by simpa using h1
      clear h1 h2 sx sy
      go_enter Tryz.func97, Tryz.ntmps97
      go_wp2_with (first | ((with_reducible refine at_dst (N := 2) rfl ?_); refine ev_box (cs := #[.slice A x.len c]) (t := 26) rfl ?hr2 ?_; (case hr2 => first | (go_simp; done) | (go_simp; rfl)); intro g2 v2 _ _ _ _) | ((with_reducible refine at_dst (N := 3) rfl ?_); refine ev_box (cs := #[.slice A' y.len c']) (t := 26) rfl ?hr3 ?_; (case hr3 => first | (go_simp; done) | (go_simp; rfl)); intro g3 v3 _ _ _ _) | ((fail_if_success (have _q := w6)); go_at_call 90; (with_reducible refine (suZero_any x A c _).mono ?_); rintro e6 w6 ⟨rfl, hb⟩; haveI : Bel _ w6 := ⟨hb⟩; clear hb) | ((fail_if_success (have _q := w9)); go_at_call 90; (with_reducible refine (suZero_any y A' c' _).mono ?_); rintro e9 w9 ⟨rfl, hb⟩; haveI : Bel _ w9 := ⟨hb⟩; clear hb) | ((fail_if_success (have _q := w12)); go_at_call 90; (with_reducible refine (suZero_any y A' c' _).mono ?_); rintro e12 w12 ⟨rfl, hb⟩; haveI : Bel _ w12 := ⟨hb⟩; clear hb))
      refine bodyPost_ret (v := .bool false) (by simp [results, Tryz.results97, go_sem]) rfl ?_
      exact ⟨by rw [E.out], ext w _⟩
    · have h1' : ((x.len : Int) == 0) = false := by simp; omega
      clear h1 h2 sx sy
      go_enter Tryz.func97, Tryz.ntmps97
      go_wp2_with (first | ((with_reducible refine at_dst (N := 2) rfl ?_); refine ev_box (cs := #[.slice A x.len c]) (t := 26) rfl ?hr2 ?_; (case hr2 => first | (go_simp; done) | (go_simp; rfl)); intro g2 v2 _ _ _ _) | ((with_reducible refine at_dst (N := 3) rfl ?_); refine ev_box (cs := #[.slice A' y.len c']) (t := 26) rfl ?hr3 ?_; (case hr3 => first | (go_simp; done) | (go_simp; rfl)); intro g3 v3 _ _ _ _) | ((fail_if_success (have _q := w6)); go_at_call 90; (with_reducible refine (suZero_any x A c _).mono ?_); rintro e6 w6 ⟨rfl, hb⟩; haveI : Bel _ w6 := ⟨hb⟩; clear hb) | ((fail_if_success (have _q := w9)); go_at_call 90; (with_reducible refine (suZero_any y A' c' _).mono ?_); rintro e9 w9 ⟨rfl, hb⟩; haveI : Bel _ w9 := ⟨hb⟩; clear hb) | ((fail_if_success (have _q := w12)); go_at_call 90; (with_reducible refine (suZero_any y A' c' _).mono ?_); rintro e12 w12 ⟨rfl, hb⟩; haveI : Bel _ w12 := ⟨hb⟩; clear hb))
      refine bodyPost_ret (v := .bool false) (by simp [results, Tryz.results97, go_sem]) rfl ?_
      exact ⟨by rw [E.out], ext w _⟩
  · have h2' : ((y.len : Int) == 0) = false := by simp; omega
    by_cases h1 : x.len = 0
    · have E := Lib.hid (neglB_nilL h1 h2)
      have h1' : ((x.len : Int) == 0) = true := by simpa using h1
      clear h1 h2 sx sy
      go_enter Tryz.func97, Tryz.ntmps97
      go_wp2_with (first | ((with_reducible refine at_dst (N := 2) rfl ?_); refine ev_box (cs := #[.slice A x.len c]) (t := 26) rfl ?hr2 ?_; (case hr2 => first | (go_simp; done) | (go_simp; rfl)); intro g2 v2 _ _ _ _) | ((with_reducible refine at_dst (N := 3) rfl ?_); refine ev_box (cs := #[.slice A' y.len c']) (t := 26) rfl ?hr3 ?_; (case hr3 => first | (go_simp; done) | (go_simp; rfl)); intro g3 v3 _ _ _ _) | ((fail_if_success (have _q := w6)); go_at_call 90; (with_reducible refine (suZero_any x A c _).mono ?_); rintro e6 w6 ⟨rfl, hb⟩; haveI : Bel _ w6 := ⟨hb⟩; clear hb) | ((fail_if_success (have _q := w9)); go_at_call 90; (with_reducible refine (suZero_any y A' c' _).mono ?_); rintro e9 w9 ⟨rfl, hb⟩; haveI : Bel _ w9 := ⟨hb⟩; clear hb) | ((fail_if_success (have _q := w12)); go_at_call 90; (with_reducible refine (suZero_any y A' c' _).mono ?_); rintro e12 w12 ⟨rfl, hb⟩; haveI : Bel _ w12 := ⟨hb⟩; clear hb))
      refine bodyPost_ret (v := .bool true) (by simp [results, Tryz.results97, go_sem]) rfl ?_
      exact ⟨by rw [E.out], ext w _⟩
    · have E := Lib.hid (neglB_cons h1 h2)
      have h1' : ((x.len : Int) == 0) = false := by simp; omega
      obtain ⟨b, o, A1, d1, rfl, q0, _, _, se, _, hbl⟩ := sx.at0 h1
      obtain ⟨b', o', A2, d2, rfl, q0', _, _, se', _, hbl'⟩ := sy.at0 h2
      haveI := Tr.arg se
      haveI := Tr.arg se'
      have hl1 : 0 < x.len := by omega
      have hl2 : 0 < y.len := by omega
      clear h1 h2 sx sy se se'
      have HB : Hid ((fE x).All FOk ∧ (fE y).All FOk) := ⟨fE_all hx, fE_all hy⟩
      have Q0 : ∀ W, Ext w W → W.cell? ⟨b, o, none⟩ = some (.slice A1 (fE x).len d1) := fun W h => ((h.h).cell hbl).trans q0
      have Q1 : ∀ W, Ext w W → W.cell? ⟨b', o', none⟩ = some (.slice A2 (fE y).len d2) := fun W h => ((h.h).cell hbl').trans q0'
      go_enter Tryz.func97, Tryz.ntmps97
      go_upto_region 3 with (first | ((with_reducible refine at_dst (N := 2) rfl ?_); refine ev_box (cs := #[.slice (some ⟨b, o, none⟩) x.len c]) (t := 26) rfl ?hr2 ?_; (case hr2 => first | (go_simp; done) | (go_simp; rfl)); intro g2 v2 _ _ _ _) | ((with_reducible refine at_dst (N := 3) rfl ?_); refine ev_box (cs := #[.slice (some ⟨b', o', none⟩) y.len c']) (t := 26) rfl ?hr3 ?_; (case hr3 => first | (go_simp; done) | (go_simp; rfl)); intro g3 v3 _ _ _ _) | ((fail_if_success (have _q := w6)); go_at_call 90; (with_reducible refine (suZero_any x (some ⟨b, o, none⟩) c _).mono ?_); rintro e6 w6 ⟨rfl, hb⟩; haveI : Bel _ w6 := ⟨hb⟩; clear hb) | ((fail_if_success (have _q := w9)); go_at_call 90; (with_reducible refine (suZero_any y (some ⟨b', o', none⟩) c' _).mono ?_); rintro e9 w9 ⟨rfl, hb⟩; haveI : Bel _ w9 := ⟨hb⟩; clear hb))
      refine wp_region_held_drew (S := (fun w' => w'.cell? ⟨g2, 0, none⟩ = some (.slice (some ⟨b, o, none⟩) x.len c) ∧ w'.cell? ⟨g3, 0, none⟩ = some (.slice (some ⟨b', o', none⟩) y.len c') ∧ w'.cell? ⟨b, o, none⟩ = some (.slice A1 (fE x).len d1) ∧ w'.cell? ⟨b', o', none⟩ = some (.slice A2 (fE y).len d2))) (by kernel_rfl) ?hSn1_ (fun hHeld => ?hRn1_)
      case hSn1_ => (exact ⟨has1, has1, Q0 _ inferInstance, Q1 _ inferInstance⟩)
      refine wpAnyH_take (i := 0) (v := ?vn1_1) rfl (by kernel_rfl) (by kernel_rfl) (by kernel_rfl) (fun _ _ _ h => h) (Or.inl ⟨by rfl, ?hyn1_1⟩) (by assumption) ?hRn1_1
      case hyn1_1 => (intro w hSw; (try dsimp only at hSw); go_simp; (try with_reducible rfl))
      try simp only [Act.put, zp1, zp2, zp3, zp4, zp5, zp6]
      refine wpAnyH_take (i := 1) (v := ?vn1_2) rfl (by kernel_rfl) (by kernel_rfl) (by kernel_rfl) (fun _ _ _ h => h) (Or.inl ⟨by rfl, ?hyn1_2⟩) (by assumption) ?hRn1_2
      case hyn1_2 => (intro w hSw; (try dsimp only at hSw); go_simp; (try with_reducible rfl))
      try simp only [Act.put, zp1, zp2, zp3, zp4, zp5, zp6]
      refine wpAnyH_take (i := 2) (v := ?vn1_3) rfl (by kernel_rfl) (by kernel_rfl) (by kernel_rfl) (fun _ _ _ h => h) (Or.inl ⟨by rfl, ?hyn1_3⟩) (by assumption) ?hRn1_3
      case hyn1_3 => (intro w hSw; (try dsimp only at hSw); go_simp; (try with_reducible rfl))
      try simp only [Act.put, zp1, zp2, zp3, zp4, zp5, zp6]
      refine wpAnyH_take (i := 3) (v := ?vn1_4) rfl (by kernel_rfl) (by kernel_rfl) (by kernel_rfl) (fun _ _ _ h => h) (Or.inl ⟨by rfl, ?hyn1_4⟩) (by assumption) ?hRn1_4
      case hyn1_4 => (intro w hSw; (try dsimp only at hSw); go_simp; (try with_reducible rfl))
      try simp only [Act.put, zp1, zp2, zp3, zp4, zp5, zp6]
      refine wpAnyH_take (i := 4) (v := ?vn1_5) rfl (by kernel_rfl) (by kernel_rfl) (by kernel_rfl) (fun _ _ _ h => h) (Or.inl ⟨by rfl, ?hyn1_5⟩) (by assumption) ?hRn1_5
      case hyn1_5 => (intro w hSw; (try dsimp only at hSw); go_simp; (try with_reducible rfl))
      try simp only [Act.put, zp1, zp2, zp3, zp4, zp5, zp6]
      refine wpAnyH_take (i := 5) (v := ?vn1_6) rfl (by kernel_rfl) (by kernel_rfl) (by kernel_rfl) (fun _ _ _ h => h) (Or.inl ⟨by rfl, ?hyn1_6⟩) (by assumption) ?hRn1_6
      case hyn1_6 => (intro w hSw; (try dsimp only at hSw); go_simp; (try with_reducible rfl))
      try simp only [Act.put, zp1, zp2, zp3, zp4, zp5, zp6]
      refine wpAnyH_take (i := 6) (v := ?vn1_7) rfl (by kernel_rfl) (by kernel_rfl) (by kernel_rfl) (fun _ _ _ h => h) (Or.inl ⟨by rfl, ?hyn1_7⟩) (by assumption) ?hRn1_7
      case hyn1_7 => (intro w hSw; (try dsimp only at hSw); go_simp; (try with_reducible rfl))
      try simp only [Act.put, zp1, zp2, zp3, zp4, zp5, zp6]
      refine wpAnyH_take (i := 7) (v := ?vn1_8) rfl (by kernel_rfl) (by kernel_rfl) (by kernel_rfl) (fun _ _ _ h => h) (Or.inl ⟨by rfl, ?hyn1_8⟩) (by assumption) ?hRn1_8
      case hyn1_8 => (intro w hSw; (try dsimp only at hSw); go_simp; (try with_reducible rfl))
      try simp only [Act.put, zp1, zp2, zp3, zp4, zp5, zp6]
      refine wpAnyH_take (i := 8) (v := ?vn1_9) rfl (by kernel_rfl) (by kernel_rfl) (by kernel_rfl) (fun _ _ _ h => h) (Or.inl ⟨by rfl, ?hyn1_9⟩) (by assumption) ?hRn1_9
      case hyn1_9 => (intro w hSw; (try dsimp only at hSw); go_simp; (try with_reducible rfl))
      try simp only [Act.put, zp1, zp2, zp3, zp4, zp5, zp6]
      refine wpAnyH_take (i := 9) (v := ?vn1_10) rfl (by kernel_rfl) (by kernel_rfl) (by kernel_rfl) (fun _ _ _ h => h) (Or.inl ⟨by rfl, ?hyn1_10⟩) (by assumption) ?hRn1_10
      case hyn1_10 => (intro w hSw; (try dsimp only at hSw); go_simp; (try with_reducible rfl))
      try simp only [Act.put, zp1, zp2, zp3, zp4, zp5, zp6]
      refine wpAnyH_ready (rs := [10]) (by kernel_rfl) (by simp) ?_
      refine AllReadyH.cons rfl (fun K hK => ?_) AllReadyH.nil
      go_simp
      ((go_at_call 96; refine (suCmp_any _ (fE x) (fE y) _ _ A1 A2 d1 d2 _ (Nat.le_refl _) HB.out.1 HB.out.2 (tr _ A1) (tr _ A2)).mono ?_; rintro e24 w24 ⟨rfl, hb⟩; haveI : Bel _ w24 := ⟨hb⟩; clear hb))
      go_wp2_with fail
      refine hK.out _ _ ?hSn1_11 (fun hHeld => ?hRn1_11)
      case hSn1_11 => ((try dsimp only); exact ⟨has1, has1, Q0 _ inferInstance, Q1 _ inferInstance⟩)
      clear hK K
      try simp only [Act.put, zp1, zp2, zp3, zp4, zp5, zp6]
      refine wpAnyH_take (i := 11) (v := ?vn1_12) rfl (by kernel_rfl) (by kernel_rfl) (by kernel_rfl) (fun _ _ _ h => h) (Or.inl ⟨by rfl, ?hyn1_12⟩) (by assumption) ?hRn1_12
      case hyn1_12 => (intro w hSw; (try dsimp only at hSw); go_simp; (try with_reducible rfl))
      try simp only [Act.put, zp1, zp2, zp3, zp4, zp5, zp6]
      refine wpAnyH_take (i := 12) (v := ?vn1_13) rfl (by kernel_rfl) (by kernel_rfl) (by kernel_rfl) (fun _ _ _ h => h) (Or.inl ⟨by rfl, ?hyn1_13⟩) (by assumption) ?hRn1_13
      case hyn1_13 => (intro w hSw; (try dsimp only at hSw); go_simp; (try with_reducible rfl))
      try simp only [Act.put, zp1, zp2, zp3, zp4, zp5, zp6]
      refine wpAnyH_done (by kernel_rfl) ?_ _
      go_wp2
      refine bodyPost_ret (v := .bool (decide (order (fE x) (fE y) < 0))) (by simp [results, Tryz.results97, go_sem]) rfl ?_
      exact ⟨by rw [E.out], ext w _⟩

theorem surH (x : Sur) : ∃ z, Hid (x = z) := ⟨x, rfl⟩
theorem lastS_good {x : Sur} (h : sGood x = true) : sGood (lastS x) = true := by
  by_cases hx : x.len = 0
  · cases x with
    | nil => exact sGood_nil
    | cons _ _ _ _ => simp [Sur.len] at hx
  · have e := Sur.take_app_drop x (x.len - 1)
    rw [drop_last hx] at e
    rw [← e] at h
    exact sGood_suf h
/-- what the reference's checker gives, in its own words -/
theorem chk_of {x y q r z v : Sur} {zb vb : Bool} {O : Int} (hG : chG x y q r = true) (gq : sGood q = true) (gy : sGood y = true) (gr : sGood r = true)
    (HZB : (prodS q y).isSome = zb) (HZ : keepS false (prodS q y) = z) (HVB : (sumS z r).isSome = vb) (HV : keepS (false || !zb) (sumS z r) = v) (HO : order v x = O) :
    chB1 y q r = ((false || !zb) || !vb) ∧ (((false || !zb) || !vb) = false → chR x y q r = (O == 0)) := by
  have e1 : prodS q y = mulS q y := prodS_mulS gq gy
  rw [e1] at HZB HZ
  unfold chB1 chR
  cases hm : mulS q y with
  | none =>
    rw [hm] at HZB HZ
    subst HZB
    simp
  | some m =>
    rw [hm] at HZB HZ
    have hz : m = z := HZ
    subst hz
    have gm := (mulS_some hm).2.2.2
    have e2 : sumS m r = addS m r := sumS_addS gm gr
    rw [e2] at HVB HV
    subst HZB
    simp only [Option.isSome_some, Bool.not_true, Bool.or_false, Option.getD_some] at HV ⊢
    refine ⟨by rw [HVB], fun h => ?_⟩
    have hs : (addS m r).isSome = true := by
      rw [HVB]
      cases vb
      · simp at h
      · rfl
    obtain ⟨a, ha⟩ := Option.isSome_iff_exists.1 hs
    have hv : a = v := by rw [ha] at HV; exact HV
    have e3 : order ((addS m r).getD .nil) x = O := by rw [ha, ← HO, ← hv]; rfl
    show decide (order ((addS m r).getD .nil) x = 0) = decide (O = 0)
    simp only [e3]
set_option synthInstance.maxHeartbeats 2000000 in
set_option synthInstance.maxSize 4000 in
set_option maxHeartbeats 6400000 in
set_option maxRecDepth 100000 in
theorem sCheckQuotient_any (x y q r : Sur) (X Y Q R : Nat → Prop) (Ax Ay Aq Ar : Option Addr) (cx cy cq cr : Nat) (w : World) (sx : SSl X w x Ax cx) (sy : SSl Y w y Ay cy) (sq : SSl Q w q Aq cq) (sr : SSl R w r Ar cr) :
    Calls Tryz.prog 26 #[.agg #[.slice Ax x.len cx], .agg #[.slice Ay y.len cy], .agg #[.slice Aq q.len cq], .agg #[.slice Ar r.len cr]] w (RetChk w (chk x y q r)) := by
  haveI := Tr.arg (sx.more (Y := XN) (fun _ h => h.elim))
  haveI := Tr.arg (sy.more (Y := XN) (fun _ h => h.elim))
  haveI := Tr.arg (sq.more (Y := XN) (fun _ h => h.elim))
  haveI := Tr.arg (sr.more (Y := XN) (fun _ h => h.elim))
  clear sx sy sq sr
  cases gx : sGood x
  · have H := Lib.hid (chk_bad (show chG x y q r = false by unfold chG; rw [gx]; rfl))
    go_enter Tryz.func26, Tryz.ntmps26
    go_wp2_with (first | ((with_reducible refine at_dst (N := 4) rfl ?_); refine ev_box (cs := #[.slice Ax x.len cx]) (t := 26) rfl ?hr4 ?_; (case hr4 => first | (go_simp; done) | (go_simp; rfl)); intro g4 v4 _ _ _ _) | ((with_reducible refine at_dst (N := 5) rfl ?_); refine ev_box (cs := #[.slice Ay y.len cy]) (t := 26) rfl ?hr5 ?_; (case hr5 => first | (go_simp; done) | (go_simp; rfl)); intro g5 v5 _ _ _ _) | ((with_reducible refine at_dst (N := 6) rfl ?_); refine ev_box (cs := #[.slice Aq q.len cq]) (t := 26) rfl ?hr6 ?_; (case hr6 => first | (go_simp; done) | (go_simp; rfl)); intro g6 v6 _ _ _ _) | ((with_reducible refine at_dst (N := 7) rfl ?_); refine ev_box (cs := #[.slice Ar r.len cr]) (t := 26) rfl ?hr7 ?_; (case hr7 => first | (go_simp; done) | (go_simp; rfl)); intro g7 v7 _ _ _ _) | ((fail_if_success (have _q := w14)); go_at_call 61; (with_reducible refine (suGood_any x _ Ax _ _ (tr _ Ax)).mono ?_); rintro e14 w14 ⟨he, hb⟩; rw [gx] at he; subst he; haveI : Bel _ w14 := ⟨hb⟩; clear hb))
    (refine bodyPost_ret (v := .tuple #[.bool false, .bool false]) (by simp [results, Tryz.results26, go_sem]) rfl ?_; unfold RetChk; rw [H.out]; exact ⟨rfl, ext w _⟩)
  cases gy : sGood y
  · have H := Lib.hid (chk_bad (show chG x y q r = false by unfold chG; rw [gx, gy]; rfl))
    go_enter Tryz.func26, Tryz.ntmps26
    go_wp2_with (first | ((with_reducible refine at_dst (N := 4) rfl ?_); refine ev_box (cs := #[.slice Ax x.len cx]) (t := 26) rfl ?hr4 ?_; (case hr4 => first | (go_simp; done) | (go_simp; rfl)); intro g4 v4 _ _ _ _) | ((with_reducible refine at_dst (N := 5) rfl ?_); refine ev_box (cs := #[.slice Ay y.len cy]) (t := 26) rfl ?hr5 ?_; (case hr5 => first | (go_simp; done) | (go_simp; rfl)); intro g5 v5 _ _ _ _) | ((with_reducible refine at_dst (N := 6) rfl ?_); refine ev_box (cs := #[.slice Aq q.len cq]) (t := 26) rfl ?hr6 ?_; (case hr6 => first | (go_simp; done) | (go_simp; rfl)); intro g6 v6 _ _ _ _) | ((with_reducible refine at_dst (N := 7) rfl ?_); refine ev_box (cs := #[.slice Ar r.len cr]) (t := 26) rfl ?hr7 ?_; (case hr7 => first | (go_simp; done) | (go_simp; rfl)); intro g7 v7 _ _ _ _) | ((fail_if_success (have _q := w14)); go_at_call 61; (with_reducible refine (suGood_any x _ Ax _ _ (tr _ Ax)).mono ?_); rintro e14 w14 ⟨he, hb⟩; rw [gx] at he; subst he; haveI : Bel _ w14 := ⟨hb⟩; clear hb) | ((fail_if_success (have _q := w18)); go_at_call 61; (with_reducible refine (suGood_any y _ Ay _ _ (tr _ Ay)).mono ?_); rintro e18 w18 ⟨he, hb⟩; rw [gy] at he; subst he; haveI : Bel _ w18 := ⟨hb⟩; clear hb))
    (refine bodyPost_ret (v := .tuple #[.bool false, .bool false]) (by simp [results, Tryz.results26, go_sem]) rfl ?_; unfold RetChk; rw [H.out]; exact ⟨rfl, ext w _⟩)
  by_cases hy : y.len = 0
  · have H := Lib.hid (chk_bad (show chG x y q r = false by unfold chG; rw [show decide (y.len ≠ 0) = false by simpa using hy]; simp))
    have hy' : ((y.len : Int) == 0) = true := by simpa using hy
    clear hy
    go_enter Tryz.func26, Tryz.ntmps26
    go_wp2_with (first | ((with_reducible refine at_dst (N := 4) rfl ?_); refine ev_box (cs := #[.slice Ax x.len cx]) (t := 26) rfl ?hr4 ?_; (case hr4 => first | (go_simp; done) | (go_simp; rfl)); intro g4 v4 _ _ _ _) | ((with_reducible refine at_dst (N := 5) rfl ?_); refine ev_box (cs := #[.slice Ay y.len cy]) (t := 26) rfl ?hr5 ?_; (case hr5 => first | (go_simp; done) | (go_simp; rfl)); intro g5 v5 _ _ _ _) | ((with_reducible refine at_dst (N := 6) rfl ?_); refine ev_box (cs := #[.slice Aq q.len cq]) (t := 26) rfl ?hr6 ?_; (case hr6 => first | (go_simp; done) | (go_simp; rfl)); intro g6 v6 _ _ _ _) | ((with_reducible refine at_dst (N := 7) rfl ?_); refine ev_box (cs := #[.slice Ar r.len cr]) (t := 26) rfl ?hr7 ?_; (case hr7 => first | (go_simp; done) | (go_simp; rfl)); intro g7 v7 _ _ _ _) | ((fail_if_success (have _q := w14)); go_at_call 61; (with_reducible refine (suGood_any x _ Ax _ _ (tr _ Ax)).mono ?_); rintro e14 w14 ⟨he, hb⟩; rw [gx] at he; subst he; haveI : Bel _ w14 := ⟨hb⟩; clear hb) | ((fail_if_success (have _q := w18)); go_at_call 61; (with_reducible refine (suGood_any y _ Ay _ _ (tr _ Ay)).mono ?_); rintro e18 w18 ⟨he, hb⟩; rw [gy] at he; subst he; haveI : Bel _ w18 := ⟨hb⟩; clear hb) | ((fail_if_success (have _q := w23)); go_at_call 90; (with_reducible refine (suZero_any y Ay cy _).mono ?_); rintro e23 w23 ⟨rfl, hb⟩; haveI : Bel _ w23 := ⟨hb⟩; clear hb))
    (refine bodyPost_ret (v := .tuple #[.bool false, .bool false]) (by simp [results, Tryz.results26, go_sem]) rfl ?_; unfold RetChk; rw [H.out]; exact ⟨rfl, ext w _⟩)
  have hy' : ((y.len : Int) == 0) = false := by simp; omega
  have hyd : decide (y.len ≠ 0) = true := by simpa using hy
  clear hy
  cases gq : sGood q
  · have H := Lib.hid (chk_bad (show chG x y q r = false by unfold chG; rw [gx, gy, gq]; rfl))
    go_enter Tryz.func26, Tryz.ntmps26
    go_wp2_with (first | ((with_reducible refine at_dst (N := 4) rfl ?_); refine ev_box (cs := #[.slice Ax x.len cx]) (t := 26) rfl ?hr4 ?_; (case hr4 => first | (go_simp; done) | (go_simp; rfl)); intro g4 v4 _ _ _ _) | ((with_reducible refine at_dst (N := 5) rfl ?_); refine ev_box (cs := #[.slice Ay y.len cy]) (t := 26) rfl ?hr5 ?_; (case hr5 => first | (go_simp; done) | (go_simp; rfl)); intro g5 v5 _ _ _ _) | ((with_reducible refine at_dst (N := 6) rfl ?_); refine ev_box (cs := #[.slice Aq q.len cq]) (t := 26) rfl ?hr6 ?_; (case hr6 => first | (go_simp; done) | (go_simp; rfl)); intro g6 v6 _ _ _ _) | ((with_reducible refine at_dst (N := 7) rfl ?_); refine ev_box (cs := #[.slice Ar r.len cr]) (t := 26) rfl ?hr7 ?_; (case hr7 => first | (go_simp; done) | (go_simp; rfl)); intro g7 v7 _ _ _ _) | ((fail_if_success (have _q := w14)); go_at_call 61; (with_reducible refine (suGood_any x _ Ax _ _ (tr _ Ax)).mono ?_); rintro e14 w14 ⟨he, hb⟩; rw [gx] at he; subst he; haveI : Bel _ w14 := ⟨hb⟩; clear hb) | ((fail_if_success (have _q := w18)); go_at_call 61; (with_reducible refine (suGood_any y _ Ay _ _ (tr _ Ay)).mono ?_); rintro e18 w18 ⟨he, hb⟩; rw [gy] at he; subst he; haveI : Bel _ w18 := ⟨hb⟩; clear hb) | ((fail_if_success (have _q := w23)); go_at_call 90; (with_reducible refine (suZero_any y Ay cy _).mono ?_); rintro e23 w23 ⟨rfl, hb⟩; haveI : Bel _ w23 := ⟨hb⟩; clear hb) | ((fail_if_success (have _q := w27)); go_at_call 61; (with_reducible refine (suGood_any q _ Aq _ _ (tr _ Aq)).mono ?_); rintro e27 w27 ⟨he, hb⟩; rw [gq] at he; subst he; haveI : Bel _ w27 := ⟨hb⟩; clear hb))
    (refine bodyPost_ret (v := .tuple #[.bool false, .bool false]) (by simp [results, Tryz.results26, go_sem]) rfl ?_; unfold RetChk; rw [H.out]; exact ⟨rfl, ext w _⟩)
  cases gr : sGood r
  · have H := Lib.hid (chk_bad (show chG x y q r = false by unfold chG; rw [gx, gy, gq, gr]; rfl))
    go_enter Tryz.func26, Tryz.ntmps26
    go_wp2_with (first | ((with_reducible refine at_dst (N := 4) rfl ?_); refine ev_box (cs := #[.slice Ax x.len cx]) (t := 26) rfl ?hr4 ?_; (case hr4 => first | (go_simp; done) | (go_simp; rfl)); intro g4 v4 _ _ _ _) | ((with_reducible refine at_dst (N := 5) rfl ?_); refine ev_box (cs := #[.slice Ay y.len cy]) (t := 26) rfl ?hr5 ?_; (case hr5 => first | (go_simp; done) | (go_simp; rfl)); intro g5 v5 _ _ _ _) | ((with_reducible refine at_dst (N := 6) rfl ?_); refine ev_box (cs := #[.slice Aq q.len cq]) (t := 26) rfl ?hr6 ?_; (case hr6 => first | (go_simp; done) | (go_simp; rfl)); intro g6 v6 _ _ _ _) | ((with_reducible refine at_dst (N := 7) rfl ?_); refine ev_box (cs := #[.slice Ar r.len cr]) (t := 26) rfl ?hr7 ?_; (case hr7 => first | (go_simp; done) | (go_simp; rfl)); intro g7 v7 _ _ _ _) | ((fail_if_success (have _q := w14)); go_at_call 61; (with_reducible refine (suGood_any x _ Ax _ _ (tr _ Ax)).mono ?_); rintro e14 w14 ⟨he, hb⟩; rw [gx] at he; subst he; haveI : Bel _ w14 := ⟨hb⟩; clear hb) | ((fail_if_success (have _q := w18)); go_at_call 61; (with_reducible refine (suGood_any y _ Ay _ _ (tr _ Ay)).mono ?_); rintro e18 w18 ⟨he, hb⟩; rw [gy] at he; subst he; haveI : Bel _ w18 := ⟨hb⟩; clear hb) | ((fail_if_success (have _q := w23)); go_at_call 90; (with_reducible refine (suZero_any y Ay cy _).mono ?_); rintro e23 w23 ⟨rfl, hb⟩; haveI : Bel _ w23 := ⟨hb⟩; clear hb) | ((fail_if_success (have _q := w27)); go_at_call 61; (with_reducible refine (suGood_any q _ Aq _ _ (tr _ Aq)).mono ?_); rintro e27 w27 ⟨he, hb⟩; rw [gq] at he; subst he; haveI : Bel _ w27 := ⟨hb⟩; clear hb) | ((fail_if_success (have _q := w32)); go_at_call 61; (with_reducible refine (suGood_any r _ Ar _ _ (tr _ Ar)).mono ?_); rintro e32 w32 ⟨he, hb⟩; rw [gr] at he; subst he; haveI : Bel _ w32 := ⟨hb⟩; clear hb))
    (refine bodyPost_ret (v := .tuple #[.bool false, .bool false]) (by simp [results, Tryz.results26, go_sem]) rfl ?_; unfold RetChk; rw [H.out]; exact ⟨rfl, ext w _⟩)
  have HCG : Hid (chG x y q r = true) := by show _ = _; unfold chG; rw [gx, gy, gq, gr, hyd]; rfl
  have HGX : Hid (x.All FOk) := (sGood_len gx).2.2
  have HBR : Hid (r.All FOk) := (sGood_len gr).2.2
  have HGY := Lib.hid gy
  have HGQ := Lib.hid gq
  have HGR := Lib.hid gr
  have HGL : Hid (sGood (lastS q) = true) := lastS_good gq
  clear hyd
  go_enter Tryz.func26, Tryz.ntmps26
  go_upto_region 4 with (first | ((with_reducible refine at_dst (N := 4) rfl ?_); refine ev_box (cs := #[.slice Ax x.len cx]) (t := 26) rfl ?hr4 ?_; (case hr4 => first | (go_simp; done) | (go_simp; rfl)); intro g4 v4 _ _ _ _) | ((with_reducible refine at_dst (N := 5) rfl ?_); refine ev_box (cs := #[.slice Ay y.len cy]) (t := 26) rfl ?hr5 ?_; (case hr5 => first | (go_simp; done) | (go_simp; rfl)); intro g5 v5 _ _ _ _) | ((with_reducible refine at_dst (N := 6) rfl ?_); refine ev_box (cs := #[.slice Aq q.len cq]) (t := 26) rfl ?hr6 ?_; (case hr6 => first | (go_simp; done) | (go_simp; rfl)); intro g6 v6 _ _ _ _) | ((with_reducible refine at_dst (N := 7) rfl ?_); refine ev_box (cs := #[.slice Ar r.len cr]) (t := 26) rfl ?hr7 ?_; (case hr7 => first | (go_simp; done) | (go_simp; rfl)); intro g7 v7 _ _ _ _) | ((fail_if_success (have _q := w14)); go_at_call 61; (with_reducible refine (suGood_any x _ Ax _ _ (tr _ Ax)).mono ?_); rintro e14 w14 ⟨he, hb⟩; rw [gx] at he; subst he; haveI : Bel _ w14 := ⟨hb⟩; clear hb) | ((fail_if_success (have _q := w18)); go_at_call 61; (with_reducible refine (suGood_any y _ Ay _ _ (tr _ Ay)).mono ?_); rintro e18 w18 ⟨he, hb⟩; rw [gy] at he; subst he; haveI : Bel _ w18 := ⟨hb⟩; clear hb) | ((fail_if_success (have _q := w23)); go_at_call 90; (with_reducible refine (suZero_any y Ay cy _).mono ?_); rintro e23 w23 ⟨rfl, hb⟩; haveI : Bel _ w23 := ⟨hb⟩; clear hb) | ((fail_if_success (have _q := w27)); go_at_call 61; (with_reducible refine (suGood_any q _ Aq _ _ (tr _ Aq)).mono ?_); rintro e27 w27 ⟨he, hb⟩; rw [gq] at he; subst he; haveI : Bel _ w27 := ⟨hb⟩; clear hb) | ((fail_if_success (have _q := w32)); go_at_call 61; (with_reducible refine (suGood_any r _ Ar _ _ (tr _ Ar)).mono ?_); rintro e32 w32 ⟨he, hb⟩; rw [gr] at he; subst he; haveI : Bel _ w32 := ⟨hb⟩; clear hb) | ((with_reducible refine at_dst (N := 36) rfl ?_); refine ev_box (cs := #[.bool false]) (t := 87) rfl ?hr36 ?_; (case hr36 => first | (go_simp; done) | (go_simp; rfl)); intro g36 v36 _ _ _ _))
  refine wp_region_held_drew (S := (fun w' => w'.cell? ⟨g4, 0, none⟩ = some (.slice Ax x.len cx) ∧ w'.cell? ⟨g5, 0, none⟩ = some (.slice Ay y.len cy) ∧ w'.cell? ⟨g6, 0, none⟩ = some (.slice Aq q.len cq) ∧ w'.cell? ⟨g7, 0, none⟩ = some (.slice Ar r.len cr))) (by kernel_rfl) ?hSn2_ (fun hHeld => ?hRn2_)
  case hSn2_ => (exact ⟨has1, has1, has1, has1⟩)
  refine wpAnyH_take (i := 0) (v := ?vn2_1) rfl (by kernel_rfl) (by kernel_rfl) (by kernel_rfl) (fun _ _ _ h => h) (Or.inl ⟨by rfl, ?hyn2_1⟩) (by assumption) ?hRn2_1
  case hyn2_1 => (intro w hSw; (try dsimp only at hSw); go_simp; (try with_reducible rfl))
  try simp only [Act.put, zp1, zp2, zp3, zp4, zp5, zp6]
  refine wpAnyH_take (i := 1) (v := ?vn2_2) rfl (by kernel_rfl) (by kernel_rfl) (by kernel_rfl) (fun _ _ _ h => h) (Or.inl ⟨by rfl, ?hyn2_2⟩) (by assumption) ?hRn2_2
  case hyn2_2 => (intro w hSw; (try dsimp only at hSw); go_simp; (try with_reducible rfl))
  try simp only [Act.put, zp1, zp2, zp3, zp4, zp5, zp6]
  refine wpAnyH_take (i := 2) (v := ?vn2_3) rfl (by kernel_rfl) (by kernel_rfl) (by kernel_rfl) (fun _ _ _ h => h) (Or.inl ⟨by rfl, ?hyn2_3⟩) (by assumption) ?hRn2_3
  case hyn2_3 => (intro w hSw; (try dsimp only at hSw); go_simp; (try with_reducible rfl))
  try simp only [Act.put, zp1, zp2, zp3, zp4, zp5, zp6]
  refine wpAnyH_take (i := 3) (v := ?vn2_4) rfl (by kernel_rfl) (by kernel_rfl) (by kernel_rfl) (fun _ _ _ h => h) (Or.inl ⟨by rfl, ?hyn2_4⟩) (by assumption) ?hRn2_4
  case hyn2_4 => (intro w hSw; (try dsimp only at hSw); go_simp; (try with_reducible rfl))
  try simp only [Act.put, zp1, zp2, zp3, zp4, zp5, zp6]
  refine wpAnyH_take (i := 5) (v := ?vn2_5) rfl (by kernel_rfl) (by kernel_rfl) (by kernel_rfl) (fun _ _ _ h => h) (Or.inl ⟨by rfl, ?hyn2_5⟩) (by assumption) ?hRn2_5
  case hyn2_5 => (intro w hSw; (try dsimp only at hSw); go_simp; (try with_reducible rfl))
  try simp only [Act.put, zp1, zp2, zp3, zp4, zp5, zp6]
  refine wpAnyH_take (i := 7) (v := ?vn2_6) rfl (by kernel_rfl) (by kernel_rfl) (by kernel_rfl) (fun _ _ _ h => h) (Or.inl ⟨by rfl, ?hyn2_6⟩) (by assumption) ?hRn2_6
  case hyn2_6 => (intro w hSw; (try dsimp only at hSw); go_simp; (try with_reducible rfl))
  try simp only [Act.put, zp1, zp2, zp3, zp4, zp5, zp6]
  refine wpAnyH_ready (rs := [4]) (by kernel_rfl) (by simp) ?_
  refine AllReadyH.cons rfl (fun K hK => ?_) AllReadyH.nil
  go_simp
  (((fail_if_success (have _q := A41)); go_at_call 66; (with_reducible refine (kmul_any q y false g36 _ _ Aq Ay _ _ _ (tr _ Aq) (tr _ Ay) HGQ.out HGY.out has1 has_frozen).mono ?_); rintro e41 w41 ⟨A41, c41, he, hf, hb⟩; obtain ⟨zb, HZB⟩ := boolH (prodS q y).isSome; obtain ⟨z, HZ⟩ := surH (keepS false (prodS q y)); rw [HZ.out] at he hf; rw [HZB.out] at hb; subst he; haveI := belM hb; haveI := Fs.of hf; clear hf hb))
  go_wp2_with fail
  refine hK.out _ _ ?hSn2_7 (fun hHeld => ?hRn2_7)
  case hSn2_7 => ((try dsimp only); exact ⟨has1, has1, has1, has1⟩)
  clear hK K
  try simp only [Act.put, zp1, zp2, zp3, zp4, zp5, zp6]
  refine wpAnyH_ready (rs := [6]) (by kernel_rfl) (by simp) ?_
  refine AllReadyH.cons rfl (fun K hK => ?_) AllReadyH.nil
  go_simp
  ((go_at_call 71; (with_reducible refine (kadd_any z r _ g36 _ _ A41 Ar _ _ _ (tr _ A41) (tr _ Ar) (by rw [← HZ.out]; exact keepS_good fun u h => prodS_good h) HGR.out has1 has_frozen).mono ?_); rintro e43 w43 ⟨A43, c43, he, hf, hb⟩; obtain ⟨vb, HVB⟩ := boolH (sumS z r).isSome; obtain ⟨v, HV⟩ := surH (keepS (false || !zb) (sumS z r)); rw [HV.out] at he hf; rw [HVB.out] at hb; subst he; haveI := belM hb; haveI := Fs.of hf; clear hf hb))
  go_wp2_with fail
  refine hK.out _ _ ?hSn2_8 (fun hHeld => ?hRn2_8)
  case hSn2_8 => ((try dsimp only); exact ⟨has1, has1, has1, has1⟩)
  clear hK K
  try simp only [Act.put, zp1, zp2, zp3, zp4, zp5, zp6]
  refine wpAnyH_ready (rs := [8]) (by kernel_rfl) (by simp) ?_
  refine AllReadyH.cons rfl (fun K hK => ?_) AllReadyH.nil
  go_simp
  ((go_at_call 96; (with_reducible refine (suCmp_any _ v x _ _ A43 Ax _ _ _ (Nat.le_refl _) (by rw [← HV.out]; exact (sGood_len (keepS_good fun u h => sumS_good h)).2.2) HGX.out (tr _ A43) (tr _ Ax)).mono ?_); rintro e45 w45 ⟨he, hb⟩; obtain ⟨O, HO⟩ := intH (order v x); rw [HO.out] at he; subst he; haveI : Bel _ w45 := ⟨hb⟩; clear hb))
  go_wp2_with fail
  refine hK.out _ _ ?hSn2_9 (fun hHeld => ?hRn2_9)
  case hSn2_9 => ((try dsimp only); exact ⟨has1, has1, has1, has1⟩)
  clear hK K
  try simp only [Act.put, zp1, zp2, zp3, zp4, zp5, zp6]
  refine wpAnyH_take (i := 9) (v := ?vn2_10) rfl (by kernel_rfl) (by kernel_rfl) (by kernel_rfl) (fun _ _ _ h => h) (Or.inl ⟨by rfl, ?hyn2_10⟩) (by assumption) ?hRn2_10
  case hyn2_10 => (intro w hSw; (try dsimp only at hSw); go_simp; (try with_reducible rfl))
  try simp only [Act.put, zp1, zp2, zp3, zp4, zp5, zp6]
  refine wpAnyH_take (i := 10) (v := ?vn2_11) rfl (by kernel_rfl) (by kernel_rfl) (by kernel_rfl) (fun _ _ _ h => h) (Or.inl ⟨by rfl, ?hyn2_11⟩) (by assumption) ?hRn2_11
  case hyn2_11 => (intro w hSw; (try dsimp only at hSw); go_simp; (try with_reducible rfl))
  try simp only [Act.put, zp1, zp2, zp3, zp4, zp5, zp6]
  refine wpAnyH_done (by kernel_rfl) ?_ _
  have HE := Lib.hid (chk_of HCG.out HGQ.out HGY.out HGR.out HZB.out HZ.out HVB.out HV.out HO.out)
  obtain ⟨rb, HRB⟩ := boolH (O == 0)
  obtain ⟨b1, HB1⟩ := boolH ((false || !zb) || !vb)
  go_upto_region 5 with fail
  go_cut [12] (fun s12 wx => ∃ b : Bool, s12 = .bool (!b) ∧ Hid (b = true ↔ q.len ≠ 0 ∧ r.len ≠ 0) ∧ Bel w45 wx)
  case first => as_aux_lemma =>
    by_cases hr : r.len = 0
    · have HR := Lib.hid hr
      have hr' : ((r.len : Int) == 0) = true := by simpa using hr
      clear hr
      go_wp2_with (first | ((fail_if_success (have _q := w48)); go_at_call 90; (with_reducible refine (suZero_any r Ar cr _).mono ?_); rintro e48 w48 ⟨rfl, hb⟩; haveI : Bel _ w48 := ⟨hb⟩; clear hb) | ((fail_if_success (have _q := w51)); go_at_call 90; (with_reducible refine (suZero_any q Aq cq _).mono ?_); rintro e51 w51 ⟨rfl, hb⟩; haveI : Bel _ w51 := ⟨hb⟩; clear hb))
      go_meet
      exact ⟨false, rfl, ⟨(fun h => by cases h), (fun h => absurd HR.out h.2)⟩, ⟨ext _ _⟩⟩
    · have HR := Lib.hid hr
      have hr' : ((r.len : Int) == 0) = false := by simp; omega
      clear hr
      by_cases hq : q.len = 0
      · have HQ := Lib.hid hq
        have hq' : ((q.len : Int) == 0) = true := by simpa using hq
        clear hq
        go_wp2_with (first | ((fail_if_success (have _q := w48)); go_at_call 90; (with_reducible refine (suZero_any r Ar cr _).mono ?_); rintro e48 w48 ⟨rfl, hb⟩; haveI : Bel _ w48 := ⟨hb⟩; clear hb) | ((fail_if_success (have _q := w51)); go_at_call 90; (with_reducible refine (suZero_any q Aq cq _).mono ?_); rintro e51 w51 ⟨rfl, hb⟩; haveI : Bel _ w51 := ⟨hb⟩; clear hb))
        go_meet
        exact ⟨false, rfl, ⟨(fun h => by cases h), (fun h => absurd HQ.out h.1)⟩, ⟨ext _ _⟩⟩
      · have HQ := Lib.hid hq
        have hq' : ((q.len : Int) == 0) = false := by simp; omega
        clear hq
        go_wp2_with (first | ((fail_if_success (have _q := w48)); go_at_call 90; (with_reducible refine (suZero_any r Ar cr _).mono ?_); rintro e48 w48 ⟨rfl, hb⟩; haveI : Bel _ w48 := ⟨hb⟩; clear hb) | ((fail_if_success (have _q := w51)); go_at_call 90; (with_reducible refine (suZero_any q Aq cq _).mono ?_); rintro e51 w51 ⟨rfl, hb⟩; haveI : Bel _ w51 := ⟨hb⟩; clear hb))
        go_meet
        exact ⟨true, rfl, ⟨(fun _ => ⟨HQ.out, HR.out⟩), (fun _ => rfl)⟩, ⟨ext _ _⟩⟩
  case rest => as_aux_lemma =>
  rename World => wx
  obtain ⟨b, rfl, HB, _⟩ := hcut
  have HRB' := HRB.out
  haveI hbd : Has wx g36 (.cells #[.bool b1] 87 (0, 0)) := by rw [← HB1.out]; infer_instance
  cases b1
  · have HE1 := Lib.hid (And.intro (HE.out.1.trans HB1.out) ((HE.out.2 HB1.out).trans HRB.out))
    cases b
    · have HC : Hid (chk x y q r = (rb, true)) := by
        show _ = _
        unfold chk
        rw [if_pos HCG.out, if_neg (fun h => by have := HB.out.2 h; cases this), HE1.out.1, HE1.out.2]
        simp
      cases rb
      · go_wp2
        refine bodyPost_ret (v := .tuple #[.bool false, .bool true]) (by simp [results, Tryz.results26, go_sem]) rfl ?_
        unfold RetChk
        rw [HC.out]
        exact ⟨rfl, ext w _⟩
      · go_wp2
        refine bodyPost_ret (v := .tuple #[.bool true, .bool true]) (by simp [results, Tryz.results26, go_sem]) rfl ?_
        unfold RetChk
        rw [HC.out]
        exact ⟨rfl, ext w _⟩
    · have HQ0 : Hid (q.len ≠ 0) := (HB.out.1 rfl).1
      have HR0 : Hid (r.len ≠ 0) := (HB.out.1 rfl).2
      go_upto_region 7 with fail
      refine wp_region_held_drew (S := (fun w' => w'.cell? ⟨g5, 0, none⟩ = some (.slice Ay y.len cy) ∧ w'.cell? ⟨g6, 0, none⟩ = some (.slice Aq q.len cq) ∧ w'.cell? ⟨g7, 0, none⟩ = some (.slice Ar r.len cr))) (by kernel_rfl) ?hSn3_ (fun hHeld => ?hRn3_)
      case hSn3_ => (exact ⟨has1, has1, has1⟩)
      refine wpAnyH_take (i := 0) (v := ?vn3_1) rfl (by kernel_rfl) (by kernel_rfl) (by kernel_rfl) (fun _ _ _ h => h) (Or.inl ⟨by rfl, ?hyn3_1⟩) (by assumption) ?hRn3_1
      case hyn3_1 => (intro w hSw; (try dsimp only at hSw); go_simp; (try with_reducible rfl))
      try simp only [Act.put, zp1, zp2, zp3, zp4, zp5, zp6]
      refine wpAnyH_take (i := 1) (v := ?vn3_2) rfl (by kernel_rfl) (by kernel_rfl) (by kernel_rfl) (fun _ _ _ h => h) (Or.inl ⟨by rfl, ?hyn3_2⟩) (by assumption) ?hRn3_2
      case hyn3_2 => (intro w hSw; (try dsimp only at hSw); go_simp; (try with_reducible rfl))
      try simp only [Act.put, zp1, zp2, zp3, zp4, zp5, zp6]
      refine wpAnyH_take (i := 2) (v := ?vn3_3) rfl (by kernel_rfl) (by kernel_rfl) (by kernel_rfl) (fun _ _ _ h => h) (Or.inl ⟨by rfl, ?hyn3_3⟩) (by assumption) ?hRn3_3
      case hyn3_3 => (intro w hSw; (try dsimp only at hSw); go_simp; (try with_reducible rfl))
      try simp only [Act.put, zp1, zp2, zp3, zp4, zp5, zp6]
      refine wpAnyH_take (i := 4) (v := ?vn3_4) rfl (by kernel_rfl) (by kernel_rfl) (by kernel_rfl) (fun _ _ _ h => h) (Or.inl ⟨by rfl, ?hyn3_4⟩) (by assumption) ?hRn3_4
      case hyn3_4 => (intro w hSw; (try dsimp only at hSw); go_simp; (try with_reducible rfl))
      try simp only [Act.put, zp1, zp2, zp3, zp4, zp5, zp6]
      refine wpAnyH_ready (rs := [3]) (by kernel_rfl) (by simp) ?_
      refine AllReadyH.cons rfl (fun K hK => ?_) AllReadyH.nil
      go_simp
      ((go_at_call 98; (with_reducible refine (seLast_any q _ Aq cq _ (tr _ Aq) HQ0.out).mono ?_); rintro e65 w65 ⟨A65, c65, rfl, hs, hb⟩; haveI : Bel _ w65 := ⟨hb⟩; haveI := Tr.arg hs; clear hs hb))
      go_wp2_with fail
      refine hK.out _ _ ?hSn3_5 (fun hHeld => ?hRn3_5)
      case hSn3_5 => ((try dsimp only); exact ⟨has1, has1, has1⟩)
      clear hK K
      try simp only [Act.put, zp1, zp2, zp3, zp4, zp5, zp6]
      refine wpAnyH_ready (rs := [5]) (by kernel_rfl) (by simp) ?_
      refine AllReadyH.cons rfl (fun K hK => ?_) AllReadyH.nil
      go_simp
      (((fail_if_success (have _q := A67)); go_at_call 66; (with_reducible refine (kmul_any (lastS q) y false g36 _ _ A65 Ay _ _ _ (tr _ A65) (tr _ Ay) HGL.out HGY.out has1 has_frozen).mono ?_); rintro e67 w67 ⟨A67, c67, he, hf, hb⟩; obtain ⟨lb, HLB⟩ := boolH (prodS (lastS q) y).isSome; obtain ⟨L, HL⟩ := surH (keepS false (prodS (lastS q) y)); rw [HL.out] at he hf; rw [HLB.out] at hb; subst he; haveI := belM hb; haveI := Fs.of hf; clear hf hb))
      go_wp2_with fail
      refine hK.out _ _ ?hSn3_6 (fun hHeld => ?hRn3_6)
      case hSn3_6 => ((try dsimp only); exact ⟨has1, has1, has1⟩)
      clear hK K
      try simp only [Act.put, zp1, zp2, zp3, zp4, zp5, zp6]
      refine wpAnyH_ready (rs := [6]) (by kernel_rfl) (by simp) ?_
      refine AllReadyH.cons rfl (fun K hK => ?_) AllReadyH.nil
      go_simp
      ((go_at_call 97; (with_reducible refine (suSmall_any r L _ _ Ar A67 _ _ _ (tr _ Ar) (tr _ A67) HBR.out (by rw [← HL.out]; exact (sGood_len (keepS_good fun u h => prodS_good h)).2.2)).mono ?_); rintro e68 w68 ⟨he, hb⟩; obtain ⟨nb, HN⟩ := boolH (neglB r L); rw [HN.out] at he; subst he; haveI : Bel _ w68 := ⟨hb⟩; clear hb))
      go_wp2_with fail
      refine hK.out _ _ ?hSn3_7 (fun hHeld => ?hRn3_7)
      case hSn3_7 => ((try dsimp only); exact ⟨has1, has1, has1⟩)
      clear hK K
      try simp only [Act.put, zp1, zp2, zp3, zp4, zp5, zp6]
      refine wpAnyH_take (i := 7) (v := ?vn3_8) rfl (by kernel_rfl) (by kernel_rfl) (by kernel_rfl) (fun _ _ _ h => h) (Or.inl ⟨by rfl, ?hyn3_8⟩) (by assumption) ?hRn3_8
      case hyn3_8 => (intro w hSw; (try dsimp only at hSw); go_simp; (try with_reducible rfl))
      try simp only [Act.put, zp1, zp2, zp3, zp4, zp5, zp6]
      refine wpAnyH_done (by kernel_rfl) ?_ _
      have hpm : prodS (lastS q) y = mulS (lastS q) y := prodS_mulS HGL.out HGY.out
      have HL1 := HL.out
      have HLB1 := HLB.out
      rw [hpm] at HL1 HLB1
      cases lb
      · have HC : Hid (chk x y q r = (false, false)) := by
          show _ = _
          unfold chk chB2
          rw [if_pos HCG.out, if_pos ⟨HQ0.out, HR0.out⟩, HLB1]
          simp
        clear HL1 HLB1 hpm
        go_wp2
        refine bodyPost_ret (v := .tuple #[.bool false, .bool false]) (by simp [results, Tryz.results26, go_sem]) rfl ?_
        unfold RetChk
        rw [HC.out]
        exact ⟨rfl, ext w _⟩
      · have HC : Hid (chk x y q r = (nb && rb, true)) := by
          show _ = _
          have e : (mulS (lastS q) y).getD .nil = L := by
            rw [← HL1]
            unfold keepS
            rw [HLB1]; rfl
          unfold chk chB2 chN
          rw [if_pos HCG.out, if_pos ⟨HQ0.out, HR0.out⟩, HLB1, HE1.out.1, HE1.out.2, e, HN.out]
          simp
        clear HL1 HLB1 hpm
        cases rb
        · go_wp2
          refine bodyPost_ret (v := .tuple #[.bool false, .bool true]) (by simp [results, Tryz.results26, go_sem]) rfl ?_
          unfold RetChk
          rw [HC.out]
          exact ⟨by simp, ext w _⟩
        · go_wp2
          refine bodyPost_ret (v := .tuple #[.bool nb, .bool true]) (by simp [results, Tryz.results26, go_sem]) rfl ?_
          unfold RetChk
          rw [HC.out]
          exact ⟨by simp, ext w _⟩
  · have HC : Hid (chk x y q r = (false, false)) := by
      show _ = _
      have e := HE.out.1.trans HB1.out
      unfold chk chB2
      rw [if_pos HCG.out, e]
      split <;> simp
    cases b
    all_goals
      go_wp2
      refine bodyPost_ret (v := .tuple #[.bool false, .bool false]) (by simp [results, Tryz.results26, go_sem]) rfl ?_
      unfold RetChk
      rw [HC.out]
      exact ⟨rfl, ext w _⟩
end Go.Proofs.YtphabopnbcgodaaGreat
