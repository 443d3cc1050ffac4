/-
  Walks: CheckQuotient, the reference's; ExactQuotient of both.
-/
import Derived.Test.YtonlfnbjbmgegaaGreatWK
namespace Go.Proofs.YtonlfnbjbmgegaaGreat
open Go.RowKit
open List renaming getElem_toArray → zp1, getElem_cons_zero → zp2, getElem_cons_succ → zp3, setIfInBounds_toArray → zp4, set_cons_zero → zp5, set_cons_succ → zp6
set_option linter.unusedSimpArgs false
set_option linter.unusedVariables false

attribute [local go_sem high] has_cell has_frozen
theorem neglB_cons {x y : Sur} (hx : x.len ≠ 0) (hy : y.len ≠ 0) : neglB x y = decide (order (fE x) (fE y) < 0) := by
  cases x with
  | nil => exact absurd rfl hx
  | cons e n d r =>
    cases y with
    | nil => exact absurd rfl hy
    | cons e' n' d' r' => rfl
theorem neglB_nilL {x y : Sur} (hx : x.len = 0) (hy : y.len ≠ 0) : neglB x y = true := by
  cases x with
  | cons e n d r => simp [Sur.len] at hx
  | nil =>
    cases y with
    | nil => exact absurd rfl hy
    | cons e' n' d' r' => rfl
theorem fE_all {x : Sur} {p : Int → Int → Prop} (h : x.All p) : (fE x).All p := by
  cases x with
  | nil => exact trivial
  | cons e n d r => exact h.1
set_option synthInstance.maxHeartbeats 2000000 in
set_option maxHeartbeats 3200000 in
set_option maxRecDepth 100000 in
theorem suSmall_any (x y : Sur) (X Y : Nat → Prop) (A A' : Option Addr) (c c' : Nat) (w : World) (sx : SSl X w x A c) (sy : SSl Y w y A' c') (hx : x.All FOk) (hy : y.All FOk) :
    Calls Tryz.prog 60 #[.agg #[.slice A x.len c], .agg #[.slice A' y.len c']] w fun e w' => e = .returned (.bool (neglB x y)) ∧ Below w.heap.size w w' := by
  have lx := sx.cap
  have lx' := sx.le
  have ly := sy.cap
  have ly' := sy.le
  unfold maxLen at lx ly
  by_cases h2 : y.len = 0
  · have E := Lib.hid (show neglB x y = false by cases y with | nil => exact neglB_nil x | cons _ _ _ _ => simp [Sur.len] at h2)
    have h2' : ((y.len : Int) == 0) = true := by simpa using h2
    by_cases h1 : x.len = 0
    · have h1' : ((x.len : Int) == 0) = true := by simpa using h1
      clear h1 h2 sx sy
      go_enter Tryz.func60, Tryz.ntmps60
      go_wp2_with (first | ((with_reducible refine at_dst (N := 2) rfl ?_); refine ev_box (cs := #[.slice A x.len c]) (t := 26) rfl ?hr2 ?_; (case hr2 => first | (go_simp; done) | (go_simp; rfl)); intro g2 v2 _ _ _ _) | ((with_reducible refine at_dst (N := 3) rfl ?_); refine ev_box (cs := #[.slice A' y.len c']) (t := 26) rfl ?hr3 ?_; (case hr3 => first | (go_simp; done) | (go_simp; rfl)); intro g3 v3 _ _ _ _) | ((fail_if_success (have _q := w6)); go_at_call 59; (with_reducible refine (suZero_any x A c _).mono ?_); rintro e6 w6 ⟨rfl, hb⟩; haveI : Bel _ w6 := ⟨hb⟩; clear hb) | ((fail_if_success (have _q := w9)); go_at_call 59; (with_reducible refine (suZero_any y A' c' _).mono ?_); rintro e9 w9 ⟨rfl, hb⟩; haveI : Bel _ w9 := ⟨hb⟩; clear hb) | ((fail_if_success (have _q := w12)); go_at_call 59; (with_reducible refine (suZero_any y A' c' _).mono ?_); rintro e12 w12 ⟨rfl, hb⟩; haveI : Bel _ w12 := ⟨hb⟩; clear hb))
      refine bodyPost_ret (v := .bool false) (by simp [results, Tryz.results60, go_sem]) rfl ?_
      exact ⟨by rw [E.out], ext w _⟩
    · have h1' : ((x.len : Int) == 0) = false := by simp; omega
      clear h1 h2 sx sy
      go_enter Tryz.func60, Tryz.ntmps60
      go_wp2_with (first | ((with_reducible refine at_dst (N := 2) rfl ?_); refine ev_box (cs := #[.slice A x.len c]) (t := 26) rfl ?hr2 ?_; (case hr2 => first | (go_simp; done) | (go_simp; rfl)); intro g2 v2 _ _ _ _) | ((with_reducible refine at_dst (N := 3) rfl ?_); refine ev_box (cs := #[.slice A' y.len c']) (t := 26) rfl ?hr3 ?_; (case hr3 => first | (go_simp; done) | (go_simp; rfl)); intro g3 v3 _ _ _ _) | ((fail_if_success (have _q := w6)); go_at_call 59; (with_reducible refine (suZero_any x A c _).mono ?_); rintro e6 w6 ⟨rfl, hb⟩; haveI : Bel _ w6 := ⟨hb⟩; clear hb) | ((fail_if_success (have _q := w9)); go_at_call 59; (with_reducible refine (suZero_any y A' c' _).mono ?_); rintro e9 w9 ⟨rfl, hb⟩; haveI : Bel _ w9 := ⟨hb⟩; clear hb) | ((fail_if_success (have _q := w12)); go_at_call 59; (with_reducible refine (suZero_any y A' c' _).mono ?_); rintro e12 w12 ⟨rfl, hb⟩; haveI : Bel _ w12 := ⟨hb⟩; clear hb))
      refine bodyPost_ret (v := .bool false) (by simp [results, Tryz.results60, go_sem]) rfl ?_
      exact ⟨by rw [E.out], ext w _⟩
  · have h2' : ((y.len : Int) == 0) = false := by simp; omega
    by_cases h1 : x.len = 0
    · have E := Lib.hid (neglB_nilL h1 h2)
      have h1' : ((x.len : Int) == 0) = true := by simpa using h1
      clear h1 h2 sx sy
      go_enter Tryz.func60, Tryz.ntmps60
      go_wp2_with (first | ((with_reducible refine at_dst (N := 2) rfl ?_); refine ev_box (cs := #[.slice A x.len c]) (t := 26) rfl ?hr2 ?_; (case hr2 => first | (go_simp; done) | (go_simp; rfl)); intro g2 v2 _ _ _ _) | ((with_reducible refine at_dst (N := 3) rfl ?_); refine ev_box (cs := #[.slice A' y.len c']) (t := 26) rfl ?hr3 ?_; (case hr3 => first | (go_simp; done) | (go_simp; rfl)); intro g3 v3 _ _ _ _) | ((fail_if_success (have _q := w6)); go_at_call 59; (with_reducible refine (suZero_any x A c _).mono ?_); rintro e6 w6 ⟨rfl, hb⟩; haveI : Bel _ w6 := ⟨hb⟩; clear hb) | ((fail_if_success (have _q := w9)); go_at_call 59; (with_reducible refine (suZero_any y A' c' _).mono ?_); rintro e9 w9 ⟨rfl, hb⟩; haveI : Bel _ w9 := ⟨hb⟩; clear hb) | ((fail_if_success (have _q := w12)); go_at_call 59; (with_reducible refine (suZero_any y A' c' _).mono ?_); rintro e12 w12 ⟨rfl, hb⟩; haveI : Bel _ w12 := ⟨hb⟩; clear hb))
      refine bodyPost_ret (v := .bool true) (by simp [results, Tryz.results60, go_sem]) rfl ?_
      exact ⟨by rw [E.out], ext w _⟩
    · have E := Lib.hid (neglB_cons h1 h2)
      have h1' : ((x.len : Int) == 0) = false := by simp; omega
      obtain ⟨b, o, A1, d1, rfl, q0, _, _, se, _, hbl⟩ := sx.at0 h1
      obtain ⟨b', o', A2, d2, rfl, q0', _, _, se', _, hbl'⟩ := sy.at0 h2
      haveI := Tr.arg se
      haveI := Tr.arg se'
      have hl1 : 0 < x.len := by omega
      have hl2 : 0 < y.len := by omega
      clear h1 h2 sx sy se se'
      have HB : Hid ((fE x).All FOk ∧ (fE y).All FOk) := ⟨fE_all hx, fE_all hy⟩
      have Q0 : ∀ W, Ext w W → W.cell? ⟨b, o, none⟩ = some (.slice A1 (fE x).len d1) := fun W h => ((h.h).cell hbl).trans q0
      have Q1 : ∀ W, Ext w W → W.cell? ⟨b', o', none⟩ = some (.slice A2 (fE y).len d2) := fun W h => ((h.h).cell hbl').trans q0'
      go_enter Tryz.func60, Tryz.ntmps60
      go_upto_region 3 with (first | ((with_reducible refine at_dst (N := 2) rfl ?_); refine ev_box (cs := #[.slice (some ⟨b, o, none⟩) x.len c]) (t := 26) rfl ?hr2 ?_; (case hr2 => first | (go_simp; done) | (go_simp; rfl)); intro g2 v2 _ _ _ _) | ((with_reducible refine at_dst (N := 3) rfl ?_); refine ev_box (cs := #[.slice (some ⟨b', o', none⟩) y.len c']) (t := 26) rfl ?hr3 ?_; (case hr3 => first | (go_simp; done) | (go_simp; rfl)); intro g3 v3 _ _ _ _) | ((fail_if_success (have _q := w6)); go_at_call 59; (with_reducible refine (suZero_any x (some ⟨b, o, none⟩) c _).mono ?_); rintro e6 w6 ⟨rfl, hb⟩; haveI : Bel _ w6 := ⟨hb⟩; clear hb) | ((fail_if_success (have _q := w9)); go_at_call 59; (with_reducible refine (suZero_any y (some ⟨b', o', none⟩) c' _).mono ?_); rintro e9 w9 ⟨rfl, hb⟩; haveI : Bel _ w9 := ⟨hb⟩; clear hb))
      refine wp_region_held_drew (S := (fun w' => w'.cell? ⟨g2, 0, none⟩ = some (.slice (some ⟨b, o, none⟩) x.len c) ∧ w'.cell? ⟨g3, 0, none⟩ = some (.slice (some ⟨b', o', none⟩) y.len c') ∧ w'.cell? ⟨b, o, none⟩ = some (.slice A1 (fE x).len d1) ∧ w'.cell? ⟨b', o', none⟩ = some (.slice A2 (fE y).len d2))) (by kernel_rfl) ?hSn1_ (fun hHeld => ?hRn1_)
      case hSn1_ => (exact ⟨has1, has1, Q0 _ inferInstance, Q1 _ inferInstance⟩)
      refine wpAnyH_take (i := 0) (v := ?vn1_1) rfl (by kernel_rfl) (by kernel_rfl) (by kernel_rfl) (fun _ _ _ h => h) (Or.inl ⟨by rfl, ?hyn1_1⟩) (by assumption) ?hRn1_1
      case hyn1_1 => (intro w hSw; (try dsimp only at hSw); go_simp; (try with_reducible rfl))
      try simp only [Act.put, zp1, zp2, zp3, zp4, zp5, zp6]
      refine wpAnyH_take (i := 1) (v := ?vn1_2) rfl (by kernel_rfl) (by kernel_rfl) (by kernel_rfl) (fun _ _ _ h => h) (Or.inl ⟨by rfl, ?hyn1_2⟩) (by assumption) ?hRn1_2
      case hyn1_2 => (intro w hSw; (try dsimp only at hSw); go_simp; (try with_reducible rfl))
      try simp only [Act.put, zp1, zp2, zp3, zp4, zp5, zp6]
      refine wpAnyH_take (i := 2) (v := ?vn1_3) rfl (by kernel_rfl) (by kernel_rfl) (by kernel_rfl) (fun _ _ _ h => h) (Or.inl ⟨by rfl, ?hyn1_3⟩) (by assumption) ?hRn1_3
      case hyn1_3 => (intro w hSw; (try dsimp only at hSw); go_simp; (try with_reducible rfl))
      try simp only [Act.put, zp1, zp2, zp3, zp4, zp5, zp6]
      refine wpAnyH_take (i := 3) (v := ?vn1_4) rfl (by kernel_rfl) (by kernel_rfl) (by kernel_rfl) (fun _ _ _ h => h) (Or.inl ⟨by rfl, ?hyn1_4⟩) (by assumption) ?hRn1_4
      case hyn1_4 => (intro w hSw; (try dsimp only at hSw); go_simp; (try with_reducible rfl))
      try simp only [Act.put, zp1, zp2, zp3, zp4, zp5, zp6]
      refine wpAnyH_take (i := 4) (v := ?vn1_5) rfl (by kernel_rfl) (by kernel_rfl) (by kernel_rfl) (fun _ _ _ h => h) (Or.inl ⟨by rfl, ?hyn1_5⟩) (by assumption) ?hRn1_5
      case hyn1_5 => (intro w hSw; (try dsimp only at hSw); go_simp; (try with_reducible rfl))
      try simp only [Act.put, zp1, zp2, zp3, zp4, zp5, zp6]
      refine wpAnyH_take (i := 5) (v := ?vn1_6) rfl (by kernel_rfl) (by kernel_rfl) (by kernel_rfl) (fun _ _ _ h => h) (Or.inl ⟨by rfl, ?hyn1_6⟩) (by assumption) ?hRn1_6
      case hyn1_6 => (intro w hSw; (try dsimp only at hSw); go_simp; (try with_reducible rfl))
      try simp only [Act.put, zp1, zp2, zp3, zp4, zp5, zp6]
      refine wpAnyH_take (i := 6) (v := ?vn1_7) rfl (by kernel_rfl) (by kernel_rfl) (by kernel_rfl) (fun _ _ _ h => h) (Or.inl ⟨by rfl, ?hyn1_7⟩) (by assumption) ?hRn1_7
      case hyn1_7 => (intro w hSw; (try dsimp only at hSw); go_simp; (try with_reducible rfl))
      try simp only [Act.put, zp1, zp2, zp3, zp4, zp5, zp6]
      refine wpAnyH_take (i := 7) (v := ?vn1_8) rfl (by kernel_rfl) (by kernel_rfl) (by kernel_rfl) (fun _ _ _ h => h) (Or.inl ⟨by rfl, ?hyn1_8⟩) (by assumption) ?hRn1_8
      case hyn1_8 => (intro w hSw; (try dsimp only at hSw); go_simp; (try with_reducible rfl))
      try simp only [Act.put, zp1, zp2, zp3, zp4, zp5, zp6]
      refine wpAnyH_take (i := 8) (v := ?vn1_9) rfl (by kernel_rfl) (by kernel_rfl) (by kernel_rfl) (fun _ _ _ h => h) (Or.inl ⟨by rfl, ?hyn1_9⟩) (by assumption) ?hRn1_9
      case hyn1_9 => (intro w hSw; (try dsimp only at hSw); go_simp; (try with_reducible rfl))
      try simp only [Act.put, zp1, zp2, zp3, zp4, zp5, zp6]
      refine wpAnyH_take (i := 9) (v := ?vn1_10) rfl (by kernel_rfl) (by kernel_rfl) (by kernel_rfl) (fun _ _ _ h => h) (Or.inl ⟨by rfl, ?hyn1_10⟩) (by assumption) ?hRn1_10
      case hyn1_10 => (intro w hSw; (try dsimp only at hSw); go_simp; (try with_reducible rfl))
      try simp only [Act.put, zp1, zp2, zp3, zp4, zp5, zp6]
      refine wpAnyH_ready (rs := [10]) (by kernel_rfl) (by simp) ?_
      refine AllReadyH.cons rfl (fun K hK => ?_) AllReadyH.nil
      go_simp
      ((go_at_call 57; refine (suCmp_any _ (fE x) (fE y) _ _ A1 A2 d1 d2 _ (Nat.le_refl _) HB.out.1 HB.out.2 (tr _ A1) (tr _ A2)).mono ?_; rintro e24 w24 ⟨rfl, hb⟩; haveI : Bel _ w24 := ⟨hb⟩; clear hb))
      go_wp2_with fail
      refine hK.out _ _ ?hSn1_11 (fun hHeld => ?hRn1_11)
      case hSn1_11 => ((try dsimp only); exact ⟨has1, has1, Q0 _ inferInstance, Q1 _ inferInstance⟩)
      clear hK K
      try simp only [Act.put, zp1, zp2, zp3, zp4, zp5, zp6]
      refine wpAnyH_take (i := 11) (v := ?vn1_12) rfl (by kernel_rfl) (by kernel_rfl) (by kernel_rfl) (fun _ _ _ h => h) (Or.inl ⟨by rfl, ?hyn1_12⟩) (by assumption) ?hRn1_12
      case hyn1_12 => (intro w hSw; (try dsimp only at hSw); go_simp; (try with_reducible rfl))
      try simp only [Act.put, zp1, zp2, zp3, zp4, zp5, zp6]
      refine wpAnyH_take (i := 12) (v := ?vn1_13) rfl (by kernel_rfl) (by kernel_rfl) (by kernel_rfl) (fun _ _ _ h => h) (Or.inl ⟨by rfl, ?hyn1_13⟩) (by assumption) ?hRn1_13
      case hyn1_13 => (intro w hSw; (try dsimp only at hSw); go_simp; (try with_reducible rfl))
      try simp only [Act.put, zp1, zp2, zp3, zp4, zp5, zp6]
      refine wpAnyH_done (by kernel_rfl) ?_ _
      go_wp2
      refine bodyPost_ret (v := .bool (decide (order (fE x) (fE y) < 0))) (by simp [results, Tryz.results60, go_sem]) rfl ?_
      exact ⟨by rw [E.out], ext w _⟩

theorem surH (x : Sur) : ∃ z, Hid (x = z) := ⟨x, rfl⟩
theorem lastS_good {x : Sur} (h : sGood x = true) : sGood (lastS x) = true := by
  by_cases hx : x.len = 0
  · cases x with
    | nil => exact sGood_nil
    | cons _ _ _ _ => simp [Sur.len] at hx
  · have e := Sur.take_app_drop x (x.len - 1)
    rw [drop_last hx] at e
    rw [← e] at h
    exact sGood_suf h
/-- what the reference's checker gives, in its own words -/
theorem chk_of {x y q r z v : Sur} {zb vb : Bool} {O : Int} (hG : chG x y q r = true) (gq : sGood q = true) (gy : sGood y = true) (gr : sGood r = true)
    (HZB : (prodS q y).isSome = zb) (HZ : keepS false (prodS q y) = z) (HVB : (sumS z r).isSome = vb) (HV : keepS (false || !zb) (sumS z r) = v) (HO : order v x = O) :
    chB1 y q r = ((false || !zb) || !vb) ∧ (((false || !zb) || !vb) = false → chR x y q r = (O == 0)) := by
  have e1 : prodS q y = mulS q y := prodS_mulS gq gy
  rw [e1] at HZB HZ
  unfold chB1 chR
  cases hm : mulS q y with
  | none =>
    rw [hm] at HZB HZ
    subst HZB
    simp
  | some m =>
    rw [hm] at HZB HZ
    have hz : m = z := HZ
    subst hz
    have gm := (mulS_some hm).2.2.2
    have e2 : sumS m r = addS m r := sumS_addS gm gr
    rw [e2] at HVB HV
    subst HZB
    simp only [Option.isSome_some, Bool.not_true, Bool.or_false, Option.getD_some] at HV ⊢
    refine ⟨by rw [HVB], fun h => ?_⟩
    have hs : (addS m r).isSome = true := by
      rw [HVB]
      cases vb
      · simp at h
      · rfl
    obtain ⟨a, ha⟩ := Option.isSome_iff_exists.1 hs
    have hv : a = v := by rw [ha] at HV; exact HV
    have e3 : order ((addS m r).getD .nil) x = O := by rw [ha, ← HO, ← hv]; rfl
    show decide (order ((addS m r).getD .nil) x = 0) = decide (O = 0)
    simp only [e3]
end Go.Proofs.YtonlfnbjbmgegaaGreat
