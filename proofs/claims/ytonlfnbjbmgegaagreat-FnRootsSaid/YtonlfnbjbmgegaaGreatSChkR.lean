/-
  Walks: CheckRoot and PowerOfSurreal, the reference's.
-/
import Derived.Test.YtonlfnbjbmgegaaGreatSChk
import Derived.Test.YtonlfnbjbmgegaaGreatSRt2
import Derived.Test.YtonlfnbjbmgegaaGreatWChkR
namespace Go.Proofs.YtonlfnbjbmgegaaGreat
open Go.RowKit
open List renaming getElem_toArray → zp1, getElem_cons_zero → zp2, getElem_cons_succ → zp3, setIfInBounds_toArray → zp4, set_cons_zero → zp5, set_cons_succ → zp6
set_option linter.unusedSimpArgs false
set_option linter.unusedVariables false

theorem rchk_of {x s r z v : Sur} {k : Nat} {zb vb : Bool} {O : Int} (gs : sGood s = true) (gr : sGood r = true) (hk : k ≤ 12) (hP : kpow s k false = (zb, z)) (HVB : (sumS z r).isSome = vb) (HV : keepS zb (sumS z r) = v) (HO : order v x = O) :
    rkB1 k s r = (zb || !vb) ∧ ((zb || !vb) = false → rkR x k s r = (O == 0)) := by
  obtain ⟨h1, h2⟩ := kpow_mpow gs hk false
  rw [hP] at h1 h2
  simp only at h1 h2
  unfold rkB1 rkR
  rw [← h1]
  cases zb
  · have hz := h2 rfl
    have gz : sGood z = true := by have := kpow_good s k false oneS (by decide); unfold kpow at hP; rw [hP] at this; exact this
    rw [← hz]
    rw [sumS_addS gz gr] at HVB HV
    subst HVB
    refine ⟨rfl, fun h => ?_⟩
    obtain ⟨a, ha⟩ : ∃ a, addS z r = some a := by
      cases ha : addS z r with
      | none => rw [ha] at h; simp at h
      | some a => exact ⟨a, rfl⟩
    have hv : a = v := by rw [ha] at HV; exact HV
    rw [ha, Option.getD_some, hv, HO]; rfl
  · exact ⟨rfl, fun h => by cases h⟩
theorem rchk_of2 {s r q L : Sur} {k : Nat} {qb lb nb : Bool} (gs : sGood s = true) (h1k : 1 ≤ k) (hk : k ≤ 12) (hB : rkB1 k s r = false) (hQ : kpow (hd1 s) (k - 1) false = (qb, q)) (HLB : (prodS (lastS s) q).isSome = lb) (HL : keepS qb (prodS (lastS s) q) = L) (HN : neglB r L = nb) :
    rkB2 k s r = (qb || !lb) ∧ ((qb || !lb) = false → rkN k s r = nb) := by
  obtain ⟨h1, h2⟩ := kpow_mpow (hd1_good gs) (show k - 1 ≤ 12 by omega) false
  rw [hQ] at h1 h2
  simp only at h1 h2
  have e : rkQ k s r = mpow (hd1 s) ((k - 1 : Nat) : Int) false := by unfold rkQ; rw [hB, show ((k : Nat) : Int) - 1 = ((k - 1 : Nat) : Int) by omega]
  unfold rkB2 rkN rkL
  rw [e, ← h1]
  cases qb
  · have hz := h2 rfl
    have gq : sGood q = true := by have := kpow_good (hd1 s) (k - 1) false oneS (by decide); unfold kpow at hQ; rw [hQ] at this; exact this
    rw [← hz]
    rw [prodS_mulS (lastS_good gs) gq] at HLB HL
    subst HLB
    refine ⟨rfl, fun h => ?_⟩
    obtain ⟨a, ha⟩ : ∃ a, mulS (lastS s) q = some a := by
      cases ha : mulS (lastS s) q with
      | none => rw [ha] at h; simp at h
      | some a => exact ⟨a, rfl⟩
    have hv : a = L := by rw [ha] at HL; exact HL
    rw [ha, Option.getD_some, hv, HN]
  · exact ⟨rfl, fun h => by cases h⟩
theorem kpower1_any (s : Sur) (k : Nat) (bad : Bool) (mb : Nat) (X : Nat → Prop) (A : Option Addr) (c : Nat) (w : World) [hmb : Has w mb (.cells #[.bool bad] 76 (0, 0))] [hX : XOk X mb] (sx : SSl X w s A c) (hs0 : s.len ≠ 0) (gs : sGood (hd1 s) = true) (h1 : k ≤ 12) :
    Calls Tryz.prog 54 #[.pointer (some ⟨mb, 0, none⟩), .agg #[.slice A 1 c], .int .i64 k] w fun e w' => ∃ A' c', e = .returned (.agg #[.slice A' (kpow (hd1 s) k bad).2.len c']) ∧ SSl (XL w) w' (kpow (hd1 s) k bad).2 A' c' ∧ Below w.heap.size (w.setCell ⟨mb, 0, none⟩ (.bool (kpow (hd1 s) k bad).1)) w' := by
  have h := kpower_any (hd1 s) k bad mb X A c w (ssl_hd1 sx hs0) gs h1
  rw [hd1_len hs0] at h
  exact h
attribute [local go_sem high] has_cell has_frozen
set_option synthInstance.maxHeartbeats 2000000 in
set_option synthInstance.maxSize 4000 in
set_option maxHeartbeats 6400000 in
set_option maxRecDepth 100000 in
theorem sCheckRoot_any (x : Sur) (kk : Int) (s r : Sur) (X Q R : Nat → Prop) (Ax As Ar : Option Addr) (cx cs cr : Nat) (w : World) (sx : SSl X w x Ax cx) (ss : SSl Q w s As cs) (sr : SSl R w r Ar cr) :
    Calls Tryz.prog 17 #[.agg #[.slice Ax x.len cx], .int .i64 kk, .agg #[.slice As s.len cs], .agg #[.slice Ar r.len cr]] w (RetChk w (rchk x kk s r)) := by
  haveI := Tr.arg (sx.more (Y := XN) (fun _ h => h.elim))
  haveI := Tr.arg (ss.more (Y := XN) (fun _ h => h.elim))
  haveI := Tr.arg (sr.more (Y := XN) (fun _ h => h.elim))
  have lcs := ss.cap
  have lcs' := ss.le
  unfold maxLen at lcs
  have HAT := Lib.hid (fun h => ss.at_ (k := 0) h)
  clear sx ss sr
  cases gx : sGood x
  · have H := Lib.hid (rchk_bad (show rkG x kk s r = false by unfold rkG; rw [gx]; rfl))
    go_enter Tryz.func17, Tryz.ntmps17
    go_wp2_with (first | ((with_reducible refine at_dst (N := 4) rfl ?_); refine ev_box (cs := #[.slice Ax x.len cx]) (t := 26) rfl ?hr4 ?_; (case hr4 => first | (go_simp; done) | (go_simp; rfl)); intro g4 v4 _ _ _ _) | ((with_reducible refine at_dst (N := 6) rfl ?_); refine ev_box (cs := #[.slice As s.len cs]) (t := 26) rfl ?hr6 ?_; (case hr6 => first | (go_simp; done) | (go_simp; rfl)); intro g6 v6 _ _ _ _) | ((with_reducible refine at_dst (N := 7) rfl ?_); refine ev_box (cs := #[.slice Ar r.len cr]) (t := 26) rfl ?hr7 ?_; (case hr7 => first | (go_simp; done) | (go_simp; rfl)); intro g7 v7 _ _ _ _) | ((fail_if_success (have _q := w15)); go_at_call 40; (with_reducible refine (suGood_any x _ Ax _ _ (tr _ Ax)).mono ?_); rintro e15 w15 ⟨he, hb⟩; rw [gx] at he; subst he; haveI : Bel _ w15 := ⟨hb⟩; clear hb))
    (refine bodyPost_ret (v := .tuple #[.bool false, .bool false]) (by simp [results, Tryz.results17, go_sem]) rfl ?_; unfold RetChk; rw [H.out]; exact ⟨rfl, ext w _⟩)
  cases gk : inB kk 2 4
  · have H := Lib.hid (rchk_bad (show rkG x kk s r = false by unfold rkG; rw [gk]; simp))
    have gk' := gk
    go_enter Tryz.func17, Tryz.ntmps17
    go_wp2_with (first | ((with_reducible refine at_dst (N := 4) rfl ?_); refine ev_box (cs := #[.slice Ax x.len cx]) (t := 26) rfl ?hr4 ?_; (case hr4 => first | (go_simp; done) | (go_simp; rfl)); intro g4 v4 _ _ _ _) | ((with_reducible refine at_dst (N := 6) rfl ?_); refine ev_box (cs := #[.slice As s.len cs]) (t := 26) rfl ?hr6 ?_; (case hr6 => first | (go_simp; done) | (go_simp; rfl)); intro g6 v6 _ _ _ _) | ((with_reducible refine at_dst (N := 7) rfl ?_); refine ev_box (cs := #[.slice Ar r.len cr]) (t := 26) rfl ?hr7 ?_; (case hr7 => first | (go_simp; done) | (go_simp; rfl)); intro g7 v7 _ _ _ _) | ((fail_if_success (have _q := w15)); go_at_call 40; (with_reducible refine (suGood_any x _ Ax _ _ (tr _ Ax)).mono ?_); rintro e15 w15 ⟨he, hb⟩; rw [gx] at he; subst he; haveI : Bel _ w15 := ⟨hb⟩; clear hb) | (go_at_call 41; refine (seDegree_any _ _).mono ?_; rintro e19 w19 ⟨he, rfl⟩; rw [gk'] at he; subst he))
    (refine bodyPost_ret (v := .tuple #[.bool false, .bool false]) (by simp [results, Tryz.results17, go_sem]) rfl ?_; unfold RetChk; rw [H.out]; exact ⟨rfl, ext w _⟩)
  have gk' := gk
  cases gs : sGood s
  · have H := Lib.hid (rchk_bad (show rkG x kk s r = false by unfold rkG; rw [gs]; simp))
    go_enter Tryz.func17, Tryz.ntmps17
    go_wp2_with (first | ((with_reducible refine at_dst (N := 4) rfl ?_); refine ev_box (cs := #[.slice Ax x.len cx]) (t := 26) rfl ?hr4 ?_; (case hr4 => first | (go_simp; done) | (go_simp; rfl)); intro g4 v4 _ _ _ _) | ((with_reducible refine at_dst (N := 6) rfl ?_); refine ev_box (cs := #[.slice As s.len cs]) (t := 26) rfl ?hr6 ?_; (case hr6 => first | (go_simp; done) | (go_simp; rfl)); intro g6 v6 _ _ _ _) | ((with_reducible refine at_dst (N := 7) rfl ?_); refine ev_box (cs := #[.slice Ar r.len cr]) (t := 26) rfl ?hr7 ?_; (case hr7 => first | (go_simp; done) | (go_simp; rfl)); intro g7 v7 _ _ _ _) | ((fail_if_success (have _q := w15)); go_at_call 40; (with_reducible refine (suGood_any x _ Ax _ _ (tr _ Ax)).mono ?_); rintro e15 w15 ⟨he, hb⟩; rw [gx] at he; subst he; haveI : Bel _ w15 := ⟨hb⟩; clear hb) | (go_at_call 41; refine (seDegree_any _ _).mono ?_; rintro e19 w19 ⟨he, rfl⟩; rw [gk'] at he; subst he) | ((fail_if_success (have _q := w24)); go_at_call 40; (with_reducible refine (suGood_any s _ As _ _ (tr _ As)).mono ?_); rintro e24 w24 ⟨he, hb⟩; rw [gs] at he; subst he; haveI : Bel _ w24 := ⟨hb⟩; clear hb))
    (refine bodyPost_ret (v := .tuple #[.bool false, .bool false]) (by simp [results, Tryz.results17, go_sem]) rfl ?_; unfold RetChk; rw [H.out]; exact ⟨rfl, ext w _⟩)
  cases gr : sGood r
  · have H := Lib.hid (rchk_bad (show rkG x kk s r = false by unfold rkG; rw [gr]; simp))
    go_enter Tryz.func17, Tryz.ntmps17
    go_wp2_with (first | ((with_reducible refine at_dst (N := 4) rfl ?_); refine ev_box (cs := #[.slice Ax x.len cx]) (t := 26) rfl ?hr4 ?_; (case hr4 => first | (go_simp; done) | (go_simp; rfl)); intro g4 v4 _ _ _ _) | ((with_reducible refine at_dst (N := 6) rfl ?_); refine ev_box (cs := #[.slice As s.len cs]) (t := 26) rfl ?hr6 ?_; (case hr6 => first | (go_simp; done) | (go_simp; rfl)); intro g6 v6 _ _ _ _) | ((with_reducible refine at_dst (N := 7) rfl ?_); refine ev_box (cs := #[.slice Ar r.len cr]) (t := 26) rfl ?hr7 ?_; (case hr7 => first | (go_simp; done) | (go_simp; rfl)); intro g7 v7 _ _ _ _) | ((fail_if_success (have _q := w15)); go_at_call 40; (with_reducible refine (suGood_any x _ Ax _ _ (tr _ Ax)).mono ?_); rintro e15 w15 ⟨he, hb⟩; rw [gx] at he; subst he; haveI : Bel _ w15 := ⟨hb⟩; clear hb) | (go_at_call 41; refine (seDegree_any _ _).mono ?_; rintro e19 w19 ⟨he, rfl⟩; rw [gk'] at he; subst he) | ((fail_if_success (have _q := w24)); go_at_call 40; (with_reducible refine (suGood_any s _ As _ _ (tr _ As)).mono ?_); rintro e24 w24 ⟨he, hb⟩; rw [gs] at he; subst he; haveI : Bel _ w24 := ⟨hb⟩; clear hb) | ((fail_if_success (have _q := w29)); go_at_call 40; (with_reducible refine (suGood_any r _ Ar _ _ (tr _ Ar)).mono ?_); rintro e29 w29 ⟨he, hb⟩; rw [gr] at he; subst he; haveI : Bel _ w29 := ⟨hb⟩; clear hb))
    (refine bodyPost_ret (v := .tuple #[.bool false, .bool false]) (by simp [results, Tryz.results17, go_sem]) rfl ?_; unfold RetChk; rw [H.out]; exact ⟨rfl, ext w _⟩)
  have hk : 2 ≤ kk ∧ kk ≤ 4 := by simpa [inB] using gk
  obtain ⟨k, rfl⟩ : ∃ k : Nat, kk = k := ⟨kk.toNat, by omega⟩
  have HCG : Hid (rkG x k s r = true) := by show _ = _; unfold rkG; rw [gx, gk, gs, gr]; rfl
  have HGX : Hid (x.All FOk) := (sGood_len gx).2.2
  have HBR : Hid (r.All FOk) := (sGood_len gr).2.2
  have HGS := Lib.hid gs
  have HGR := Lib.hid gr
  have HGL : Hid (sGood (lastS s) = true) := lastS_good gs
  have HGD : Hid (sGood (hd1 s) = true) := hd1_good gs
  have HK12 : Hid (k ≤ 12) := by show _ ≤ _; omega
  have HK11 : Hid (k - 1 ≤ 12) := by show _ ≤ _; omega
  have hw : IntKind.i64.wrap ((k : Int) - 1) = ((k - 1 : Nat) : Int) := by rw [IntWalk.i64_in _ (by omega)]; omega
  obtain ⟨⟨zb, z⟩, hP⟩ : ∃ P, kpow s k false = P := ⟨_, rfl⟩
  obtain ⟨vb, HVB⟩ := boolH (sumS z r).isSome
  obtain ⟨v, HV⟩ := surH (keepS zb (sumS z r))
  obtain ⟨O, HO⟩ := intH (order v x)
  obtain ⟨⟨qb, q⟩, hQ⟩ : ∃ P, kpow (hd1 s) (k - 1) false = P := ⟨_, rfl⟩
  obtain ⟨lb, HLB⟩ := boolH (prodS (lastS s) q).isSome
  obtain ⟨L, HL⟩ := surH (keepS qb (prodS (lastS s) q))
  obtain ⟨nb, HN⟩ := boolH (neglB r L)
  obtain ⟨rb, HRB⟩ := boolH (O == 0)
  obtain ⟨b1, HB1⟩ := boolH (zb || !vb)
  have HE := Lib.hid (rchk_of (x := x) gs gr HK12.out hP HVB.out HV.out HO.out)
  have HE2 : b1 = false → Hid (rkB2 k s r = (qb || !lb) ∧ ((qb || !lb) = false → rkN k s r = nb)) := fun h => rchk_of2 gs (by omega) HK12.out (HE.out.1.trans (HB1.out.trans h)) hQ HLB.out HL.out HN.out
  have HGZ : Hid (sGood z = true) := by have := kpow_good s k false oneS (by decide); unfold kpow at hP; rw [hP] at this; exact this
  have HGQ : Hid (sGood q = true) := by have := kpow_good (hd1 s) (k - 1) false oneS (by decide); unfold kpow at hQ; rw [hQ] at this; exact this
  have HVF : Hid (v.All FOk) := by show Sur.All _ _; rw [← HV.out]; exact (sGood_len (keepS_good fun u h => sumS_good h)).2.2
  have HLF : Hid (L.All FOk) := by show Sur.All _ _; rw [← HL.out]; exact (sGood_len (keepS_good fun u h => prodS_good h)).2.2
  have HP := Lib.hid hP
  have HQ := Lib.hid hQ
  clear hP hQ hk
  go_enter Tryz.func17, Tryz.ntmps17
  go_upto_region 4 with (first | ((with_reducible refine at_dst (N := 4) rfl ?_); refine ev_box (cs := #[.slice Ax x.len cx]) (t := 26) rfl ?hr4 ?_; (case hr4 => first | (go_simp; done) | (go_simp; rfl)); intro g4 v4 _ _ _ _) | ((with_reducible refine at_dst (N := 6) rfl ?_); refine ev_box (cs := #[.slice As s.len cs]) (t := 26) rfl ?hr6 ?_; (case hr6 => first | (go_simp; done) | (go_simp; rfl)); intro g6 v6 _ _ _ _) | ((with_reducible refine at_dst (N := 7) rfl ?_); refine ev_box (cs := #[.slice Ar r.len cr]) (t := 26) rfl ?hr7 ?_; (case hr7 => first | (go_simp; done) | (go_simp; rfl)); intro g7 v7 _ _ _ _) | ((fail_if_success (have _q := w15)); go_at_call 40; (with_reducible refine (suGood_any x _ Ax _ _ (tr _ Ax)).mono ?_); rintro e15 w15 ⟨he, hb⟩; rw [gx] at he; subst he; haveI : Bel _ w15 := ⟨hb⟩; clear hb) | (go_at_call 41; refine (seDegree_any _ _).mono ?_; rintro e19 w19 ⟨he, rfl⟩; rw [gk'] at he; subst he) | ((fail_if_success (have _q := w24)); go_at_call 40; (with_reducible refine (suGood_any s _ As _ _ (tr _ As)).mono ?_); rintro e24 w24 ⟨he, hb⟩; rw [gs] at he; subst he; haveI : Bel _ w24 := ⟨hb⟩; clear hb) | ((fail_if_success (have _q := w29)); go_at_call 40; (with_reducible refine (suGood_any r _ Ar _ _ (tr _ Ar)).mono ?_); rintro e29 w29 ⟨he, hb⟩; rw [gr] at he; subst he; haveI : Bel _ w29 := ⟨hb⟩; clear hb) | ((with_reducible refine at_dst (N := 33) rfl ?_); refine ev_box (cs := #[.bool false]) (t := 76) rfl ?hr33 ?_; (case hr33 => first | (go_simp; done) | (go_simp; rfl)); intro g33 v33 _ _ _ _))
  refine wp_region_held_drew (S := (fun w' => w'.cell? ⟨g4, 0, none⟩ = some (.slice Ax x.len cx) ∧ w'.cell? ⟨g6, 0, none⟩ = some (.slice As s.len cs) ∧ w'.cell? ⟨g7, 0, none⟩ = some (.slice Ar r.len cr))) (by kernel_rfl) ?hSn1_ (fun hHeld => ?hRn1_)
  case hSn1_ => (exact ⟨has1, has1, has1⟩)
  refine wpAnyH_take (i := 0) (v := ?vn1_1) rfl (by kernel_rfl) (by kernel_rfl) (by kernel_rfl) (fun _ _ _ h => h) (Or.inl ⟨by rfl, ?hyn1_1⟩) (by assumption) ?hRn1_1
  case hyn1_1 => (intro w hSw; (try dsimp only at hSw); go_simp; (try with_reducible rfl))
  try simp only [Act.put, zp1, zp2, zp3, zp4, zp5, zp6]
  refine wpAnyH_take (i := 1) (v := ?vn1_2) rfl (by kernel_rfl) (by kernel_rfl) (by kernel_rfl) (fun _ _ _ h => h) (Or.inl ⟨by rfl, ?hyn1_2⟩) (by assumption) ?hRn1_2
  case hyn1_2 => (intro w hSw; (try dsimp only at hSw); go_simp; (try with_reducible rfl))
  try simp only [Act.put, zp1, zp2, zp3, zp4, zp5, zp6]
  refine wpAnyH_take (i := 2) (v := ?vn1_3) rfl (by kernel_rfl) (by kernel_rfl) (by kernel_rfl) (fun _ _ _ h => h) (Or.inl ⟨by rfl, ?hyn1_3⟩) (by assumption) ?hRn1_3
  case hyn1_3 => (intro w hSw; (try dsimp only at hSw); go_simp; (try with_reducible rfl))
  try simp only [Act.put, zp1, zp2, zp3, zp4, zp5, zp6]
  refine wpAnyH_take (i := 3) (v := ?vn1_4) rfl (by kernel_rfl) (by kernel_rfl) (by kernel_rfl) (fun _ _ _ h => h) (Or.inl ⟨by rfl, ?hyn1_4⟩) (by assumption) ?hRn1_4
  case hyn1_4 => (intro w hSw; (try dsimp only at hSw); go_simp; (try with_reducible rfl))
  try simp only [Act.put, zp1, zp2, zp3, zp4, zp5, zp6]
  refine wpAnyH_take (i := 5) (v := ?vn1_5) rfl (by kernel_rfl) (by kernel_rfl) (by kernel_rfl) (fun _ _ _ h => h) (Or.inl ⟨by rfl, ?hyn1_5⟩) (by assumption) ?hRn1_5
  case hyn1_5 => (intro w hSw; (try dsimp only at hSw); go_simp; (try with_reducible rfl))
  try simp only [Act.put, zp1, zp2, zp3, zp4, zp5, zp6]
  refine wpAnyH_take (i := 7) (v := ?vn1_6) rfl (by kernel_rfl) (by kernel_rfl) (by kernel_rfl) (fun _ _ _ h => h) (Or.inl ⟨by rfl, ?hyn1_6⟩) (by assumption) ?hRn1_6
  case hyn1_6 => (intro w hSw; (try dsimp only at hSw); go_simp; (try with_reducible rfl))
  try simp only [Act.put, zp1, zp2, zp3, zp4, zp5, zp6]
  refine wpAnyH_ready (rs := [4]) (by kernel_rfl) (by simp) ?_
  refine AllReadyH.cons rfl (fun K hK => ?_) AllReadyH.nil
  go_simp
  (((fail_if_success (have _q := A38)); go_at_call 54; (with_reducible refine (kpower_any s k false g33 (XE g33) As cs _ (trx (XE g33) _ As) HGS.out HK12.out).mono ?_); rintro e38 w38 ⟨A38, c38, he, hs, hb⟩; rw [HP.out] at he hs hb; subst he; haveI := belM hb; haveI := Tr.arg hs; clear hs hb))
  go_wp2_with fail
  refine hK.out _ _ ?hSn1_7 (fun hHeld => ?hRn1_7)
  case hSn1_7 => ((try dsimp only); exact ⟨has1, has1, has1⟩)
  clear hK K
  try simp only [Act.put, zp1, zp2, zp3, zp4, zp5, zp6]
  refine wpAnyH_ready (rs := [6]) (by kernel_rfl) (by simp) ?_
  refine AllReadyH.cons rfl (fun K hK => ?_) AllReadyH.nil
  go_simp
  ((go_at_call 58; (with_reducible refine (kadd_any z r zb g33 _ _ A38 Ar _ _ _ (tr _ A38) (tr _ Ar) HGZ.out HGR.out has1 has_frozen).mono ?_); rintro e40 w40 ⟨A40, c40, he, hf, hb⟩; rw [HV.out] at he hf; rw [HVB.out] at hb; subst he; haveI := belM hb; haveI := Fs.of hf; clear hf hb))
  go_wp2_with fail
  refine hK.out _ _ ?hSn1_8 (fun hHeld => ?hRn1_8)
  case hSn1_8 => ((try dsimp only); exact ⟨has1, has1, has1⟩)
  clear hK K
  try simp only [Act.put, zp1, zp2, zp3, zp4, zp5, zp6]
  refine wpAnyH_ready (rs := [8]) (by kernel_rfl) (by simp) ?_
  refine AllReadyH.cons rfl (fun K hK => ?_) AllReadyH.nil
  go_simp
  ((go_at_call 57; (with_reducible refine (suCmp_any _ v x _ _ A40 Ax _ _ _ (Nat.le_refl _) HVF.out HGX.out (tr _ A40) (tr _ Ax)).mono ?_); rintro e42 w42 ⟨he, hb⟩; rw [HO.out] at he; subst he; haveI : Bel _ w42 := ⟨hb⟩; clear hb))
  go_wp2_with fail
  refine hK.out _ _ ?hSn1_9 (fun hHeld => ?hRn1_9)
  case hSn1_9 => ((try dsimp only); exact ⟨has1, has1, has1⟩)
  clear hK K
  try simp only [Act.put, zp1, zp2, zp3, zp4, zp5, zp6]
  refine wpAnyH_take (i := 9) (v := ?vn1_10) rfl (by kernel_rfl) (by kernel_rfl) (by kernel_rfl) (fun _ _ _ h => h) (Or.inl ⟨by rfl, ?hyn1_10⟩) (by assumption) ?hRn1_10
  case hyn1_10 => (intro w hSw; (try dsimp only at hSw); go_simp; (try with_reducible rfl))
  try simp only [Act.put, zp1, zp2, zp3, zp4, zp5, zp6]
  refine wpAnyH_take (i := 10) (v := ?vn1_11) rfl (by kernel_rfl) (by kernel_rfl) (by kernel_rfl) (fun _ _ _ h => h) (Or.inl ⟨by rfl, ?hyn1_11⟩) (by assumption) ?hRn1_11
  case hyn1_11 => (intro w hSw; (try dsimp only at hSw); go_simp; (try with_reducible rfl))
  try simp only [Act.put, zp1, zp2, zp3, zp4, zp5, zp6]
  refine wpAnyH_done (by kernel_rfl) ?_ _
  go_upto_region 5 with fail
  go_cut [12] (fun s12 wx => ∃ b : Bool, s12 = .bool (!b) ∧ Hid (b = true ↔ s.len ≠ 0 ∧ r.len ≠ 0) ∧ Bel w42 wx)
  case first => as_aux_lemma =>
    by_cases hr : r.len = 0
    · have HR := Lib.hid hr
      have hr' : ((r.len : Int) == 0) = true := by simpa using hr
      clear hr
      go_wp2_with (first | ((fail_if_success (have _q := w45)); go_at_call 59; (with_reducible refine (suZero_any r Ar cr _).mono ?_); rintro e45 w45 ⟨rfl, hb⟩; haveI : Bel _ w45 := ⟨hb⟩; clear hb) | ((fail_if_success (have _q := w48)); go_at_call 59; (with_reducible refine (suZero_any s As cs _).mono ?_); rintro e48 w48 ⟨rfl, hb⟩; haveI : Bel _ w48 := ⟨hb⟩; clear hb))
      go_meet
      exact ⟨false, rfl, ⟨(fun h => by cases h), (fun h => absurd HR.out h.2)⟩, ⟨ext _ _⟩⟩
    · have HR := Lib.hid hr
      have hr' : ((r.len : Int) == 0) = false := by simp; omega
      clear hr
      by_cases hq : s.len = 0
      · have HQ := Lib.hid hq
        have hq' : ((s.len : Int) == 0) = true := by simpa using hq
        clear hq
        go_wp2_with (first | ((fail_if_success (have _q := w45)); go_at_call 59; (with_reducible refine (suZero_any r Ar cr _).mono ?_); rintro e45 w45 ⟨rfl, hb⟩; haveI : Bel _ w45 := ⟨hb⟩; clear hb) | ((fail_if_success (have _q := w48)); go_at_call 59; (with_reducible refine (suZero_any s As cs _).mono ?_); rintro e48 w48 ⟨rfl, hb⟩; haveI : Bel _ w48 := ⟨hb⟩; clear hb))
        go_meet
        exact ⟨false, rfl, ⟨(fun h => by cases h), (fun h => absurd HQ.out h.1)⟩, ⟨ext _ _⟩⟩
      · have HQ := Lib.hid hq
        have hq' : ((s.len : Int) == 0) = false := by simp; omega
        clear hq
        go_wp2_with (first | ((fail_if_success (have _q := w45)); go_at_call 59; (with_reducible refine (suZero_any r Ar cr _).mono ?_); rintro e45 w45 ⟨rfl, hb⟩; haveI : Bel _ w45 := ⟨hb⟩; clear hb) | ((fail_if_success (have _q := w48)); go_at_call 59; (with_reducible refine (suZero_any s As cs _).mono ?_); rintro e48 w48 ⟨rfl, hb⟩; haveI : Bel _ w48 := ⟨hb⟩; clear hb))
        go_meet
        exact ⟨true, rfl, ⟨(fun _ => ⟨HQ.out, HR.out⟩), (fun _ => rfl)⟩, ⟨ext _ _⟩⟩
  case rest => as_aux_lemma =>
  rename World => wx
  obtain ⟨b, rfl, HB, _⟩ := hcut
  have HRB' := HRB.out
  haveI hbd : Has wx g33 (.cells #[.bool b1] 76 (0, 0)) := by rw [← HB1.out]; infer_instance
  cases b1
  · have HE1 := Lib.hid (And.intro (HE.out.1.trans HB1.out) ((HE.out.2 HB1.out).trans HRB.out))
    have HE3 := HE2 rfl
    cases b
    · have HC : Hid (rchk x k s r = (rb, true)) := by
        show _ = _
        unfold rchk
        rw [if_pos HCG.out, if_neg (fun h => by have := HB.out.2 h; cases this), HE1.out.1, HE1.out.2]
        simp
      clear HE2
      cases rb
      · go_wp2
        refine bodyPost_ret (v := .tuple #[.bool false, .bool true]) (by simp [results, Tryz.results17, go_sem]) rfl ?_
        unfold RetChk
        rw [HC.out]
        exact ⟨rfl, ext w _⟩
      · go_wp2
        refine bodyPost_ret (v := .tuple #[.bool true, .bool true]) (by simp [results, Tryz.results17, go_sem]) rfl ?_
        unfold RetChk
        rw [HC.out]
        exact ⟨rfl, ext w _⟩
    · have HS0 : Hid (s.len ≠ 0) := (HB.out.1 rfl).1
      have HR0 : Hid (r.len ≠ 0) := (HB.out.1 rfl).2
      have h0s : 0 < s.len := by have := HS0.out; omega
      have h1c : 1 ≤ cs := by omega
      obtain ⟨b', o', _, _, _, _, _, hAs, _⟩ := HAT.out h0s
      have HD1 : Hid ((hd1 s).len = 1) := hd1_len HS0.out
      clear HAT HE2
      subst hAs
      go_upto_region 8 with (first | ((with_reducible refine at_dst (N := 13) rfl ?_); refine ev_box (cs := #[.slice none 0 0]) (t := 26) rfl ?hr13 ?_; (case hr13 => first | (go_simp; done) | (go_simp; rfl)); intro g13 v13 _ _ _ _))
      refine wp_region_held_drew (S := (fun w' => w'.cell? ⟨g6, 0, none⟩ = some (.slice (some ⟨b', o', none⟩) s.len cs) ∧ w'.cell? ⟨g7, 0, none⟩ = some (.slice Ar r.len cr) ∧ w'.cell? ⟨g13, 0, none⟩ = some (.slice (some ⟨b', o', none⟩) 1 cs))) (by kernel_rfl) ?hSn2_ (fun hHeld => ?hRn2_)
      case hSn2_ => (exact ⟨has1, has1, has1⟩)
      refine wpAnyH_take (i := 0) (v := ?vn2_1) rfl (by kernel_rfl) (by kernel_rfl) (by kernel_rfl) (fun _ _ _ h => h) (Or.inl ⟨by rfl, ?hyn2_1⟩) (by assumption) ?hRn2_1
      case hyn2_1 => (intro w hSw; (try dsimp only at hSw); go_simp; (try with_reducible rfl))
      try simp only [Act.put, zp1, zp2, zp3, zp4, zp5, zp6]
      refine wpAnyH_take (i := 1) (v := ?vn2_2) rfl (by kernel_rfl) (by kernel_rfl) (by kernel_rfl) (fun _ _ _ h => h) (Or.inl ⟨by rfl, ?hyn2_2⟩) (by assumption) ?hRn2_2
      case hyn2_2 => (intro w hSw; (try dsimp only at hSw); go_simp; (try with_reducible rfl))
      try simp only [Act.put, zp1, zp2, zp3, zp4, zp5, zp6]
      refine wpAnyH_take (i := 2) (v := ?vn2_3) rfl (by kernel_rfl) (by kernel_rfl) (by kernel_rfl) (fun _ _ _ h => h) (Or.inl ⟨by rfl, ?hyn2_3⟩) (by assumption) ?hRn2_3
      case hyn2_3 => (intro w hSw; (try dsimp only at hSw); go_simp; (try with_reducible rfl))
      try simp only [Act.put, zp1, zp2, zp3, zp4, zp5, zp6]
      refine wpAnyH_take (i := 4) (v := ?vn2_4) rfl (by kernel_rfl) (by kernel_rfl) (by kernel_rfl) (fun _ _ _ h => h) (Or.inl ⟨by rfl, ?hyn2_4⟩) (by assumption) ?hRn2_4
      case hyn2_4 => (intro w hSw; (try dsimp only at hSw); go_simp; (try with_reducible rfl))
      try simp only [Act.put, zp1, zp2, zp3, zp4, zp5, zp6]
      refine wpAnyH_take (i := 5) (v := ?vn2_5) rfl (by kernel_rfl) (by kernel_rfl) (by kernel_rfl) (fun _ _ _ h => h) (Or.inl ⟨by rfl, ?hyn2_5⟩) (by assumption) ?hRn2_5
      case hyn2_5 => (intro w hSw; (try dsimp only at hSw); go_simp; (try with_reducible rfl))
      try simp only [Act.put, zp1, zp2, zp3, zp4, zp5, zp6]
      refine wpAnyH_take (i := 6) (v := ?vn2_6) rfl (by kernel_rfl) (by kernel_rfl) (by kernel_rfl) (fun _ _ _ h => h) (Or.inl ⟨by rfl, ?hyn2_6⟩) (by assumption) ?hRn2_6
      case hyn2_6 => (intro w hSw; (try dsimp only at hSw); go_simp; (try with_reducible rfl))
      try simp only [Act.put, zp1, zp2, zp3, zp4, zp5, zp6]
      refine wpAnyH_take (i := 7) (v := ?vn2_7) rfl (by kernel_rfl) (by kernel_rfl) (by kernel_rfl) (fun _ _ _ h => h) (Or.inl ⟨by rfl, ?hyn2_7⟩) (by assumption) ?hRn2_7
      case hyn2_7 => (intro w hSw; (try dsimp only at hSw); go_simp; (try with_reducible rfl))
      try simp only [Act.put, zp1, zp2, zp3, zp4, zp5, zp6]
      refine wpAnyH_ready (rs := [3]) (by kernel_rfl) (by simp) ?_
      refine AllReadyH.cons rfl (fun K hK => ?_) AllReadyH.nil
      go_simp
      ((go_at_call 62; (with_reducible refine (seLast_any s _ (some ⟨b', o', none⟩) cs _ (tr _ (some ⟨b', o', none⟩)) HS0.out).mono ?_); rintro e66 w66 ⟨A66, c66, rfl, hs, hb⟩; haveI : Bel _ w66 := ⟨hb⟩; haveI := Tr.arg hs; clear hs hb))
      go_wp2_with fail
      refine hK.out _ _ ?hSn2_8 (fun hHeld => ?hRn2_8)
      case hSn2_8 => ((try dsimp only); exact ⟨has1, has1, has1⟩)
      clear hK K
      try simp only [Act.put, zp1, zp2, zp3, zp4, zp5, zp6]
      refine wpAnyH_ready (rs := [8]) (by kernel_rfl) (by simp) ?_
      refine AllReadyH.cons rfl (fun K hK => ?_) AllReadyH.nil
      go_simp
      ((go_at_call 54; (with_reducible refine (kpower1_any s (k - 1) false g33 (XE g33) (some ⟨b', o', none⟩) cs _ (trx (XE g33) _ (some ⟨b', o', none⟩)) HS0.out HGD.out HK11.out).mono ?_); rintro e71 w71 ⟨A71, c71, he, hs, hb⟩; rw [HQ.out] at he hs hb; subst he; haveI := belM hb; haveI := Tr.arg hs; clear hs hb))
      go_wp2_with fail
      refine hK.out _ _ ?hSn2_9 (fun hHeld => ?hRn2_9)
      case hSn2_9 => ((try dsimp only); exact ⟨has1, has1, has1⟩)
      clear hK K
      try simp only [Act.put, zp1, zp2, zp3, zp4, zp5, zp6]
      refine wpAnyH_ready (rs := [9]) (by kernel_rfl) (by simp) ?_
      refine AllReadyH.cons rfl (fun K hK => ?_) AllReadyH.nil
      go_simp
      ((go_at_call 61; (with_reducible refine (kmul_any (lastS s) q qb g33 _ _ A66 A71 _ _ _ (tr _ A66) (tr _ A71) HGL.out HGQ.out has1 has_frozen).mono ?_); rintro e72 w72 ⟨A72, c72, he, hf, hb⟩; rw [HL.out] at he hf; rw [HLB.out] at hb; subst he; haveI := belM hb; haveI := Fs.of hf; clear hf hb))
      go_wp2_with fail
      refine hK.out _ _ ?hSn2_10 (fun hHeld => ?hRn2_10)
      case hSn2_10 => ((try dsimp only); exact ⟨has1, has1, has1⟩)
      clear hK K
      try simp only [Act.put, zp1, zp2, zp3, zp4, zp5, zp6]
      refine wpAnyH_ready (rs := [10]) (by kernel_rfl) (by simp) ?_
      refine AllReadyH.cons rfl (fun K hK => ?_) AllReadyH.nil
      go_simp
      ((go_at_call 60; (with_reducible refine (suSmall_any r L _ _ Ar A72 _ _ _ (tr _ Ar) (tr _ A72) HBR.out HLF.out).mono ?_); rintro e73 w73 ⟨he, hb⟩; rw [HN.out] at he; subst he; haveI : Bel _ w73 := ⟨hb⟩; clear hb))
      go_wp2_with fail
      refine hK.out _ _ ?hSn2_11 (fun hHeld => ?hRn2_11)
      case hSn2_11 => ((try dsimp only); exact ⟨has1, has1, has1⟩)
      clear hK K
      try simp only [Act.put, zp1, zp2, zp3, zp4, zp5, zp6]
      refine wpAnyH_take (i := 11) (v := ?vn2_12) rfl (by kernel_rfl) (by kernel_rfl) (by kernel_rfl) (fun _ _ _ h => h) (Or.inl ⟨by rfl, ?hyn2_12⟩) (by assumption) ?hRn2_12
      case hyn2_12 => (intro w hSw; (try dsimp only at hSw); go_simp; (try with_reducible rfl))
      try simp only [Act.put, zp1, zp2, zp3, zp4, zp5, zp6]
      refine wpAnyH_done (by kernel_rfl) ?_ _
      obtain ⟨b2, HB2⟩ := boolH (qb || !lb)
      haveI hbd2 : Has w73 g33 (.cells #[.bool b2] 76 (0, 0)) := by rw [← HB2.out]; infer_instance
      cases b2
      · have HC : Hid (rchk x k s r = (nb && rb, true)) := by
          show _ = _
          unfold rchk
          rw [if_pos HCG.out, if_pos ⟨HS0.out, HR0.out⟩, HE3.out.1, HE3.out.2 HB2.out, HE1.out.2, HB2.out]
          simp
        cases rb
        · go_wp2
          refine bodyPost_ret (v := .tuple #[.bool false, .bool true]) (by simp [results, Tryz.results17, go_sem]) rfl ?_
          unfold RetChk
          rw [HC.out]
          exact ⟨by simp, ext w _⟩
        · go_wp2
          refine bodyPost_ret (v := .tuple #[.bool nb, .bool true]) (by simp [results, Tryz.results17, go_sem]) rfl ?_
          unfold RetChk
          rw [HC.out]
          exact ⟨by simp, ext w _⟩
      · have HC : Hid (rchk x k s r = (false, false)) := by
          show _ = _
          unfold rchk
          rw [if_pos HCG.out, if_pos ⟨HS0.out, HR0.out⟩, HE3.out.1, HB2.out]
          simp
        go_wp2
        refine bodyPost_ret (v := .tuple #[.bool false, .bool false]) (by simp [results, Tryz.results17, go_sem]) rfl ?_
        unfold RetChk
        rw [HC.out]
        exact ⟨rfl, ext w _⟩
  · have HC : Hid (rchk x k s r = (false, false)) := by
      show _ = _
      have e := HE.out.1.trans HB1.out
      have e2 : rkB2 k s r = true := by unfold rkB2 rkQ; rw [e, mpow_true']; rfl
      unfold rchk
      rw [if_pos HCG.out, e, e2]
      split <;> simp
    clear HE2
    cases b
    all_goals
      go_wp2
      refine bodyPost_ret (v := .tuple #[.bool false, .bool false]) (by simp [results, Tryz.results17, go_sem]) rfl ?_
      unfold RetChk
      rw [HC.out]
      exact ⟨rfl, ext w _⟩

theorem kpowGo_nil (x : Sur) : ∀ (m : Nat) (b : Bool) (out : Sur), (b = true → out = .nil) → (kpowGo x m b out).1 = true → (kpowGo x m b out).2 = .nil
  | 0, b, out, h, hb => h hb
  | m + 1, b, out, h, hb => by
    simp only [kpowGo] at hb ⊢
    refine kpowGo_nil x m _ _ (fun h2 => ?_) hb
    unfold keepS
    rw [if_pos h2]
set_option synthInstance.maxHeartbeats 2000000 in
set_option synthInstance.maxSize 4000 in
set_option maxHeartbeats 3200000 in
set_option maxRecDepth 100000 in
theorem sPowerOfSurreal_any (x : Sur) (kk : Int) (X : Nat → Prop) (A : Option Addr) (c : Nat) (w : World) (sx : SSl X w x A c) :
    Calls Tryz.prog 14 #[.agg #[.slice A x.len c], .int .i64 kk] w (RetSB w (powK x kk)) := by
  haveI := Tr.arg (sx.more (Y := XN) (fun _ h => h.elim))
  clear sx
  cases gx : sGood x
  · have H := Lib.hid (show powK x kk = none by unfold powK; rw [gx]; rfl)
    go_enter Tryz.func14, Tryz.ntmps14
    go_wp2_with (first | ((with_reducible refine at_dst (N := 2) rfl ?_); refine ev_box (cs := #[.slice A x.len c]) (t := 26) rfl ?hr2 ?_; (case hr2 => first | (go_simp; done) | (go_simp; rfl)); intro g2 v2 _ _ _ _) | ((with_reducible refine at_dst (N := 4) rfl ?_); refine ev_box (cs := #[.slice none 0 0]) (t := 26) rfl ?hr4 ?_; (case hr4 => first | (go_simp; done) | (go_simp; rfl)); intro g4 v4 _ _ _ _) | ((fail_if_success (have _q := w9)); go_at_call 40; (with_reducible refine (suGood_any x _ A _ _ (tr _ A)).mono ?_); rintro e9 w9 ⟨he, hb⟩; rw [gx] at he; subst he; haveI : Bel _ w9 := ⟨hb⟩; clear hb))
    (refine bodyPost_ret (v := .tuple #[.agg #[.slice none 0 0], .bool false]) (by simp [results, Tryz.results14, go_sem]) rfl ?_; unfold RetSB; rw [H.out]; exact ⟨none, 0, rfl, SSl.nil _ _, ext w _⟩)
  cases gn : stepsB kk
  · have H := Lib.hid (show powK x kk = none by unfold powK; rw [gn]; simp)
    have gn' := gn
    go_enter Tryz.func14, Tryz.ntmps14
    go_wp2_with (first | ((with_reducible refine at_dst (N := 2) rfl ?_); refine ev_box (cs := #[.slice A x.len c]) (t := 26) rfl ?hr2 ?_; (case hr2 => first | (go_simp; done) | (go_simp; rfl)); intro g2 v2 _ _ _ _) | ((with_reducible refine at_dst (N := 4) rfl ?_); refine ev_box (cs := #[.slice none 0 0]) (t := 26) rfl ?hr4 ?_; (case hr4 => first | (go_simp; done) | (go_simp; rfl)); intro g4 v4 _ _ _ _) | ((fail_if_success (have _q := w9)); go_at_call 40; (with_reducible refine (suGood_any x _ A _ _ (tr _ A)).mono ?_); rintro e9 w9 ⟨he, hb⟩; rw [gx] at he; subst he; haveI : Bel _ w9 := ⟨hb⟩; clear hb) | (go_at_call 42; refine (seSteps_any _ _).mono ?_; rintro e13 w13 ⟨he, rfl⟩; rw [gn'] at he; subst he))
    (refine bodyPost_ret (v := .tuple #[.agg #[.slice none 0 0], .bool false]) (by simp [results, Tryz.results14, go_sem]) rfl ?_; unfold RetSB; rw [H.out]; exact ⟨none, 0, rfl, SSl.nil _ _, ext w _⟩)
  have gn' := gn
  have hn := stepsB_true gn
  obtain ⟨k, rfl⟩ : ∃ k : Nat, kk = k := ⟨kk.toNat, by omega⟩
  have HK12 : Hid (k ≤ 12) := by show _ ≤ _; omega
  have HG := Lib.hid gx
  obtain ⟨⟨zb, z⟩, hP⟩ : ∃ P, kpow x k false = P := ⟨_, rfl⟩
  have HE : Hid (powK x k = if zb = true then none else some z) := by
    show _ = _
    obtain ⟨h1, h2⟩ := kpow_mpow gx HK12.out false
    rw [hP] at h1 h2
    simp only at h1 h2
    unfold powK
    rw [if_pos (by rw [gx, gn]; rfl), ← h1]
    cases zb
    · simp only [Bool.false_eq_true, if_false]; rw [h2 rfl]
    · rfl
  have HZ : zb = true → Hid (z = .nil) := fun h => by
    have := kpowGo_nil x k false oneS (fun h => by cases h)
    unfold kpow at hP
    rw [hP] at this
    exact this h
  have HP := Lib.hid hP
  clear hP
  go_enter Tryz.func14, Tryz.ntmps14
  go_upto_region 5 with (first | ((with_reducible refine at_dst (N := 2) rfl ?_); refine ev_box (cs := #[.slice A x.len c]) (t := 26) rfl ?hr2 ?_; (case hr2 => first | (go_simp; done) | (go_simp; rfl)); intro g2 v2 _ _ _ _) | ((with_reducible refine at_dst (N := 4) rfl ?_); refine ev_box (cs := #[.slice none 0 0]) (t := 26) rfl ?hr4 ?_; (case hr4 => first | (go_simp; done) | (go_simp; rfl)); intro g4 v4 _ _ _ _) | ((fail_if_success (have _q := w9)); go_at_call 40; (with_reducible refine (suGood_any x _ A _ _ (tr _ A)).mono ?_); rintro e9 w9 ⟨he, hb⟩; rw [gx] at he; subst he; haveI : Bel _ w9 := ⟨hb⟩; clear hb) | (go_at_call 42; refine (seSteps_any _ _).mono ?_; rintro e13 w13 ⟨he, rfl⟩; rw [gn'] at he; subst he) | ((with_reducible refine at_dst (N := 18) rfl ?_); refine ev_box (cs := #[.bool false]) (t := 76) rfl ?hr18 ?_; (case hr18 => first | (go_simp; done) | (go_simp; rfl)); intro g18 v18 _ _ _ _) | (go_at_call 54; (with_reducible refine (kpower_any x k false g18 (XE g18) A c _ (trx (XE g18) _ A) HG.out HK12.out).mono ?_); rintro e22 w22 ⟨A22, c22, he, hs, hb⟩; rw [HP.out] at he hs hb; subst he; haveI := belM hb; haveI := Tr.arg hs; clear hs hb) | ((with_reducible refine at_dst (N := 7) rfl ?_); refine ev_box (cs := #[.slice none 0 0]) (t := 26) rfl ?hr7 ?_; (case hr7 => first | (go_simp; done) | (go_simp; rfl)); intro g7 v7 _ _ _ _))
  refine wp_region_held_drew (S := (fun w' => w'.cell? ⟨g7, 0, none⟩ = some (.slice A22 z.len c22) ∧ w'.cell? ⟨g18, 0, none⟩ = some (.bool zb))) (by kernel_rfl) ?hSn3_ (fun hHeld => ?hRn3_)
  case hSn3_ => (exact ⟨has1, has1⟩)
  refine wpAnyH_take (i := 0) (v := ?vn3_1) rfl (by kernel_rfl) (by kernel_rfl) (by kernel_rfl) (fun _ _ _ h => h) (Or.inl ⟨by rfl, ?hyn3_1⟩) (by assumption) ?hRn3_1
  case hyn3_1 => (intro w hSw; (try dsimp only at hSw); go_simp; (try with_reducible rfl))
  try simp only [Act.put, zp1, zp2, zp3, zp4, zp5, zp6]
  refine wpAnyH_take (i := 1) (v := ?vn3_2) rfl (by kernel_rfl) (by kernel_rfl) (by kernel_rfl) (fun _ _ _ h => h) (Or.inl ⟨by rfl, ?hyn3_2⟩) (by assumption) ?hRn3_2
  case hyn3_2 => (intro w hSw; (try dsimp only at hSw); go_simp; (try with_reducible rfl))
  try simp only [Act.put, zp1, zp2, zp3, zp4, zp5, zp6]
  refine wpAnyH_take (i := 2) (v := ?vn3_3) rfl (by kernel_rfl) (by kernel_rfl) (by kernel_rfl) (fun _ _ _ h => h) (Or.inl ⟨by rfl, ?hyn3_3⟩) (by assumption) ?hRn3_3
  case hyn3_3 => (intro w hSw; (try dsimp only at hSw); go_simp; (try with_reducible rfl))
  try simp only [Act.put, zp1, zp2, zp3, zp4, zp5, zp6]
  refine wpAnyH_take (i := 3) (v := ?vn3_4) rfl (by kernel_rfl) (by kernel_rfl) (by kernel_rfl) (fun _ _ _ h => h) (Or.inl ⟨by rfl, ?hyn3_4⟩) (by assumption) ?hRn3_4
  case hyn3_4 => (intro w hSw; (try dsimp only at hSw); go_simp; (try with_reducible rfl))
  try simp only [Act.put, zp1, zp2, zp3, zp4, zp5, zp6]
  refine wpAnyH_take (i := 4) (v := ?vn3_5) rfl (by kernel_rfl) (by kernel_rfl) (by kernel_rfl) (fun _ _ _ h => h) (Or.inl ⟨by rfl, ?hyn3_5⟩) (by assumption) ?hRn3_5
  case hyn3_5 => (intro w hSw; (try dsimp only at hSw); go_simp; (try with_reducible rfl))
  try simp only [Act.put, zp1, zp2, zp3, zp4, zp5, zp6]
  refine wpAnyH_take (i := 5) (v := ?vn3_6) rfl (by kernel_rfl) (by kernel_rfl) (by kernel_rfl) (fun _ _ _ h => h) (Or.inl ⟨by rfl, ?hyn3_6⟩) (by assumption) ?hRn3_6
  case hyn3_6 => (intro w hSw; (try dsimp only at hSw); go_simp; (try with_reducible rfl))
  try simp only [Act.put, zp1, zp2, zp3, zp4, zp5, zp6]
  refine wpAnyH_ready (rs := [6]) (by kernel_rfl) (by simp) ?_
  refine AllReadyH.cons rfl (fun K hK => ?_) AllReadyH.nil
  go_simp
  refine hK.out _ _ ?hSn3_7 (fun hHeld => ?hRn3_7)
  case hSn3_7 => ((try dsimp only); exact ⟨has1, has1⟩)
  clear hK K
  try simp only [Act.put, zp1, zp2, zp3, zp4, zp5, zp6]
  refine wpAnyH_take (i := 7) (v := ?vn3_8) rfl (by kernel_rfl) (by kernel_rfl) (by kernel_rfl) (fun _ _ _ h => h) (Or.inl ⟨by rfl, ?hyn3_8⟩) (by assumption) ?hRn3_8
  case hyn3_8 => (intro w hSw; (try dsimp only at hSw); go_simp; (try with_reducible rfl))
  try simp only [Act.put, zp1, zp2, zp3, zp4, zp5, zp6]
  refine wpAnyH_done (by kernel_rfl) ?_ _
  all_goals
    go_wp2
    refine bodyPost_ret (v := .tuple #[.agg #[.slice A22 z.len c22], .bool (!zb)]) (by simp [results, Tryz.results14, go_sem]) rfl ?_
    unfold RetSB
    rw [HE.out]
    cases zb
    · exact ⟨A22, c22, rfl, trx (XL w) _ A22, ext w _⟩
    · have hz := (HZ rfl).out
      subst hz
      exact ⟨A22, c22, rfl, trx (XL w) _ A22, ext w _⟩
end Go.Proofs.YtonlfnbjbmgegaaGreat
