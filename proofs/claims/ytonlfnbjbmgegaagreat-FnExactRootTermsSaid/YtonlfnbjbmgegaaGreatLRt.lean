/-
  The law FnExactRootTerms: its walk.
-/
import Derived.Test.YtonlfnbjbmgegaaGreatLZL
import Derived.Test.YtonlfnbjbmgegaaGreatSRt2
import Derived.Test.YtonlfnbjbmgegaaGreatWRt3
namespace Go.Proofs.YtonlfnbjbmgegaaGreat
open Go.RowKit
open List renaming getElem_toArray → zp1, getElem_cons_zero → zp2, getElem_cons_succ → zp3, setIfInBounds_toArray → zp4, set_cons_zero → zp5, set_cons_succ → zp6
set_option linter.unusedSimpArgs false
set_option linter.unusedVariables false

instance XSub.r {U v v0 : World} {X : Nat → Prop} [a : LeB v0 U] : XSub (XR U v) (XV v0 X) := ⟨fun k hk => .inl (Nat.le_trans a.h hk.1)⟩
attribute [local go_sem high] has_cell has_frozen
attribute [local go_sem] eqB_self
set_option synthInstance.maxHeartbeats 2000000 in
set_option synthInstance.maxSize 4000 in
set_option maxHeartbeats 16000000 in
set_option maxRecDepth 100000 in
theorem lawRt_any (x : Sur) (k n : Int) (A : Option Addr) (c : Nat) (w : World) (sx : LSl w x A c) :
    Calls Tryz.prog 4 #[.agg #[.slice A x.len c], .int .i64 k, .int .i64 n] w (RetB w true) := by
  obtain ⟨gq, gr⟩ := rootT_good x k n
  obtain ⟨q, hq⟩ : ∃ q, ((rootT x k n).getD (.nil, .nil)).1 = q := ⟨_, rfl⟩
  obtain ⟨r, hr⟩ : ∃ r, ((rootT x k n).getD (.nil, .nil)).2 = r := ⟨_, rfl⟩
  obtain ⟨ok, hk⟩ : ∃ ok, (rootT x k n).isSome = ok := ⟨_, rfl⟩
  rw [hq] at gq
  rw [hr] at gr
  have HQ := Lib.hid hq
  have HR := Lib.hid hr
  have HK := Lib.hid hk
  have tq := total_good gq
  have t_r := total_good gr
  clear hq hr hk gq gr
  by_cases hs : szP x 1048576 < 0
  · go_enter Tryz.func4, Tryz.ntmps4
    go_wp2_with (first | ((with_reducible refine at_dst (N := 3) rfl ?_); refine ev_box (cs := #[.slice A x.len c]) (t := 43) rfl ?hr3 ?_; (case hr3 => first | (go_simp; done) | (go_simp; rfl)); intro g3 v3 _ _ _ _) | (go_at_call 18; refine (szSurreal_any x A c 1048576 _ (sx.below (ext w _)) (by omega) (by omega)).mono ?_; rintro e1 w1 ⟨rfl, hb⟩; haveI : Bel _ w1 := ⟨hb⟩; clear hb))
    go_ret
    exact ⟨rfl, ext _ _⟩
  · have htot : x.total ≤ 1048576 := by unfold szP at hs; split at hs <;> omega
    have hn1 : ¬ (1 + 2 * (x.total : Int)) < 0 := by omega
    have hn2 : ¬ (1 + 2 * (q.total : Int)) < 0 := by omega
    have hn3 : ¬ (1 + 2 * (q.total : Int) + 2 * (r.total : Int)) < 0 := by omega
    go_enter Tryz.func4, Tryz.ntmps4
    go_upto_region 6 with (first | ((with_reducible refine at_dst (N := 3) rfl ?_); refine ev_box (cs := #[.slice A x.len c]) (t := 43) rfl ?hr3 ?_; (case hr3 => first | (go_simp; done) | (go_simp; rfl)); intro g3 v3 _ _ _ _) | (go_at_call 18; refine (szSurreal_any x A c 1048576 _ (sx.below (ext w _)) (by omega) (by omega)).mono ?_; rintro e1 w1 ⟨rfl, hb⟩; haveI : Bel _ w1 := ⟨hb⟩; clear hb) | (go_at_call 19; refine (toSurreal_any x A c _ (sx.below (ext w _)) htot).mono ?_; rintro e2 w2 ⟨A2, c2, rfl, hf, hb⟩; haveI : Bel _ w2 := ⟨hb⟩; haveI := Fs.of hf; clear hf hb) | (go_at_call 8; (with_reducible refine (sRootTerms_any x k n _ A2 c2 _ (tr _ A2)).mono ?_); rintro e3 w3 ⟨A3, c3, A4, c4, he, hs, hs', hb⟩; rw [srootT_rootT, HQ.out, HR.out, HK.out] at he; rw [srootT_rootT, HQ.out] at hs; rw [srootT_rootT, HR.out] at hs'; subst he; haveI : Bel _ w3 := ⟨hb⟩; haveI := Tr.arg hs; haveI := Tr.arg hs'; clear hs hs' hb) | ((with_reducible refine at_dst (N := 8) rfl ?_); refine ev_box (cs := #[.slice none 0 0]) (t := 26) rfl ?hr8 ?_; (case hr8 => first | (go_simp; done) | (go_simp; rfl)); intro g8 v8 _ _ _ _) | ((with_reducible refine at_dst (N := 9) rfl ?_); refine ev_box (cs := #[.slice none 0 0]) (t := 26) rfl ?hr9 ?_; (case hr9 => first | (go_simp; done) | (go_simp; rfl)); intro g9 v9 _ _ _ _))
    go_upto_region 10 with (first | (go_at_call 19; refine (toSurreal_any x A c _ (sx.below (ext w _)) htot).mono ?_; rintro e2 w5 ⟨A5, c5, rfl, hf, hb⟩; haveI : Bel _ w5 := ⟨hb⟩; haveI := Fs.of hf; clear hf hb) | ((with_reducible refine at_dst (N := 11) rfl ?_); refine ev_box (cs := #[.slice none 0 0]) (t := 26) rfl ?hr11 ?_; (case hr11 => first | (go_simp; done) | (go_simp; rfl)); intro g11 v11 _ _ _ _) | (go_at_call 7; (with_reducible refine (RootTerms_any x k n _ A5 c5 _ (tr _ A5)).mono ?_); rintro e3 w6 ⟨A6, c6, A7, c7, U6, he, h1, h2, h3, h4, hb⟩; rw [HQ.out, HR.out, HK.out] at he; rw [HQ.out] at h1; rw [HR.out] at h2; subst he; haveI : Bel _ w6 := ⟨hb⟩; haveI := h1; haveI := h2; haveI := h4; haveI : Aft _ U6 := ⟨h3.h⟩; clear hb) | ((with_reducible refine at_dst (N := 12) rfl ?_); refine ev_box (cs := #[.slice none 0 0]) (t := 26) rfl ?hr12 ?_; (case hr12 => first | (go_simp; done) | (go_simp; rfl)); intro g12 v12 _ _ _ _) | ((with_reducible refine at_dst (N := 13) rfl ?_); refine ev_box (cs := #[.slice none 0 0]) (t := 26) rfl ?hr13 ?_; (case hr13 => first | (go_simp; done) | (go_simp; rfl)); intro g13 v13 _ _ _ _) | (go_at_call 20; refine (eqSurreal_any _ _ _ _ _ _ _ _ _ (tr _ _) (tr _ _)).mono ?_; rintro e6 we ⟨rfl, hb⟩; haveI : Bel _ we := ⟨hb⟩; clear hb))
    refine wp_region_held_drew (S := (fun w' => w'.cell? ⟨g11, 0, none⟩ = some (.slice A5 x.len c5) ∧ w'.cell? ⟨g3, 0, none⟩ = some (.slice A x.len c))) (by kernel_rfl) ?hSn1_ (fun hHeld => ?hRn1_)
    case hSn1_ => (exact ⟨has1, has1⟩)
    refine wpAnyH_take (i := 0) (v := ?vn1_1) rfl (by kernel_rfl) (by kernel_rfl) (by kernel_rfl) (fun _ _ _ h => h) (Or.inl ⟨by rfl, ?hyn1_1⟩) (by assumption) ?hRn1_1
    case hyn1_1 => (intro w hSw; (try dsimp only at hSw); go_simp; (try with_reducible rfl))
    try simp only [Act.put, zp1, zp2, zp3, zp4, zp5, zp6]
    refine wpAnyH_take (i := 1) (v := ?vn1_2) rfl (by kernel_rfl) (by kernel_rfl) (by kernel_rfl) (fun _ _ _ h => h) (Or.inl ⟨by rfl, ?hyn1_2⟩) (by assumption) ?hRn1_2
    case hyn1_2 => (intro w hSw; (try dsimp only at hSw); go_simp; (try with_reducible rfl))
    try simp only [Act.put, zp1, zp2, zp3, zp4, zp5, zp6]
    refine wpAnyH_ready (rs := [2]) (by kernel_rfl) (by simp) ?_
    refine AllReadyH.cons rfl (fun K hK => ?_) AllReadyH.nil
    go_simp
    ((go_at_call 19; refine (toSurreal_any x A c _ (sx.below (ext w _)) htot).mono ?_; rintro e2 w14 ⟨A14, c14, rfl, hf, hb⟩; haveI : Bel _ w14 := ⟨hb⟩; haveI := Fs.of hf; clear hf hb))
    go_wp2_with fail
    refine hK.out _ _ ?hSn1_3 (fun hHeld => ?hRn1_3)
    case hSn1_3 => ((try dsimp only); exact ⟨has1, has1⟩)
    clear hK K
    try simp only [Act.put, zp1, zp2, zp3, zp4, zp5, zp6]
    refine wpAnyH_ready (rs := [3]) (by kernel_rfl) (by simp) ?_
    refine AllReadyH.cons rfl (fun K hK => ?_) AllReadyH.nil
    go_simp
    ((go_at_call 20; refine (eqSurreal_any _ _ _ _ _ _ _ _ _ (tr _ _) (tr _ _)).mono ?_; rintro e6 we ⟨rfl, hb⟩; haveI : Bel _ we := ⟨hb⟩; clear hb))
    go_wp2_with fail
    refine hK.out _ _ ?hSn1_4 (fun hHeld => ?hRn1_4)
    case hSn1_4 => ((try dsimp only); exact ⟨has1, has1⟩)
    clear hK K
    try simp only [Act.put, zp1, zp2, zp3, zp4, zp5, zp6]
    refine wpAnyH_take (i := 4) (v := ?vn1_5) rfl (by kernel_rfl) (by kernel_rfl) (by kernel_rfl) (fun _ _ _ h => h) (Or.inl ⟨by rfl, ?hyn1_5⟩) (by assumption) ?hRn1_5
    case hyn1_5 => (intro w hSw; (try dsimp only at hSw); go_simp; (try with_reducible rfl))
    try simp only [Act.put, zp1, zp2, zp3, zp4, zp5, zp6]
    refine wpAnyH_done (by kernel_rfl) ?_ _
    go_upto_region 28 with (first | (go_at_call 20; refine (eqSurreal_any _ _ _ _ _ _ _ _ _ (tr _ _) (tr _ _)).mono ?_; rintro e6 we ⟨rfl, hb⟩; haveI : Bel _ we := ⟨hb⟩; clear hb) | ((fail_if_success (have _q := x9)); go_at_call 21; (with_reducible refine (mark_lz x A5 c5 1 _ (by omega) (by omega)).mono ?_); rintro e9 w67 ⟨rfl, x9, _, _, _, _⟩) | (go_at_call 21; (with_reducible refine (mark_lz q A6 c6 1 _ (by omega) (by omega)).mono ?_); rintro e9 w89 ⟨rfl, y6, hl, hm, _, _⟩; have HL := Lib.hid hl; have HM := Lib.hid hm; clear hl hm) | (go_at_call 21; (with_reducible refine (mark_lz r A7 c7 _ _ (by omega) (by omega)).mono ?_); rintro e9 w92 ⟨rfl, y7, hl, hm, _, _⟩; have HL2 := Lib.hid hl; have HM2 := Lib.hid hm; clear hl hm) | ((fail_if_success (have _q := w95)); go_at_call 22; rw [← HL.out]; (with_reducible refine (heldSurreal_any y6 _ A6 c6 1 _ _ (tr _ A6) HM.out (by omega) (by omega)).mono ?_); rintro e12 w95 ⟨rfl, hb⟩; rw [HL.out]; haveI : Bel _ w95 := ⟨hb⟩; clear hb) | ((fail_if_success (have _q := w100)); go_at_call 22; rw [← HL2.out]; (with_reducible refine (heldSurreal_any y7 _ A7 c7 _ _ _ (tr _ A7) HM2.out (by omega) (by omega)).mono ?_); rintro e12 w100 ⟨rfl, hb⟩; rw [HL2.out]; haveI : Bel _ w100 := ⟨hb⟩; clear hb))
    go_wp2_with (first | (go_at_call 19; refine (toSurreal_any x A c _ (sx.below (ext w _)) htot).mono ?_; rintro e2 w16 ⟨A16, c16, rfl, hf, hb⟩; haveI : Bel _ w16 := ⟨hb⟩; haveI := Fs.of hf; clear hf hb) | (go_at_call 7; (with_reducible refine (RootTerms_any x k n _ A16 c16 _ (tr _ A16)).mono ?_); rintro e3 w17 ⟨A17, c17, A18, c18, U17, he, h1, h2, h3, h4, hb⟩; rw [HQ.out, HR.out, HK.out] at he; rw [HQ.out] at h1; rw [HR.out] at h2; subst he; haveI : Bel _ w17 := ⟨hb⟩; haveI := h1; haveI := h2; haveI := h4; haveI : Aft _ U17 := ⟨h3.h⟩; clear hb) | ((with_reducible refine at_dst (N := 18) rfl ?_); refine ev_box (cs := #[.slice none 0 0]) (t := 26) rfl ?hr18 ?_; (case hr18 => first | (go_simp; done) | (go_simp; rfl)); intro g18 v18 _ _ _ _) | ((with_reducible refine at_dst (N := 19) rfl ?_); refine ev_box (cs := #[.slice none 0 0]) (t := 26) rfl ?hr19 ?_; (case hr19 => first | (go_simp; done) | (go_simp; rfl)); intro g19 v19 _ _ _ _) | (go_at_call 20; refine (eqSurreal_any _ _ _ _ _ _ _ _ _ (tr _ _) (tr _ _)).mono ?_; rintro e6 we ⟨rfl, hb⟩; haveI : Bel _ we := ⟨hb⟩; clear hb) | ((fail_if_success (have _q := w132)); go_at_call 22; rw [← HL.out]; (with_reducible refine (heldSurreal_any y6 _ A6 c6 1 _ _ (tr _ A6) HM.out (by omega) (by omega)).mono ?_); rintro e12 w132 ⟨rfl, hb⟩; rw [HL.out]; haveI : Bel _ w132 := ⟨hb⟩; clear hb) | ((fail_if_success (have _q := w137)); go_at_call 22; rw [← HL2.out]; (with_reducible refine (heldSurreal_any y7 _ A7 c7 _ _ _ (tr _ A7) HM2.out (by omega) (by omega)).mono ?_); rintro e12 w137 ⟨rfl, hb⟩; rw [HL2.out]; haveI : Bel _ w137 := ⟨hb⟩; clear hb))
    go_ret
    exact ⟨rfl, ext _ _⟩
end Go.Proofs.YtonlfnbjbmgegaaGreat
