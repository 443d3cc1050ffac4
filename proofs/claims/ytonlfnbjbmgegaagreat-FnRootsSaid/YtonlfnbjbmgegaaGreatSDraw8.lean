/-
  The draws of RootTerms, PowerOfSurreal and CheckRoot.
-/
import Derived.Test.YtonlfnbjbmgegaaGreatSDraw7
import Derived.Test.YtonlfnbjbmgegaaGreatSRt2
namespace Go.Proofs.YtonlfnbjbmgegaaGreat
open Go.RowKit
open List renaming getElem_toArray → zp1, getElem_cons_zero → zp2, getElem_cons_succ → zp3, setIfInBounds_toArray → zp4, set_cons_zero → zp5, set_cons_succ → zp6
set_option linter.unusedSimpArgs false
set_option linter.unusedVariables false

attribute [local go_sem high] has_cell has_frozen
set_option synthInstance.maxHeartbeats 2000000 in
set_option synthInstance.maxSize 4000 in
set_option maxHeartbeats 3200000 in
set_option maxRecDepth 100000 in
theorem drawRt_any (A : Option Addr) (n c : Nat) (w : World) (hco : Bytes w A n) (hn : n ≤ 1048576) :
    Calls Tryz.prog 6 #[.slice A n c] w fun e w' => ∃ (x : Sur) (B : Option Addr) (d : Nat) (k m : Int), e = .returned (.tuple #[.agg #[.slice B x.len d], .int .i64 k, .int .i64 m]) ∧ SSl (XL w) w' x B d ∧ (1 ≤ k ∧ k ≤ 5) ∧ (-1 ≤ m ∧ m ≤ 13) ∧ Below w.heap.size w w' := by
  go_enter Tryz.func6, Tryz.ntmps6
  go_upto_if 19 with (first | ((with_reducible refine at_dst (N := 2) rfl ?_); refine ev_box (cs := #[.slice none 0 0]) (t := 26) rfl ?hr2 ?_; (case hr2 => first | (go_simp; done) | (go_simp; rfl)); intro g2 v2 _ _ _ _) | (((with_reducible refine at_dst (N := 12) rfl ?_); refine ev_box (cs := #[.slice A n c, .int .i64 0, .int .u64 0]) (t := 51) rfl ?hr12 ?_; (case hr12 => first | (go_simp; done) | (go_simp; rfl)); intro g v12 _ _ _ _); haveI := Cur.start (W := v12) (g := g) hco hn) | ((fail_if_success (have _q := A14)); go_at_call 23; (with_reducible refine (easy_any 1 (by omega) 1 g _ _ rfl (by simp only [cE]; omega)).mono ?_); rintro e14 w14 ⟨x14, A14, c14, rfl, h0, hx14, hl14, hen, h1, h2⟩; have HG14 := Lib.hid (hen.good hl14 (by omega)); simp only [cE] at h2; haveI := h0; haveI := h1; haveI := h2; clear h0 h1 h2 hen) | ((with_reducible refine at_dst (N := 6) rfl ?_); refine ev_box (cs := #[.slice none 0 0]) (t := 26) rfl ?hr6 ?_; (case hr6 => first | (go_simp; done) | (go_simp; rfl)); intro g6 v6 _ _ _ _) | ((fail_if_success (have _q := r17)); go_at_call 24; (with_reducible refine (among_any (fun j => 1 ≤ j ∧ j ≤ 5) _ 8 _ g _ _ (by omega) (by omega) (fun W hW => by haveI := hW; exact ListOk.of (by first | (simp; done) | (simp; omega)) rfl)).mono ?_); rintro e17 w17 ⟨r17, rfl, hp17, h1, h2⟩; haveI := h1; haveI := h2; clear h1 h2) | ((fail_if_success (have _q := r19)); go_at_call 25; refine (one_any _ g _ _ (by omega) (by omega)).mono ?_; rintro e19 w19 ⟨r19, rfl, h1, h2⟩; haveI := h1; haveI := h2; clear h1 h2))
  go_cut [] (fun wx => ∃ (x : Sur) (Ax : Option Addr) (dx : Nat), Has wx g6 (.cells #[.slice Ax x.len dx] 26 (0, 0)) ∧ Tr wx Ax (XV wx (XU (XE g) (XU (XE g2) (XL w)))) x dx ∧ Kp w19 (XU (XE g) (XE g6)) wx ∧ Cur wx g 100000000)
  case first =>
    cases r19
    all_goals go_wp2_with (first | (go_at_call 26; (with_reducible refine (suProduct_any x14 x14 _ _ A14 A14 _ _ _ (tr _ A14) (tr _ A14) HG14.out HG14.out).mono ?_); rintro e23 w23 ⟨A23, c23, he, hf, hb⟩; obtain ⟨z23, b23, G23⟩ := optV2 (prodS x14 x14); rw [G23.hz, G23.hb] at he; rw [G23.hz] at hf; subst he; haveI : Bel _ w23 := ⟨hb⟩; haveI := Fs.of hf; clear hf hb) | ((with_reducible refine at_dst (N := 8) rfl ?_); refine ev_box (cs := #[.slice none 0 0]) (t := 26) rfl ?hr8 ?_; (case hr8 => first | (go_simp; done) | (go_simp; rfl)); intro g8 v8 _ _ _ _))
    all_goals go_meet
    all_goals first
      | exact ⟨z23, A23, c23, inferInstance, Tr.lp (XU (XE g) (XU (XE g2) (XL w))), kp _ _ _, Cur.le inferInstance (by omega)⟩
      | exact ⟨x14, A14, c14, inferInstance, Tr.lp (XU (XE g) (XU (XE g2) (XL w))), kp _ _ _, Cur.le inferInstance (by omega)⟩
  case rest =>
  rename World => wx
  obtain ⟨x, Ax, dx, _, _, _, hcx⟩ := hcut
  haveI := hcx
  go_upto_if 29 with (first | ((fail_if_success (have _q := r29)); go_at_call 25; refine (one_any _ g _ _ (by omega) (by omega)).mono ?_; rintro e29 w29 ⟨r29, rfl, h1, h2⟩; haveI := h1; haveI := h2; clear h1 h2))
  go_cut [] (fun wy => ∃ (x : Sur) (Ax : Option Addr) (dx : Nat), Has wy g6 (.cells #[.slice Ax x.len dx] 26 (0, 0)) ∧ Tr wy Ax (XV wy (XU (XE g) (XU (XE g2) (XL w)))) x dx ∧ Kp w29 (XU (XE g) (XE g6)) wy ∧ Cur wy g 200000000)
  case first =>
    cases r29
    all_goals go_wp2_with (first | ((fail_if_success (have _q := A31)); go_at_call 27; refine (anySurreal_any g _ _ (by omega)).mono ?_; rintro e31 w31 ⟨x31, A31, c31, rfl, hs, hl31, h1, h2⟩; haveI := h1; haveI := h2; haveI := Tr.arg hs; clear hs h1 h2))
    all_goals go_meet
    all_goals first
      | exact ⟨x31, A31, c31, inferInstance, Tr.lp (XU (XE g) (XU (XE g2) (XL w))), kp _ _ _, Cur.le inferInstance (by omega)⟩
      | exact ⟨x, Ax, dx, inferInstance, Tr.lp (XU (XE g) (XU (XE g2) (XL w))), kp _ _ _, Cur.le inferInstance (by omega)⟩
  case rest =>
  rename World => wy
  obtain ⟨y, Ay, dy, _, _, _, hcy⟩ := hcut
  haveI := hcy
  go_upto_region 10 with fail
  refine wp_region_held_drew (S := (fun w' => w'.cell? ⟨g6, 0, none⟩ = some (.slice Ay y.len dy))) (by kernel_rfl) ?hSn1_ (fun hHeld => ?hRn1_)
  case hSn1_ => (exact has1)
  refine wpAnyH_take (i := 0) (v := ?vn1_1) rfl (by kernel_rfl) (by kernel_rfl) (by kernel_rfl) (fun _ _ _ h => h) (Or.inl ⟨by rfl, ?hyn1_1⟩) (by assumption) ?hRn1_1
  case hyn1_1 => (intro w hSw; (try dsimp only at hSw); go_simp; (try with_reducible rfl))
  try simp only [Act.put, zp1, zp2, zp3, zp4, zp5, zp6]
  refine wpAnyH_take (i := 1) (v := ?vn1_2) rfl (by kernel_rfl) (by kernel_rfl) (by kernel_rfl) (fun _ _ _ h => h) (Or.inl ⟨by rfl, ?hyn1_2⟩) (by assumption) ?hRn1_2
  case hyn1_2 => (intro w hSw; (try dsimp only at hSw); go_simp; (try with_reducible rfl))
  try simp only [Act.put, zp1, zp2, zp3, zp4, zp5, zp6]
  refine wpAnyH_take (i := 2) (v := ?vn1_3) rfl (by kernel_rfl) (by kernel_rfl) (by kernel_rfl) (fun _ _ _ h => h) (Or.inl ⟨by rfl, ?hyn1_3⟩) (by assumption) ?hRn1_3
  case hyn1_3 => (intro w hSw; (try dsimp only at hSw); go_simp; (try with_reducible rfl))
  try simp only [Act.put, zp1, zp2, zp3, zp4, zp5, zp6]
  refine wpAnyH_ready (rs := [3]) (by kernel_rfl) (by simp) ?_
  refine AllReadyH.cons rfl (fun K hK => ?_) AllReadyH.nil
  go_simp
  ((go_at_call 28; refine (steps_any g _ _ (by omega)).mono ?_; rintro e35 w35 ⟨n35, rfl, hn35, h1, h2⟩; haveI := h1; haveI := h2; clear h1 h2))
  go_wp2_with fail
  refine hK.out _ _ ?hSn1_4 (fun hHeld => ?hRn1_4)
  case hSn1_4 => ((try dsimp only); exact has1)
  clear hK K
  try simp only [Act.put, zp1, zp2, zp3, zp4, zp5, zp6]
  refine wpAnyH_ready (rs := [4]) (by kernel_rfl) (by simp) ?_
  refine AllReadyH.cons rfl (fun K hK => ?_) AllReadyH.nil
  go_simp
  refine hK.out _ _ ?hSn1_5 (fun hHeld => ?hRn1_5)
  case hSn1_5 => ((try dsimp only); exact has1)
  clear hK K
  try simp only [Act.put, zp1, zp2, zp3, zp4, zp5, zp6]
  refine wpAnyH_take (i := 5) (v := ?vn1_6) rfl (by kernel_rfl) (by kernel_rfl) (by kernel_rfl) (fun _ _ _ h => h) (Or.inl ⟨by rfl, ?hyn1_6⟩) (by assumption) ?hRn1_6
  case hyn1_6 => (intro w hSw; (try dsimp only at hSw); go_simp; (try with_reducible rfl))
  try simp only [Act.put, zp1, zp2, zp3, zp4, zp5, zp6]
  refine wpAnyH_take (i := 6) (v := ?vn1_7) rfl (by kernel_rfl) (by kernel_rfl) (by kernel_rfl) (fun _ _ _ h => h) (Or.inl ⟨by rfl, ?hyn1_7⟩) (by assumption) ?hRn1_7
  case hyn1_7 => (intro w hSw; (try dsimp only at hSw); go_simp; (try with_reducible rfl))
  try simp only [Act.put, zp1, zp2, zp3, zp4, zp5, zp6]
  refine wpAnyH_done (by kernel_rfl) ?_ _
  all_goals
    go_wp2
    refine bodyPost_ret (v := .tuple #[.agg #[.slice Ay y.len dy], .int .i64 r17, .int .i64 n35]) (by simp [results, Tryz.results6, go_sem]) rfl ?_
    exact ⟨y, Ay, dy, r17, n35, rfl, trx (XL w) _ Ay, hp17, hn35, ext w _⟩
set_option synthInstance.maxHeartbeats 2000000 in
set_option synthInstance.maxSize 4000 in
set_option maxHeartbeats 3200000 in
set_option maxRecDepth 100000 in
theorem drawPowS_any (A : Option Addr) (n c : Nat) (w : World) (hco : Bytes w A n) (hn : n ≤ 1048576) :
    Calls Tryz.prog 13 #[.slice A n c] w fun e w' => ∃ (x : Sur) (B : Option Addr) (d : Nat) (m : Int), e = .returned (.tuple #[.agg #[.slice B x.len d], .int .i64 m]) ∧ SSl XN w' x B d ∧ (-1 ≤ m ∧ m ≤ 13) ∧ Below w.heap.size w w' := by
  go_enter Tryz.func13, Tryz.ntmps13
  go_wp2_with (first | ((with_reducible refine at_dst (N := 2) rfl ?_); refine ev_box (cs := #[.slice none 0 0]) (t := 26) rfl ?hr2 ?_; (case hr2 => first | (go_simp; done) | (go_simp; rfl)); intro g2 v2 _ _ _ _) | (((with_reducible refine at_dst (N := 7) rfl ?_); refine ev_box (cs := #[.slice A n c, .int .i64 0, .int .u64 0]) (t := 51) rfl ?hr7 ?_; (case hr7 => first | (go_simp; done) | (go_simp; rfl)); intro g v7 _ _ _ _); haveI := Cur.start (W := v7) (g := g) hco hn) | ((fail_if_success (have _q := r9)); go_at_call 25; refine (one_any _ g _ _ (by omega) (by omega)).mono ?_; rintro e9 w9 ⟨r9, rfl, h1, h2⟩; haveI := h1; haveI := h2; clear h1 h2) | ((fail_if_success (have _q := A11)); go_at_call 27; refine (anySurreal_any g _ _ (by omega)).mono ?_; rintro e11 w11 ⟨x11, A11, c11, rfl, hs, hl11, h1, h2⟩; haveI := h1; haveI := h2; haveI := Tr.arg hs; clear hs h1 h2) | (go_at_call 28; refine (steps_any g _ _ (by omega)).mono ?_; rintro e13 w13 ⟨n13, rfl, hn13, h1, h2⟩; haveI := h1; haveI := h2; clear h1 h2) | ((fail_if_success (have _q := A15)); go_at_call 23; (with_reducible refine (easy_any 1 (by omega) 1 g _ _ rfl (by simp only [cE]; omega)).mono ?_); rintro e15 w15 ⟨x15, A15, c15, rfl, h0, hx15, hl15, hen, h1, h2⟩; have HG15 := Lib.hid (hen.good hl15 (by omega)); simp only [cE] at h2; haveI := h0; haveI := h1; haveI := h2; clear h0 h1 h2 hen) | (go_at_call 28; refine (steps_any g _ _ (by omega)).mono ?_; rintro e17 w17 ⟨n17, rfl, hn17, h1, h2⟩; haveI := h1; haveI := h2; clear h1 h2))
  all_goals first
    | (refine bodyPost_ret (v := .tuple #[.agg #[.slice A11 x11.len c11], .int .i64 n13]) (by simp [results, Tryz.results13, go_sem]) rfl ?_; exact ⟨x11, A11, c11, n13, rfl, trx XN _ A11, hn13, ext w _⟩)
    | (refine bodyPost_ret (v := .tuple #[.agg #[.slice A15 x15.len c15], .int .i64 n13]) (by simp [results, Tryz.results13, go_sem]) rfl ?_; exact ⟨x15, A15, c15, n13, rfl, trx XN _ A15, hn13, ext w _⟩)

set_option synthInstance.maxHeartbeats 2000000 in
set_option synthInstance.maxSize 4000 in
set_option maxHeartbeats 3200000 in
set_option maxRecDepth 100000 in
theorem drawChkR_any (A : Option Addr) (n c : Nat) (w : World) (hco : Bytes w A n) (hn : n ≤ 1048576) :
    Calls Tryz.prog 16 #[.slice A n c] w fun e w' => ∃ (x s r : Sur) (B1 B3 B4 : Option Addr) (d1 d3 d4 : Nat) (k : Int), e = .returned (.tuple #[.agg #[.slice B1 x.len d1], .int .i64 k, .agg #[.slice B3 s.len d3], .agg #[.slice B4 r.len d4]]) ∧ SSl XN w' x B1 d1 ∧ SSl XN w' s B3 d3 ∧ SSl XN w' r B4 d4 ∧ Below w.heap.size w w' := by
  go_enter Tryz.func16, Tryz.ntmps16
  go_upto_region 4 with (first | ((with_reducible refine at_dst (N := 2) rfl ?_); refine ev_box (cs := #[.slice none 0 0]) (t := 26) rfl ?hr2 ?_; (case hr2 => first | (go_simp; done) | (go_simp; rfl)); intro g2 v2 _ _ _ _) | ((with_reducible refine at_dst (N := 4) rfl ?_); refine ev_box (cs := #[.slice none 0 0]) (t := 26) rfl ?hr4 ?_; (case hr4 => first | (go_simp; done) | (go_simp; rfl)); intro g4 v4 _ _ _ _) | ((with_reducible refine at_dst (N := 5) rfl ?_); refine ev_box (cs := #[.slice none 0 0]) (t := 26) rfl ?hr5 ?_; (case hr5 => first | (go_simp; done) | (go_simp; rfl)); intro g5 v5 _ _ _ _) | (((with_reducible refine at_dst (N := 14) rfl ?_); refine ev_box (cs := #[.slice A n c, .int .i64 0, .int .u64 0]) (t := 51) rfl ?hr14 ?_; (case hr14 => first | (go_simp; done) | (go_simp; rfl)); intro g v14 _ _ _ _); haveI := Cur.start (W := v14) (g := g) hco hn) | (go_at_call 6; (with_reducible refine (drawRt_any A n c _ (hco.below (ext w _)) hn).mono ?_); rintro e17 w17 ⟨x17, A17, c17, k17, m17, rfl, hx, hk17, hm17, hb⟩; haveI : Bel _ w17 := ⟨hb⟩; haveI := Tr.arg hx; clear hx hb) | ((with_reducible refine at_dst (N := 7) rfl ?_); refine ev_box (cs := #[.slice none 0 0]) (t := 26) rfl ?hr7 ?_; (case hr7 => first | (go_simp; done) | (go_simp; rfl)); intro g7 v7 _ _ _ _) | ((fail_if_success (have _q := A22)); go_at_call 23; (with_reducible refine (easy_any 0 (by omega) 0 g _ _ rfl (by simp only [cE]; omega)).mono ?_); rintro e22 w22 ⟨x22, A22, c22, rfl, h0, hx22, hl22, hen, h1, h2⟩; have HG22 := Lib.hid (hen.good hl22 (by omega)); simp only [cE] at h2; haveI := h0; haveI := h1; haveI := h2; clear h0 h1 h2 hen) | ((fail_if_success (have _q := A24)); go_at_call 23; (with_reducible refine (easy_any 0 (by omega) 0 g _ _ rfl (by simp only [cE]; omega)).mono ?_); rintro e24 w24 ⟨x24, A24, c24, rfl, h0, hx24, hl24, hen, h1, h2⟩; have HG24 := Lib.hid (hen.good hl24 (by omega)); simp only [cE] at h2; haveI := h0; haveI := h1; haveI := h2; clear h0 h1 h2 hen) | ((with_reducible refine at_dst (N := 10) rfl ?_); refine ev_box (cs := #[.slice none 0 0]) (t := 26) rfl ?hr10 ?_; (case hr10 => first | (go_simp; done) | (go_simp; rfl)); intro g10 v10 _ _ _ _) | ((with_reducible refine at_dst (N := 11) rfl ?_); refine ev_box (cs := #[.slice none 0 0]) (t := 26) rfl ?hr11 ?_; (case hr11 => first | (go_simp; done) | (go_simp; rfl)); intro g11 v11 _ _ _ _))
  go_cut [38] (fun s38 wx => ∃ b : Bool, s38 = .bool b ∧ Hid (b = true → sGood x17 = true ∧ 2 ≤ k17 ∧ k17 ≤ 4 ∧ 0 ≤ m17 ∧ m17 ≤ 12) ∧ Kp (World.setCell (World.setCell v11 ⟨g10, 0, none⟩ (.slice A22 x22.len c22)) ⟨g11, 0, none⟩ (.slice A24 x24.len c24)) (XE g) wx)
  case first => as_aux_lemma =>
    cases gx : sGood x17
    · go_wp2_with (first | ((fail_if_success (have _q := r26)); go_at_call 25; refine (one_any _ g _ _ (by omega) (by omega)).mono ?_; rintro e26 w26 ⟨r26, rfl, h1, h2⟩; haveI := h1; haveI := h2; clear h1 h2) | (go_at_call 40; (with_reducible refine (suGood_any x17 _ A17 _ _ (tr _ A17)).mono ?_); rintro e29 w29 ⟨he, hb⟩; rw [gx] at he; subst he; haveI : Bel _ w29 := ⟨hb⟩; clear hb) | (go_at_call 41; refine (seDegree_any _ _).mono ?_; rintro e33 w33 ⟨he, rfl⟩; rw [gk] at he; subst he) | (go_at_call 42; refine (seSteps_any _ _).mono ?_; rintro e37 w37 ⟨he, rfl⟩; rw [gm] at he; subst he))
      all_goals go_meet
      all_goals exact ⟨false, rfl, (fun h => by cases h), kp _ _ _⟩
    cases gk : inB k17 2 4
    · go_wp2_with (first | ((fail_if_success (have _q := r26)); go_at_call 25; refine (one_any _ g _ _ (by omega) (by omega)).mono ?_; rintro e26 w26 ⟨r26, rfl, h1, h2⟩; haveI := h1; haveI := h2; clear h1 h2) | (go_at_call 40; (with_reducible refine (suGood_any x17 _ A17 _ _ (tr _ A17)).mono ?_); rintro e29 w29 ⟨he, hb⟩; rw [gx] at he; subst he; haveI : Bel _ w29 := ⟨hb⟩; clear hb) | (go_at_call 41; refine (seDegree_any _ _).mono ?_; rintro e33 w33 ⟨he, rfl⟩; rw [gk] at he; subst he) | (go_at_call 42; refine (seSteps_any _ _).mono ?_; rintro e37 w37 ⟨he, rfl⟩; rw [gm] at he; subst he))
      all_goals go_meet
      all_goals exact ⟨false, rfl, (fun h => by cases h), kp _ _ _⟩
    cases gm : stepsB m17
    · go_wp2_with (first | ((fail_if_success (have _q := r26)); go_at_call 25; refine (one_any _ g _ _ (by omega) (by omega)).mono ?_; rintro e26 w26 ⟨r26, rfl, h1, h2⟩; haveI := h1; haveI := h2; clear h1 h2) | (go_at_call 40; (with_reducible refine (suGood_any x17 _ A17 _ _ (tr _ A17)).mono ?_); rintro e29 w29 ⟨he, hb⟩; rw [gx] at he; subst he; haveI : Bel _ w29 := ⟨hb⟩; clear hb) | (go_at_call 41; refine (seDegree_any _ _).mono ?_; rintro e33 w33 ⟨he, rfl⟩; rw [gk] at he; subst he) | (go_at_call 42; refine (seSteps_any _ _).mono ?_; rintro e37 w37 ⟨he, rfl⟩; rw [gm] at he; subst he))
      all_goals go_meet
      all_goals exact ⟨false, rfl, (fun h => by cases h), kp _ _ _⟩
    have hk : 2 ≤ k17 ∧ k17 ≤ 4 := by simpa [inB] using gk
    have hm := stepsB_true gm
    have HGK : Hid (sGood x17 = true ∧ 2 ≤ k17 ∧ k17 ≤ 4 ∧ 0 ≤ m17 ∧ m17 ≤ 12) := ⟨gx, hk.1, hk.2, hm.1, hm.2⟩
    clear hk hm
    go_wp2_with (first | ((fail_if_success (have _q := r26)); go_at_call 25; refine (one_any _ g _ _ (by omega) (by omega)).mono ?_; rintro e26 w26 ⟨r26, rfl, h1, h2⟩; haveI := h1; haveI := h2; clear h1 h2) | (go_at_call 40; (with_reducible refine (suGood_any x17 _ A17 _ _ (tr _ A17)).mono ?_); rintro e29 w29 ⟨he, hb⟩; rw [gx] at he; subst he; haveI : Bel _ w29 := ⟨hb⟩; clear hb) | (go_at_call 41; refine (seDegree_any _ _).mono ?_; rintro e33 w33 ⟨he, rfl⟩; rw [gk] at he; subst he) | (go_at_call 42; refine (seSteps_any _ _).mono ?_; rintro e37 w37 ⟨he, rfl⟩; rw [gm] at he; subst he))
    all_goals go_meet
    all_goals exact ⟨_, rfl, (fun _ => HGK.out), kp _ _ _⟩
  case rest =>
  rename World => wx
  obtain ⟨b, rfl, HB, _⟩ := hcut
  go_upto_if 38 with fail
  go_cut [] (fun wy => ∃ (q r : Sur) (Aq Ar : Option Addr) (dq dr : Nat), Has wy g10 (.cells #[.slice Aq q.len dq] 26 (0, 0)) ∧ Has wy g11 (.cells #[.slice Ar r.len dr] 26 (0, 0)) ∧ Tr wy Aq (XV wy (XU (XE g) (XU (XE g2) (XU (XE g4) (XE g5))))) q dq ∧ Tr wy Ar (XV wy (XU (XE g) (XU (XE g2) (XU (XE g4) (XE g5))))) r dr ∧ Kp wx (XU (XE g) (XU (XE g10) (XE g11))) wy)
  case first => as_aux_lemma =>
    cases b
    · go_wp2
      go_meet
      exact ⟨x22, x24, A22, A24, c22, c24, inferInstance, inferInstance, Tr.lp (XU (XE g) (XU (XE g2) (XU (XE g4) (XE g5)))), Tr.lp (XU (XE g) (XU (XE g2) (XU (XE g4) (XE g5)))), kp _ _ _⟩
    · have HB' := HB.out rfl
      obtain ⟨KK, rfl⟩ : ∃ KK : Nat, k17 = KK := ⟨k17.toNat, by omega⟩
      obtain ⟨⟨bd, Q, R⟩, hV⟩ : ∃ V, srR x17 KK m17.toNat = V := ⟨_, rfl⟩
      have HV := Lib.hid hV
      have HGK : Hid (sGood x17 = true ∧ 2 ≤ KK ∧ KK ≤ 4 ∧ 0 ≤ m17 ∧ m17 ≤ 12) := ⟨HB'.1, by omega, by omega, HB'.2.2.2.1, HB'.2.2.2.2⟩
      clear HB' hV
      go_wp2_with (first | (go_at_call 43; (with_reducible refine (seRoots_any x17 KK m17 (XU (XE g10) (XU (XE g11) (XU (XE g) (XU (XE g2) (XU (XE g4) (XE g5)))))) A17 c17 _ (xlt (XU (XE g10) (XU (XE g11) (XU (XE g) (XU (XE g2) (XU (XE g4) (XE g5)))))) _) (trx (XU (XE g10) (XU (XE g11) (XU (XE g) (XU (XE g2) (XU (XE g4) (XE g5)))))) _ A17) HGK.out.1 HGK.out.2.1 HGK.out.2.2.1 HGK.out.2.2.2.1 HGK.out.2.2.2.2).mono ?_); rintro e43 w43 ⟨A1, c1, A2, c2, he, hs, hs', _, _, hb⟩; rw [HV.out] at he hs hs'; dsimp only at he hs hs'; subst he; haveI : Bel _ w43 := ⟨hb⟩; haveI := Tr.arg hs; haveI := Tr.arg hs'; clear hs hs' hb))
      go_meet
      exact ⟨Q, R, A1, A2, c1, c2, inferInstance, inferInstance, Tr.lp (XU (XE g) (XU (XE g2) (XU (XE g4) (XE g5)))), Tr.lp (XU (XE g) (XU (XE g2) (XU (XE g4) (XE g5)))), kp _ _ _⟩
  case rest =>
  rename World => wy
  obtain ⟨q, r, Aq, Ar, dq, dr, _, _, _, _, _⟩ := hcut
  go_upto_region 6 with fail
  refine wp_region_held_drew (S := (fun w' => w'.cell? ⟨g7, 0, none⟩ = some (.slice A17 x17.len c17) ∧ w'.cell? ⟨g10, 0, none⟩ = some (.slice Aq q.len dq) ∧ w'.cell? ⟨g11, 0, none⟩ = some (.slice Ar r.len dr))) (by kernel_rfl) ?hSn2_ (fun hHeld => ?hRn2_)
  case hSn2_ => (exact ⟨has1, has1, has1⟩)
  refine wpAnyH_take (i := 0) (v := ?vn2_1) rfl (by kernel_rfl) (by kernel_rfl) (by kernel_rfl) (fun _ _ _ h => h) (Or.inl ⟨by rfl, ?hyn2_1⟩) (by assumption) ?hRn2_1
  case hyn2_1 => (intro w hSw; (try dsimp only at hSw); go_simp; (try with_reducible rfl))
  try simp only [Act.put, zp1, zp2, zp3, zp4, zp5, zp6]
  refine wpAnyH_take (i := 1) (v := ?vn2_2) rfl (by kernel_rfl) (by kernel_rfl) (by kernel_rfl) (fun _ _ _ h => h) (Or.inl ⟨by rfl, ?hyn2_2⟩) (by assumption) ?hRn2_2
  case hyn2_2 => (intro w hSw; (try dsimp only at hSw); go_simp; (try with_reducible rfl))
  try simp only [Act.put, zp1, zp2, zp3, zp4, zp5, zp6]
  refine wpAnyH_take (i := 2) (v := ?vn2_3) rfl (by kernel_rfl) (by kernel_rfl) (by kernel_rfl) (fun _ _ _ h => h) (Or.inl ⟨by rfl, ?hyn2_3⟩) (by assumption) ?hRn2_3
  case hyn2_3 => (intro w hSw; (try dsimp only at hSw); go_simp; (try with_reducible rfl))
  try simp only [Act.put, zp1, zp2, zp3, zp4, zp5, zp6]
  refine wpAnyH_take (i := 3) (v := ?vn2_4) rfl (by kernel_rfl) (by kernel_rfl) (by kernel_rfl) (fun _ _ _ h => h) (Or.inl ⟨by rfl, ?hyn2_4⟩) (by assumption) ?hRn2_4
  case hyn2_4 => (intro w hSw; (try dsimp only at hSw); go_simp; (try with_reducible rfl))
  try simp only [Act.put, zp1, zp2, zp3, zp4, zp5, zp6]
  refine wpAnyH_ready (rs := [4]) (by kernel_rfl) (by simp) ?_
  refine AllReadyH.cons rfl (fun K hK => ?_) AllReadyH.nil
  go_simp
  refine hK.out _ _ ?hSn2_5 (fun hHeld => ?hRn2_5)
  case hSn2_5 => ((try dsimp only); exact ⟨has1, has1, has1⟩)
  clear hK K
  try simp only [Act.put, zp1, zp2, zp3, zp4, zp5, zp6]
  refine wpAnyH_take (i := 5) (v := ?vn2_6) rfl (by kernel_rfl) (by kernel_rfl) (by kernel_rfl) (fun _ _ _ h => h) (Or.inl ⟨by rfl, ?hyn2_6⟩) (by assumption) ?hRn2_6
  case hyn2_6 => (intro w hSw; (try dsimp only at hSw); go_simp; (try with_reducible rfl))
  try simp only [Act.put, zp1, zp2, zp3, zp4, zp5, zp6]
  refine wpAnyH_ready (rs := [6]) (by kernel_rfl) (by simp) ?_
  refine AllReadyH.cons rfl (fun K hK => ?_) AllReadyH.nil
  go_simp
  refine hK.out _ _ ?hSn2_7 (fun hHeld => ?hRn2_7)
  case hSn2_7 => ((try dsimp only); exact ⟨has1, has1, has1⟩)
  clear hK K
  try simp only [Act.put, zp1, zp2, zp3, zp4, zp5, zp6]
  refine wpAnyH_ready (rs := [7]) (by kernel_rfl) (by simp) ?_
  refine AllReadyH.cons rfl (fun K hK => ?_) AllReadyH.nil
  go_simp
  refine hK.out _ _ ?hSn2_8 (fun hHeld => ?hRn2_8)
  case hSn2_8 => ((try dsimp only); exact ⟨has1, has1, has1⟩)
  clear hK K
  try simp only [Act.put, zp1, zp2, zp3, zp4, zp5, zp6]
  refine wpAnyH_done (by kernel_rfl) ?_ _
  all_goals
    go_wp2
    refine bodyPost_ret (v := .tuple #[.agg #[.slice A17 x17.len c17], .int .i64 k17, .agg #[.slice Aq q.len dq], .agg #[.slice Ar r.len dr]]) (by simp [results, Tryz.results16, go_sem]) rfl ?_
    exact ⟨x17, q, r, A17, Aq, Ar, c17, dq, dr, k17, rfl, trx XN _ A17, trx XN _ Aq, trx XN _ Ar, ext w _⟩
end Go.Proofs.YtonlfnbjbmgegaaGreat
