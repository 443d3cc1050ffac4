/-
  The draws of QuotientTerms and CheckQuotient.
-/
import Derived.Test.YtphabopnbcgodaaGreatE4
import Derived.Test.YtphabopnbcgodaaGreatSQuo
namespace Go.Proofs.YtphabopnbcgodaaGreat
open Go.RowKit
open List renaming getElem_toArray → zp1, getElem_cons_zero → zp2, getElem_cons_succ → zp3, setIfInBounds_toArray → zp4, set_cons_zero → zp5, set_cons_succ → zp6
set_option linter.unusedSimpArgs false
set_option linter.unusedVariables false

attribute [local go_sem high] has_cell has_frozen
structure OptV2 (o : Option Sur) (z : Sur) (b : Bool) : Prop where
  hz : o.getD .nil = z
  hb : o.isSome = b
theorem optV2 (o : Option Sur) : ∃ z b, OptV2 o z b := ⟨_, _, rfl, rfl⟩
set_option synthInstance.maxHeartbeats 2000000 in
set_option synthInstance.maxSize 4000 in
set_option maxHeartbeats 3200000 in
set_option maxRecDepth 100000 in
theorem drawQuo_any (A : Option Addr) (n c : Nat) (w : World) (hco : Bytes w A n) (hn : n ≤ 1048576) :
    Calls Tryz.prog 18 #[.slice A n c] w fun e w' => ∃ (x y : Sur) (B B' : Option Addr) (d d' : Nat) (m : Int), e = .returned (.tuple #[.agg #[.slice B x.len d], .agg #[.slice B' y.len d'], .int .i64 m]) ∧ SSl XN w' x B d ∧ SSl XN w' y B' d' ∧ (-1 ≤ m ∧ m ≤ 13) ∧ Below w.heap.size w w' := by
  go_enter Tryz.func18, Tryz.ntmps18
  go_upto_block 0 with (first | ((with_reducible refine at_dst (N := 2) rfl ?_); refine ev_box (cs := #[.slice none 0 0]) (t := 26) rfl ?hr2 ?_; (case hr2 => first | (go_simp; done) | (go_simp; rfl)); intro g2 v2 _ _ _ _) | ((with_reducible refine at_dst (N := 3) rfl ?_); refine ev_box (cs := #[.slice none 0 0]) (t := 26) rfl ?hr3 ?_; (case hr3 => first | (go_simp; done) | (go_simp; rfl)); intro g3 v3 _ _ _ _) | (((with_reducible refine at_dst (N := 12) rfl ?_); refine ev_box (cs := #[.slice A n c, .int .i64 0, .int .u64 0]) (t := 66) rfl ?hr12 ?_; (case hr12 => first | (go_simp; done) | (go_simp; rfl)); intro g v12 _ _ _ _); haveI := Cur.start (W := v12) (g := g) hco hn) | ((fail_if_success (have _q := A14)); go_at_call 83; (with_reducible refine (easy_any 1 (by omega) 1 g _ _ rfl (by simp only [cE]; omega)).mono ?_); rintro e14 w14 ⟨x14, A14, c14, rfl, h0, hx14, hl14, hen, h1, h2⟩; have HG14 := Lib.hid (hen.good hl14 (by omega)); simp only [cE] at h2; haveI := h0; haveI := h1; haveI := h2; clear h0 h1 h2 hen) | ((fail_if_success (have _q := A16)); go_at_call 83; (with_reducible refine (easy_any 1 (by omega) 1 g _ _ rfl (by simp only [cE]; omega)).mono ?_); rintro e16 w16 ⟨x16, A16, c16, rfl, h0, hx16, hl16, hen, h1, h2⟩; have HG16 := Lib.hid (hen.good hl16 (by omega)); simp only [cE] at h2; haveI := h0; haveI := h1; haveI := h2; clear h0 h1 h2 hen) | ((with_reducible refine at_dst (N := 6) rfl ?_); refine ev_box (cs := #[.slice none 0 0]) (t := 26) rfl ?hr6 ?_; (case hr6 => first | (go_simp; done) | (go_simp; rfl)); intro g6 v6 _ _ _ _) | ((with_reducible refine at_dst (N := 7) rfl ?_); refine ev_box (cs := #[.slice none 0 0]) (t := 26) rfl ?hr7 ?_; (case hr7 => first | (go_simp; done) | (go_simp; rfl)); intro g7 v7 _ _ _ _))
  go_cut [] (fun wx => ∃ (x y : Sur) (Ax Ay : Option Addr) (dx dy : Nat), Has wx g6 (.cells #[.slice Ax x.len dx] 26 (0, 0)) ∧ Has wx g7 (.cells #[.slice Ay y.len dy] 26 (0, 0)) ∧ Tr wx Ax (XV wx (XU (XE g) (XU (XE g2) (XE g3)))) x dx ∧ Tr wx Ay (XV wx (XU (XE g) (XU (XE g2) (XE g3)))) y dy ∧ Kp v7 (XU (XE g) (XU (XE g6) (XE g7))) wx ∧ Cur wx g 100000000)
  case first =>
    go_wp2_with (first | ((fail_if_success (have _q := r19)); go_at_call 84; refine (one_any _ g _ _ (by omega) (by omega)).mono ?_; rintro e19 w19 ⟨r19, rfl, h1, h2⟩; haveI := h1; haveI := h2; clear h1 h2) | (go_at_call 85; (with_reducible refine (suProduct_any x14 x16 _ _ A14 A16 _ _ _ (tr _ A14) (tr _ A16) HG14.out HG16.out).mono ?_); rintro e23 w23 ⟨A23, c23, he, hf, hb⟩; obtain ⟨z23, b23, G23⟩ := optV2 (prodS x14 x16); rw [G23.hz, G23.hb] at he; rw [G23.hz] at hf; subst he; haveI : Bel _ w23 := ⟨hb⟩; haveI := Fs.of hf; clear hf hb) | ((with_reducible refine at_dst (N := 8) rfl ?_); refine ev_box (cs := #[.slice none 0 0]) (t := 26) rfl ?hr8 ?_; (case hr8 => first | (go_simp; done) | (go_simp; rfl)); intro g8 v8 _ _ _ _) | ((fail_if_success (have _q := r30)); go_at_call 84; refine (one_any _ g _ _ (by omega) (by omega)).mono ?_; rintro e30 w30 ⟨r30, rfl, h1, h2⟩; haveI := h1; haveI := h2; clear h1 h2) | ((fail_if_success (have _q := A32)); go_at_call 86; refine (anySurreal_any g _ _ (by omega)).mono ?_; rintro e32 w32 ⟨x32, A32, c32, rfl, hs, hl32, h1, h2⟩; haveI := h1; haveI := h2; haveI := Tr.arg hs; clear hs h1 h2) | ((fail_if_success (have _q := r35)); go_at_call 84; refine (one_any _ g _ _ (by omega) (by omega)).mono ?_; rintro e35 w35 ⟨r35, rfl, h1, h2⟩; haveI := h1; haveI := h2; clear h1 h2) | ((fail_if_success (have _q := A37)); go_at_call 86; refine (anySurreal_any g _ _ (by omega)).mono ?_; rintro e37 w37 ⟨x37, A37, c37, rfl, hs, hl37, h1, h2⟩; haveI := h1; haveI := h2; haveI := Tr.arg hs; clear hs h1 h2))
    all_goals go_meet
    all_goals first
      | exact ⟨z23, x16, A23, A16, c23, c16, inferInstance, inferInstance, Tr.lp (XU (XE g) (XU (XE g2) (XE g3))), Tr.lp (XU (XE g) (XU (XE g2) (XE g3))), kp _ _ _, Cur.le inferInstance (by omega)⟩
      | exact ⟨x32, x16, A32, A16, c32, c16, inferInstance, inferInstance, Tr.lp (XU (XE g) (XU (XE g2) (XE g3))), Tr.lp (XU (XE g) (XU (XE g2) (XE g3))), kp _ _ _, Cur.le inferInstance (by omega)⟩
      | exact ⟨x14, x32, A14, A32, c14, c32, inferInstance, inferInstance, Tr.lp (XU (XE g) (XU (XE g2) (XE g3))), Tr.lp (XU (XE g) (XU (XE g2) (XE g3))), kp _ _ _, Cur.le inferInstance (by omega)⟩
      | exact ⟨x14, x16, A14, A16, c14, c16, inferInstance, inferInstance, Tr.lp (XU (XE g) (XU (XE g2) (XE g3))), Tr.lp (XU (XE g) (XU (XE g2) (XE g3))), kp _ _ _, Cur.le inferInstance (by omega)⟩
  case rest =>
  rename World => wx
  obtain ⟨x, y, Ax, Ay, dx, dy, _, _, _, _, _, hcx⟩ := hcut
  haveI := hcx
  go_upto_region 11 with fail
  refine wp_region_held_drew (S := (fun w' => w'.cell? ⟨g6, 0, none⟩ = some (.slice Ax x.len dx) ∧ w'.cell? ⟨g7, 0, none⟩ = some (.slice Ay y.len dy))) (by kernel_rfl) ?hSn1_ (fun hHeld => ?hRn1_)
  case hSn1_ => (exact ⟨has1, has1⟩)
  refine wpAnyH_take (i := 0) (v := ?vn1_1) rfl (by kernel_rfl) (by kernel_rfl) (by kernel_rfl) (fun _ _ _ h => h) (Or.inl ⟨by rfl, ?hyn1_1⟩) (by assumption) ?hRn1_1
  case hyn1_1 => (intro w hSw; (try dsimp only at hSw); go_simp; (try with_reducible rfl))
  try simp only [Act.put, zp1, zp2, zp3, zp4, zp5, zp6]
  refine wpAnyH_take (i := 1) (v := ?vn1_2) rfl (by kernel_rfl) (by kernel_rfl) (by kernel_rfl) (fun _ _ _ h => h) (Or.inl ⟨by rfl, ?hyn1_2⟩) (by assumption) ?hRn1_2
  case hyn1_2 => (intro w hSw; (try dsimp only at hSw); go_simp; (try with_reducible rfl))
  try simp only [Act.put, zp1, zp2, zp3, zp4, zp5, zp6]
  refine wpAnyH_take (i := 2) (v := ?vn1_3) rfl (by kernel_rfl) (by kernel_rfl) (by kernel_rfl) (fun _ _ _ h => h) (Or.inl ⟨by rfl, ?hyn1_3⟩) (by assumption) ?hRn1_3
  case hyn1_3 => (intro w hSw; (try dsimp only at hSw); go_simp; (try with_reducible rfl))
  try simp only [Act.put, zp1, zp2, zp3, zp4, zp5, zp6]
  refine wpAnyH_ready (rs := [3]) (by kernel_rfl) (by simp) ?_
  refine AllReadyH.cons rfl (fun K hK => ?_) AllReadyH.nil
  go_simp
  ((go_at_call 46; refine (steps_any g _ _ (by omega)).mono ?_; rintro e41 w41 ⟨n41, rfl, hn41, h1, h2⟩; haveI := h1; haveI := h2; clear h1 h2))
  go_wp2_with fail
  refine hK.out _ _ ?hSn1_4 (fun hHeld => ?hRn1_4)
  case hSn1_4 => ((try dsimp only); exact ⟨has1, has1⟩)
  clear hK K
  try simp only [Act.put, zp1, zp2, zp3, zp4, zp5, zp6]
  refine wpAnyH_ready (rs := [4]) (by kernel_rfl) (by simp) ?_
  refine AllReadyH.cons rfl (fun K hK => ?_) AllReadyH.nil
  go_simp
  refine hK.out _ _ ?hSn1_5 (fun hHeld => ?hRn1_5)
  case hSn1_5 => ((try dsimp only); exact ⟨has1, has1⟩)
  clear hK K
  try simp only [Act.put, zp1, zp2, zp3, zp4, zp5, zp6]
  refine wpAnyH_ready (rs := [5]) (by kernel_rfl) (by simp) ?_
  refine AllReadyH.cons rfl (fun K hK => ?_) AllReadyH.nil
  go_simp
  refine hK.out _ _ ?hSn1_6 (fun hHeld => ?hRn1_6)
  case hSn1_6 => ((try dsimp only); exact ⟨has1, has1⟩)
  clear hK K
  try simp only [Act.put, zp1, zp2, zp3, zp4, zp5, zp6]
  refine wpAnyH_take (i := 6) (v := ?vn1_7) rfl (by kernel_rfl) (by kernel_rfl) (by kernel_rfl) (fun _ _ _ h => h) (Or.inl ⟨by rfl, ?hyn1_7⟩) (by assumption) ?hRn1_7
  case hyn1_7 => (intro w hSw; (try dsimp only at hSw); go_simp; (try with_reducible rfl))
  try simp only [Act.put, zp1, zp2, zp3, zp4, zp5, zp6]
  refine wpAnyH_done (by kernel_rfl) ?_ _
  all_goals
    go_wp2
    refine bodyPost_ret (v := .tuple #[.agg #[.slice Ax x.len dx], .agg #[.slice Ay y.len dy], .int .i64 n41]) (by simp [results, Tryz.results18, go_sem]) rfl ?_
    exact ⟨x, y, Ax, Ay, dx, dy, n41, rfl, trx XN _ Ax, trx XN _ Ay, hn41, ext w _⟩

theorem surG (x : Sur) : ∃ z, Hid (x = z) := ⟨x, rfl⟩
theorem boolG2 (b : Bool) : ∃ c, Hid (b = c) := ⟨b, rfl⟩
set_option synthInstance.maxHeartbeats 2000000 in
set_option synthInstance.maxSize 4000 in
set_option maxHeartbeats 3200000 in
set_option maxRecDepth 100000 in
theorem drawChk_any (A : Option Addr) (n c : Nat) (w : World) (hco : Bytes w A n) (hn : n ≤ 1048576) :
    Calls Tryz.prog 25 #[.slice A n c] w fun e w' => ∃ (x y q r : Sur) (B1 B2 B3 B4 : Option Addr) (d1 d2 d3 d4 : Nat), e = .returned (.tuple #[.agg #[.slice B1 x.len d1], .agg #[.slice B2 y.len d2], .agg #[.slice B3 q.len d3], .agg #[.slice B4 r.len d4]]) ∧ SSl XN w' x B1 d1 ∧ SSl XN w' y B2 d2 ∧ SSl XN w' q B3 d3 ∧ SSl XN w' r B4 d4 ∧ Below w.heap.size w w' := by
  go_enter Tryz.func25, Tryz.ntmps25
  go_upto_region 4 with (first | ((with_reducible refine at_dst (N := 2) rfl ?_); refine ev_box (cs := #[.slice none 0 0]) (t := 26) rfl ?hr2 ?_; (case hr2 => first | (go_simp; done) | (go_simp; rfl)); intro g2 v2 _ _ _ _) | ((with_reducible refine at_dst (N := 3) rfl ?_); refine ev_box (cs := #[.slice none 0 0]) (t := 26) rfl ?hr3 ?_; (case hr3 => first | (go_simp; done) | (go_simp; rfl)); intro g3 v3 _ _ _ _) | ((with_reducible refine at_dst (N := 4) rfl ?_); refine ev_box (cs := #[.slice none 0 0]) (t := 26) rfl ?hr4 ?_; (case hr4 => first | (go_simp; done) | (go_simp; rfl)); intro g4 v4 _ _ _ _) | ((with_reducible refine at_dst (N := 5) rfl ?_); refine ev_box (cs := #[.slice none 0 0]) (t := 26) rfl ?hr5 ?_; (case hr5 => first | (go_simp; done) | (go_simp; rfl)); intro g5 v5 _ _ _ _) | (((with_reducible refine at_dst (N := 13) rfl ?_); refine ev_box (cs := #[.slice A n c, .int .i64 0, .int .u64 0]) (t := 66) rfl ?hr13 ?_; (case hr13 => first | (go_simp; done) | (go_simp; rfl)); intro g v13 _ _ _ _); haveI := Cur.start (W := v13) (g := g) hco hn) | ((fail_if_success (have _q := A15)); go_at_call 83; (with_reducible refine (easy_any 1 (by omega) 1 g _ _ rfl (by simp only [cE]; omega)).mono ?_); rintro e15 w15 ⟨x15, A15, c15, rfl, h0, hx15, hl15, hen, h1, h2⟩; have HG15 := Lib.hid (hen.good hl15 (by omega)); simp only [cE] at h2; haveI := h0; haveI := h1; haveI := h2; clear h0 h1 h2 hen) | ((fail_if_success (have _q := A17)); go_at_call 83; (with_reducible refine (easy_any 1 (by omega) 1 g _ _ rfl (by simp only [cE]; omega)).mono ?_); rintro e17 w17 ⟨x17, A17, c17, rfl, h0, hx17, hl17, hen, h1, h2⟩; have HG17 := Lib.hid (hen.good hl17 (by omega)); simp only [cE] at h2; haveI := h0; haveI := h1; haveI := h2; clear h0 h1 h2 hen) | ((with_reducible refine at_dst (N := 7) rfl ?_); refine ev_box (cs := #[.slice none 0 0]) (t := 26) rfl ?hr7 ?_; (case hr7 => first | (go_simp; done) | (go_simp; rfl)); intro g7 v7 _ _ _ _) | ((with_reducible refine at_dst (N := 8) rfl ?_); refine ev_box (cs := #[.slice none 0 0]) (t := 26) rfl ?hr8 ?_; (case hr8 => first | (go_simp; done) | (go_simp; rfl)); intro g8 v8 _ _ _ _) | ((fail_if_success (have _q := A19)); go_at_call 83; (with_reducible refine (easy_any 0 (by omega) 0 g _ _ rfl (by simp only [cE]; omega)).mono ?_); rintro e19 w19 ⟨x19, A19, c19, rfl, h0, hx19, hl19, hen, h1, h2⟩; have HG19 := Lib.hid (hen.good hl19 (by omega)); simp only [cE] at h2; haveI := h0; haveI := h1; haveI := h2; clear h0 h1 h2 hen) | ((fail_if_success (have _q := A21)); go_at_call 83; (with_reducible refine (easy_any 0 (by omega) 0 g _ _ rfl (by simp only [cE]; omega)).mono ?_); rintro e21 w21 ⟨x21, A21, c21, rfl, h0, hx21, hl21, hen, h1, h2⟩; have HG21 := Lib.hid (hen.good hl21 (by omega)); simp only [cE] at h2; haveI := h0; haveI := h1; haveI := h2; clear h0 h1 h2 hen) | ((with_reducible refine at_dst (N := 9) rfl ?_); refine ev_box (cs := #[.slice none 0 0]) (t := 26) rfl ?hr9 ?_; (case hr9 => first | (go_simp; done) | (go_simp; rfl)); intro g9 v9 _ _ _ _) | ((with_reducible refine at_dst (N := 10) rfl ?_); refine ev_box (cs := #[.slice none 0 0]) (t := 26) rfl ?hr10 ?_; (case hr10 => first | (go_simp; done) | (go_simp; rfl)); intro g10 v10 _ _ _ _))
  go_cut [28] (fun s28 wx => ∃ b : Bool, s28 = .bool b ∧ Hid (b = true → x17.len ≠ 0) ∧ Kp (World.setCell (World.setCell v10 ⟨g9, 0, none⟩ (.slice A19 x19.len c19)) ⟨g10, 0, none⟩ (.slice A21 x21.len c21)) (XE g) wx ∧ Cur wx g 20000)
  case first => as_aux_lemma =>
    by_cases hz : x17.len = 0
    · have hz' : ((x17.len : Int) == 0) = true := by simpa using hz
      clear hz
      go_wp2_with (first | ((fail_if_success (have _q := r23)); go_at_call 84; refine (one_any _ g _ _ (by omega) (by omega)).mono ?_; rintro e23 w23 ⟨r23, rfl, h1, h2⟩; haveI := h1; haveI := h2; clear h1 h2) | (go_at_call 90; refine (suZero_any x17 A17 c17 _).mono ?_; rintro e26 w26 ⟨rfl, hb⟩; haveI : Bel _ w26 := ⟨hb⟩; clear hb))
      all_goals go_meet
      all_goals exact ⟨false, rfl, (fun h => by cases h), kp _ _ _, Cur.le inferInstance (by omega)⟩
    · have HZ := Lib.hid hz
      have hz' : ((x17.len : Int) == 0) = false := by simp; omega
      clear hz
      go_wp2_with (first | ((fail_if_success (have _q := r23)); go_at_call 84; refine (one_any _ g _ _ (by omega) (by omega)).mono ?_; rintro e23 w23 ⟨r23, rfl, h1, h2⟩; haveI := h1; haveI := h2; clear h1 h2) | (go_at_call 90; refine (suZero_any x17 A17 c17 _).mono ?_; rintro e26 w26 ⟨rfl, hb⟩; haveI : Bel _ w26 := ⟨hb⟩; clear hb))
      all_goals go_meet
      all_goals exact ⟨_, rfl, (fun _ => HZ.out), kp _ _ _, Cur.le inferInstance (by omega)⟩
  case rest =>
  rename World => wx
  obtain ⟨b, rfl, HB, _, hcx⟩ := hcut
  haveI := hcx
  go_upto_if 28 with fail
  go_cut [] (fun wy => ∃ (q r : Sur) (Aq Ar : Option Addr) (dq dr : Nat), Has wy g9 (.cells #[.slice Aq q.len dq] 26 (0, 0)) ∧ Has wy g10 (.cells #[.slice Ar r.len dr] 26 (0, 0)) ∧ Tr wy Aq (XV wy (XU (XE g10) (XU (XE g) (XU (XE g2) (XU (XE g3) (XU (XE g4) (XE g5))))))) q dq ∧ Tr wy Ar (XV wy (XU (XE g) (XU (XE g2) (XU (XE g3) (XU (XE g4) (XE g5)))))) r dr ∧ Kp wx (XU (XE g) (XU (XE g9) (XE g10))) wy ∧ Cur wy g 30000)
  case first => as_aux_lemma =>
    cases b
    · go_wp2
      go_meet
      exact ⟨x19, x21, A19, A21, c19, c21, inferInstance, inferInstance, Tr.lp (XU (XE g10) (XU (XE g) (XU (XE g2) (XU (XE g3) (XU (XE g4) (XE g5)))))), Tr.lp (XU (XE g) (XU (XE g2) (XU (XE g3) (XU (XE g4) (XE g5))))), kp _ _ _, Cur.le inferInstance (by omega)⟩
    · have HNZ := Lib.hid (HB.out rfl)
      go_upto_region 5 with fail
      refine wp_region_held_drew (S := (fun w' => w'.cell? ⟨g7, 0, none⟩ = some (.slice A15 x15.len c15) ∧ w'.cell? ⟨g8, 0, none⟩ = some (.slice A17 x17.len c17))) (by kernel_rfl) ?hSn2_ (fun hHeld => ?hRn2_)
      case hSn2_ => (exact ⟨has1, has1⟩)
      refine wpAnyH_take (i := 0) (v := ?vn2_1) rfl (by kernel_rfl) (by kernel_rfl) (by kernel_rfl) (fun _ _ _ h => h) (Or.inl ⟨by rfl, ?hyn2_1⟩) (by assumption) ?hRn2_1
      case hyn2_1 => (intro w hSw; (try dsimp only at hSw); go_simp; (try with_reducible rfl))
      try simp only [Act.put, zp1, zp2, zp3, zp4, zp5, zp6]
      refine wpAnyH_take (i := 1) (v := ?vn2_2) rfl (by kernel_rfl) (by kernel_rfl) (by kernel_rfl) (fun _ _ _ h => h) (Or.inl ⟨by rfl, ?hyn2_2⟩) (by assumption) ?hRn2_2
      case hyn2_2 => (intro w hSw; (try dsimp only at hSw); go_simp; (try with_reducible rfl))
      try simp only [Act.put, zp1, zp2, zp3, zp4, zp5, zp6]
      refine wpAnyH_take (i := 2) (v := ?vn2_3) rfl (by kernel_rfl) (by kernel_rfl) (by kernel_rfl) (fun _ _ _ h => h) (Or.inl ⟨by rfl, ?hyn2_3⟩) (by assumption) ?hRn2_3
      case hyn2_3 => (intro w hSw; (try dsimp only at hSw); go_simp; (try with_reducible rfl))
      try simp only [Act.put, zp1, zp2, zp3, zp4, zp5, zp6]
      refine wpAnyH_ready (rs := [3]) (by kernel_rfl) (by simp) ?_
      refine AllReadyH.cons rfl (fun K hK => ?_) AllReadyH.nil
      go_simp
      (((fail_if_success (have _q := r33)); go_at_call 44; (with_reducible refine (pick_any 4 g _ _ (by omega) (by omega)).mono ?_); rintro e33 w33 ⟨r33, rfl, hp33, hq33, h1, h2⟩; haveI := h1; haveI := h2; clear h1 h2))
      go_wp2_with fail
      refine hK.out _ _ ?hSn2_4 (fun hHeld => ?hRn2_4)
      case hSn2_4 => ((try dsimp only); exact ⟨has1, has1⟩)
      clear hK K
      try simp only [Act.put, zp1, zp2, zp3, zp4, zp5, zp6]
      refine wpAnyH_ready (rs := [4]) (by kernel_rfl) (by simp) ?_
      refine AllReadyH.cons rfl (fun K hK => ?_) AllReadyH.nil
      go_simp
      ((go_at_call 91; (with_reducible refine (seQuotient_any x15 x17 r33 (XU (XE g9) (XU (XE g10) (XU (XE g) (XU (XE g2) (XU (XE g3) (XU (XE g4) (XE g5))))))) _ A15 A17 c15 c17 _ (xlt (XU (XE g9) (XU (XE g10) (XU (XE g) (XU (XE g2) (XU (XE g3) (XU (XE g4) (XE g5))))))) _) (trx (XU (XE g9) (XU (XE g10) (XU (XE g) (XU (XE g2) (XU (XE g3) (XU (XE g4) (XE g5))))))) _ A15) (tr _ A17) HG15.out HG17.out HNZ.out (by omega) (by omega)).mono ?_); rintro e34 w34 ⟨A1, c1, A2, c2, he, hs, hs', _, _, hb⟩; obtain ⟨Q, HQ⟩ := surG (sdivGo x17 r33.toNat false .nil x15).2.1; obtain ⟨R, HR⟩ := surG (sdivGo x17 r33.toNat false .nil x15).2.2; obtain ⟨bd, HBD⟩ := boolG2 (sdivGo x17 r33.toNat false .nil x15).1; rw [HQ.out, HR.out, HBD.out] at he; rw [HQ.out] at hs; rw [HR.out] at hs'; subst he; haveI : Bel _ w34 := ⟨hb⟩; haveI := Tr.arg hs; haveI := Tr.arg hs'; clear hs hs' hb))
      go_wp2_with fail
      refine hK.out _ _ ?hSn2_5 (fun hHeld => ?hRn2_5)
      case hSn2_5 => ((try dsimp only); exact ⟨has1, has1⟩)
      clear hK K
      try simp only [Act.put, zp1, zp2, zp3, zp4, zp5, zp6]
      refine wpAnyH_take (i := 5) (v := ?vn2_6) rfl (by kernel_rfl) (by kernel_rfl) (by kernel_rfl) (fun _ _ _ h => h) (Or.inl ⟨by rfl, ?hyn2_6⟩) (by assumption) ?hRn2_6
      case hyn2_6 => (intro w hSw; (try dsimp only at hSw); go_simp; (try with_reducible rfl))
      try simp only [Act.put, zp1, zp2, zp3, zp4, zp5, zp6]
      refine wpAnyH_take (i := 6) (v := ?vn2_7) rfl (by kernel_rfl) (by kernel_rfl) (by kernel_rfl) (fun _ _ _ h => h) (Or.inl ⟨by rfl, ?hyn2_7⟩) (by assumption) ?hRn2_7
      case hyn2_7 => (intro w hSw; (try dsimp only at hSw); go_simp; (try with_reducible rfl))
      try simp only [Act.put, zp1, zp2, zp3, zp4, zp5, zp6]
      refine wpAnyH_take (i := 7) (v := ?vn2_8) rfl (by kernel_rfl) (by kernel_rfl) (by kernel_rfl) (fun _ _ _ h => h) (Or.inl ⟨by rfl, ?hyn2_8⟩) (by assumption) ?hRn2_8
      case hyn2_8 => (intro w hSw; (try dsimp only at hSw); go_simp; (try with_reducible rfl))
      try simp only [Act.put, zp1, zp2, zp3, zp4, zp5, zp6]
      refine wpAnyH_take (i := 8) (v := ?vn2_9) rfl (by kernel_rfl) (by kernel_rfl) (by kernel_rfl) (fun _ _ _ h => h) (Or.inl ⟨by rfl, ?hyn2_9⟩) (by assumption) ?hRn2_9
      case hyn2_9 => (intro w hSw; (try dsimp only at hSw); go_simp; (try with_reducible rfl))
      try simp only [Act.put, zp1, zp2, zp3, zp4, zp5, zp6]
      refine wpAnyH_ready (rs := [9]) (by kernel_rfl) (by simp) ?_
      refine AllReadyH.cons rfl (fun K hK => ?_) AllReadyH.nil
      go_simp
      refine hK.out _ _ ?hSn2_10 (fun hHeld => ?hRn2_10)
      case hSn2_10 => ((try dsimp only); exact ⟨has1, has1⟩)
      clear hK K
      try simp only [Act.put, zp1, zp2, zp3, zp4, zp5, zp6]
      refine wpAnyH_ready (rs := [10]) (by kernel_rfl) (by simp) ?_
      refine AllReadyH.cons rfl (fun K hK => ?_) AllReadyH.nil
      go_simp
      refine hK.out _ _ ?hSn2_11 (fun hHeld => ?hRn2_11)
      case hSn2_11 => ((try dsimp only); exact ⟨has1, has1⟩)
      clear hK K
      try simp only [Act.put, zp1, zp2, zp3, zp4, zp5, zp6]
      refine wpAnyH_done (by kernel_rfl) ?_ _
      all_goals
        go_wp2
        go_meet
        exact ⟨Q, R, A1, A2, c1, c2, inferInstance, inferInstance, Tr.lp (XU (XE g10) (XU (XE g) (XU (XE g2) (XU (XE g3) (XU (XE g4) (XE g5)))))), Tr.lp (XU (XE g) (XU (XE g2) (XU (XE g3) (XU (XE g4) (XE g5))))), kp _ _ _, Cur.le inferInstance (by omega)⟩
  case rest =>
  rename World => wy
  obtain ⟨q, r, Aq, Ar, dq, dr, _, _, _, _, _, hcy⟩ := hcut
  haveI := hcy
  go_wp2_with fail
  ((fail_if_success (have _q := r39)); go_at_call 84; refine (one_any _ g _ _ (by omega) (by omega)).mono ?_; rintro e39 w39 ⟨r39, rfl, h1, h2⟩; haveI := h1; haveI := h2; clear h1 h2)
  go_upto_if 39 with fail
  go_cut [] (fun wz => ∃ (r : Sur) (Ar : Option Addr) (dr : Nat), Has wz g10 (.cells #[.slice Ar r.len dr] 26 (0, 0)) ∧ Tr wz Ar (XV wz (XU (XE g) (XU (XE g2) (XU (XE g3) (XU (XE g4) (XE g5)))))) r dr ∧ Kp wy (XU (XE g) (XE g10)) wz)
  case first => as_aux_lemma =>
    cases r39
    · go_wp2
      go_meet
      exact ⟨r, Ar, dr, inferInstance, Tr.lp (XU (XE g) (XU (XE g2) (XU (XE g3) (XU (XE g4) (XE g5))))), kp _ _ _⟩
    · go_wp2_with (first | ((fail_if_success (have _q := A41)); go_at_call 86; refine (anySurreal_any g _ _ (by omega)).mono ?_; rintro e41 w41 ⟨x41, A41, c41, rfl, hs, hl41, h1, h2⟩; haveI := h1; haveI := h2; haveI := Tr.arg hs; clear hs h1 h2))
      go_meet
      exact ⟨x41, A41, c41, inferInstance, Tr.lp (XU (XE g) (XU (XE g2) (XU (XE g3) (XU (XE g4) (XE g5))))), kp _ _ _⟩
  case rest =>
  rename World => wz
  obtain ⟨r2, Ar2, dr2, _, _, _⟩ := hcut
  go_upto_region 8 with fail
  refine wp_region_held_drew (S := (fun w' => w'.cell? ⟨g7, 0, none⟩ = some (.slice A15 x15.len c15) ∧ w'.cell? ⟨g8, 0, none⟩ = some (.slice A17 x17.len c17) ∧ w'.cell? ⟨g9, 0, none⟩ = some (.slice Aq q.len dq) ∧ w'.cell? ⟨g10, 0, none⟩ = some (.slice Ar2 r2.len dr2))) (by kernel_rfl) ?hSn3_ (fun hHeld => ?hRn3_)
  case hSn3_ => (exact ⟨has1, has1, has1, has1⟩)
  refine wpAnyH_take (i := 0) (v := ?vn3_1) rfl (by kernel_rfl) (by kernel_rfl) (by kernel_rfl) (fun _ _ _ h => h) (Or.inl ⟨by rfl, ?hyn3_1⟩) (by assumption) ?hRn3_1
  case hyn3_1 => (intro w hSw; (try dsimp only at hSw); go_simp; (try with_reducible rfl))
  try simp only [Act.put, zp1, zp2, zp3, zp4, zp5, zp6]
  refine wpAnyH_take (i := 1) (v := ?vn3_2) rfl (by kernel_rfl) (by kernel_rfl) (by kernel_rfl) (fun _ _ _ h => h) (Or.inl ⟨by rfl, ?hyn3_2⟩) (by assumption) ?hRn3_2
  case hyn3_2 => (intro w hSw; (try dsimp only at hSw); go_simp; (try with_reducible rfl))
  try simp only [Act.put, zp1, zp2, zp3, zp4, zp5, zp6]
  refine wpAnyH_take (i := 2) (v := ?vn3_3) rfl (by kernel_rfl) (by kernel_rfl) (by kernel_rfl) (fun _ _ _ h => h) (Or.inl ⟨by rfl, ?hyn3_3⟩) (by assumption) ?hRn3_3
  case hyn3_3 => (intro w hSw; (try dsimp only at hSw); go_simp; (try with_reducible rfl))
  try simp only [Act.put, zp1, zp2, zp3, zp4, zp5, zp6]
  refine wpAnyH_take (i := 3) (v := ?vn3_4) rfl (by kernel_rfl) (by kernel_rfl) (by kernel_rfl) (fun _ _ _ h => h) (Or.inl ⟨by rfl, ?hyn3_4⟩) (by assumption) ?hRn3_4
  case hyn3_4 => (intro w hSw; (try dsimp only at hSw); go_simp; (try with_reducible rfl))
  try simp only [Act.put, zp1, zp2, zp3, zp4, zp5, zp6]
  refine wpAnyH_ready (rs := [4]) (by kernel_rfl) (by simp) ?_
  refine AllReadyH.cons rfl (fun K hK => ?_) AllReadyH.nil
  go_simp
  refine hK.out _ _ ?hSn3_5 (fun hHeld => ?hRn3_5)
  case hSn3_5 => ((try dsimp only); exact ⟨has1, has1, has1, has1⟩)
  clear hK K
  try simp only [Act.put, zp1, zp2, zp3, zp4, zp5, zp6]
  refine wpAnyH_ready (rs := [5]) (by kernel_rfl) (by simp) ?_
  refine AllReadyH.cons rfl (fun K hK => ?_) AllReadyH.nil
  go_simp
  refine hK.out _ _ ?hSn3_6 (fun hHeld => ?hRn3_6)
  case hSn3_6 => ((try dsimp only); exact ⟨has1, has1, has1, has1⟩)
  clear hK K
  try simp only [Act.put, zp1, zp2, zp3, zp4, zp5, zp6]
  refine wpAnyH_ready (rs := [6]) (by kernel_rfl) (by simp) ?_
  refine AllReadyH.cons rfl (fun K hK => ?_) AllReadyH.nil
  go_simp
  refine hK.out _ _ ?hSn3_7 (fun hHeld => ?hRn3_7)
  case hSn3_7 => ((try dsimp only); exact ⟨has1, has1, has1, has1⟩)
  clear hK K
  try simp only [Act.put, zp1, zp2, zp3, zp4, zp5, zp6]
  refine wpAnyH_ready (rs := [7]) (by kernel_rfl) (by simp) ?_
  refine AllReadyH.cons rfl (fun K hK => ?_) AllReadyH.nil
  go_simp
  refine hK.out _ _ ?hSn3_8 (fun hHeld => ?hRn3_8)
  case hSn3_8 => ((try dsimp only); exact ⟨has1, has1, has1, has1⟩)
  clear hK K
  try simp only [Act.put, zp1, zp2, zp3, zp4, zp5, zp6]
  refine wpAnyH_done (by kernel_rfl) ?_ _
  all_goals
    go_wp2
    refine bodyPost_ret (v := .tuple #[.agg #[.slice A15 x15.len c15], .agg #[.slice A17 x17.len c17], .agg #[.slice Aq q.len dq], .agg #[.slice Ar2 r2.len dr2]]) (by simp [results, Tryz.results25, go_sem]) rfl ?_
    exact ⟨x15, x17, q, r2, A15, A17, Aq, Ar2, c15, c17, dq, dr2, rfl, trx XN _ A15, trx XN _ A17, trx XN _ Aq, trx XN _ Ar2, ext w _⟩
end Go.Proofs.YtphabopnbcgodaaGreat
