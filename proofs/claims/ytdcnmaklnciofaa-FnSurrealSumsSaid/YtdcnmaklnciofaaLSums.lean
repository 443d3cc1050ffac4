/-
  The law FnSurrealSums: its walk.
-/
import Derived.Test.YtdcnmaklnciofaaLSame
import Derived.Test.YtdcnmaklnciofaaSDrw
import Derived.Test.YtdcnmaklnciofaaSAlgFn
import Derived.Test.YtdcnmaklnciofaaWAdd
namespace Go.Proofs.Ytdcnmaklnciofaa
open Go.RowKit
set_option linter.unusedSimpArgs false
set_option linter.unusedVariables false

attribute [local go_sem high] has_cell has_frozen
set_option maxHeartbeats 1600000 in
set_option maxRecDepth 100000 in
theorem NegateSurreal_any (x : Sur) (X : Nat → Prop) (A : Option Addr) (c : Nat) (w : World) (sx : SSl X w x A c) (hl : x.len ≤ 1099511627776) :
    Calls Try.prog 12 #[.agg #[.slice A x.len c]] w (RetFreshB w (negS x)) := by
  haveI ix := Tr.arg (sx.more (Y := XN) (fun _ h => h.elim))
  clear sx
  have HE := Lib.hid (show told (negP x) (sGood x) = negS x by unfold negS; cases sGood x <;> simp [told])
  go_enter Try.func12, Try.ntmps12
  go_wp2_with (first | ((with_reducible refine at_dst (N := 1) rfl ?_); refine ev_box (cs := #[.slice A x.len c]) (t := 26) rfl ?hr1 ?_; (case hr1 => first | (go_simp; done) | (go_simp; rfl)); intro g1 v1 _ _ _ _) | ((with_reducible refine at_dst (N := 2) rfl ?_); refine ev_box (cs := #[.slice none 0 0]) (t := 26) rfl ?hr2 ?_; (case hr2 => first | (go_simp; done) | (go_simp; rfl)); intro g2 v2 _ _ _ _))
  refine wp_region_held_drew (S := (fun w' => w'.cell? ⟨g1, 0, none⟩ = some (.slice A x.len c))) (by kernel_rfl) ?hSn1_ (fun hHeld => ?hRn1_)
  case hSn1_ => (exact has1)
  refine wpAnyH_take (i := 0) (oi := _) (v := ?vn1_1) rfl (by kernel_rfl) (by kernel_rfl) (by kernel_rfl) (fun _ _ _ h => h) (Or.inl ⟨by rfl, ?hyn1_1⟩) (by assumption) ?hRn1_1
  case hyn1_1 => (intro w hSw; (try dsimp only at hSw); go_simp; (try with_reducible rfl))
  try simp only [Act.put, List.getElem_toArray, List.getElem_cons_zero, List.getElem_cons_succ, List.setIfInBounds_toArray, List.set_cons_zero, List.set_cons_succ]
  refine wpAnyH_take (i := 2) (oi := _) (v := ?vn1_2) rfl (by kernel_rfl) (by kernel_rfl) (by kernel_rfl) (fun _ _ _ h => h) (Or.inl ⟨by rfl, ?hyn1_2⟩) (by assumption) ?hRn1_2
  case hyn1_2 => (intro w hSw; (try dsimp only at hSw); go_simp; (try with_reducible rfl))
  try simp only [Act.put, List.getElem_toArray, List.getElem_cons_zero, List.getElem_cons_succ, List.setIfInBounds_toArray, List.set_cons_zero, List.set_cons_succ]
  refine wpAnyH_ready (rs := [1]) (by kernel_rfl) (by simp) ?_
  refine AllReadyH.cons (o := _) rfl (fun K hK => ?_) AllReadyH.nil
  go_simp
  (go_at_call 49; refine (negative_any x XN A c _ (xlt XN _) (trx XN _ A) hl).mono ?_; rintro e5 w5 ⟨A5, c5, rfl, hs, hb⟩; haveI : Bel _ w5 := ⟨hb⟩; haveI := Tr.arg hs; clear hs hb)
  go_wp2_with fail
  refine hK.out _ _ ?hSn1_3 (fun hHeld => ?hRn1_3)
  case hSn1_3 => ((try dsimp only); exact has1)
  clear hK K
  try simp only [Act.put, List.getElem_toArray, List.getElem_cons_zero, List.getElem_cons_succ, List.setIfInBounds_toArray, List.set_cons_zero, List.set_cons_succ]
  refine wpAnyH_ready (rs := [3]) (by kernel_rfl) (by simp) ?_
  refine AllReadyH.cons (o := _) rfl (fun K hK => ?_) AllReadyH.nil
  go_simp
  (go_at_call 50; refine (IsSurreal_any x _ A c _ (tr _ A)).mono ?_; rintro e7 w7 ⟨rfl, hb⟩; haveI : Bel _ w7 := ⟨hb⟩; clear hb)
  go_wp2_with fail
  refine hK.out _ _ ?hSn1_4 (fun hHeld => ?hRn1_4)
  case hSn1_4 => ((try dsimp only); exact has1)
  clear hK K
  try simp only [Act.put, List.getElem_toArray, List.getElem_cons_zero, List.getElem_cons_succ, List.setIfInBounds_toArray, List.set_cons_zero, List.set_cons_succ]
  refine wpAnyH_ready (rs := [4]) (by kernel_rfl) (by simp) ?_
  refine AllReadyH.cons (o := _) rfl (fun K hK => ?_) AllReadyH.nil
  go_simp
  (go_at_call 46; refine (toldSurreal_any (negP x) (sGood x) _ A5 c5 _ (tr _ A5)).mono ?_; rintro e8 w8 ⟨A8, c8, he, hf, hb⟩; rw [HE.out] at he hf; subst he; haveI : Bel _ w8 := ⟨hb⟩; haveI := Fs.of hf; clear hf hb)
  go_wp2_with fail
  refine hK.out _ _ ?hSn1_5 (fun hHeld => ?hRn1_5)
  case hSn1_5 => ((try dsimp only); exact has1)
  clear hK K
  try simp only [Act.put, List.getElem_toArray, List.getElem_cons_zero, List.getElem_cons_succ, List.setIfInBounds_toArray, List.set_cons_zero, List.set_cons_succ]
  refine wpAnyH_take (i := 5) (oi := _) (v := ?vn1_6) rfl (by kernel_rfl) (by kernel_rfl) (by kernel_rfl) (fun _ _ _ h => h) (Or.inl ⟨by rfl, ?hyn1_6⟩) (by assumption) ?hRn1_6
  case hyn1_6 => (intro w hSw; (try dsimp only at hSw); go_simp; (try with_reducible rfl))
  try simp only [Act.put, List.getElem_toArray, List.getElem_cons_zero, List.getElem_cons_succ, List.setIfInBounds_toArray, List.set_cons_zero, List.set_cons_succ]
  refine wpAnyH_take (i := 6) (oi := _) (v := ?vn1_7) rfl (by kernel_rfl) (by kernel_rfl) (by kernel_rfl) (fun _ _ _ h => h) (Or.inl ⟨by rfl, ?hyn1_7⟩) (by assumption) ?hRn1_7
  case hyn1_7 => (intro w hSw; (try dsimp only at hSw); go_simp; (try with_reducible rfl))
  try simp only [Act.put, List.getElem_toArray, List.getElem_cons_zero, List.getElem_cons_succ, List.setIfInBounds_toArray, List.set_cons_zero, List.set_cons_succ]
  refine wpAnyH_ready (rs := [7]) (by kernel_rfl) (by simp) ?_
  refine AllReadyH.cons (o := _) rfl (fun K hK => ?_) AllReadyH.nil
  go_simp
  refine hK.out _ _ ?hSn1_8 (fun hHeld => ?hRn1_8)
  case hSn1_8 => ((try dsimp only); exact has1)
  clear hK K
  try simp only [Act.put, List.getElem_toArray, List.getElem_cons_zero, List.getElem_cons_succ, List.setIfInBounds_toArray, List.set_cons_zero, List.set_cons_succ]
  refine wpAnyH_take (i := 8) (oi := _) (v := ?vn1_9) rfl (by kernel_rfl) (by kernel_rfl) (by kernel_rfl) (fun _ _ _ h => h) (Or.inl ⟨by rfl, ?hyn1_9⟩) (by assumption) ?hRn1_9
  case hyn1_9 => (intro w hSw; (try dsimp only at hSw); go_simp; (try with_reducible rfl))
  try simp only [Act.put, List.getElem_toArray, List.getElem_cons_zero, List.getElem_cons_succ, List.setIfInBounds_toArray, List.set_cons_zero, List.set_cons_succ]
  refine wpAnyH_done (by kernel_rfl) ?_ _
  go_wp2
  refine bodyPost_ret (v := .tuple #[.agg #[.slice A8 ((negS x).getD .nil).len c8], .bool (negS x).isSome]) (by simp [results, Try.results12, go_sem]) rfl ?_
  exact ⟨A8, c8, rfl, fs _ A8 w, ext _ _⟩

def RetLaw (w : World) (b : Bool) (e : Ending) (w' : World) : Prop := e = .returned (.bool b) ∧ Below w.heap.size w w'
set_option synthInstance.maxHeartbeats 2000000 in
set_option synthInstance.maxSize 4000 in
set_option maxHeartbeats 8000000 in
set_option maxRecDepth 100000 in
theorem lawSums_any (A B : Option Addr) (n m c d : Nat) (w : World) (hco : Bytes w A n) (hcm : Bytes w B m) (hn : n ≤ maxLen) (hm : m ≤ maxLen) :
    Calls Try.prog 3 #[.slice A n c, .slice B m d] w (RetLaw w true) := by
  go_enter Try.func3, Try.ntmps3
  go_wp2_with fail
  (go_at_call 7; refine (big_any A B n m c d _ hn hm).mono ?_; rintro e31 w31 ⟨⟨b, rfl, hbb⟩, hw⟩; subst w31)
  cases b
  case' true =>
    clear hbb
    go_wp2
    go_ret
    exact ⟨rfl, ext _ _⟩
  obtain ⟨hn1, hm1⟩ := hbb rfl
  clear hbb
  go_upto_if 58 with (first | (go_at_call 8; refine (drawAdd_any A n c _ (hco.below (ext w _)) hn1).mono ?_; rintro e34 w34 ⟨x, y, Ax, Ay, cx, cy, rfl, hx, hy, hlx, hly, hb⟩; haveI : Bel _ w34 := ⟨hb⟩; haveI := Tr.arg hx; haveI := Tr.arg hy; clear hx hy hb) | ((with_reducible refine at_dst (N := 5) rfl ?_); refine ev_box (cs := #[.slice none 0 0]) (t := 26) rfl ?hr5 ?_; (case hr5 => first | (go_simp; done) | (go_simp; rfl)); intro g5 v5 _ _ _ _) | ((with_reducible refine at_dst (N := 6) rfl ?_); refine ev_box (cs := #[.slice none 0 0]) (t := 26) rfl ?hr6 ?_; (case hr6 => first | (go_simp; done) | (go_simp; rfl)); intro g6 v6 _ _ _ _) | ((fail_if_success (have _q := A40)); go_at_call 9; (with_reducible refine (AddSurreals_any x y _ _ Ax Ay _ _ _ (tr _ Ax) (tr _ Ay)).mono ?_); rintro e40 w40 ⟨A40, c40, he, hf, hb⟩; subst he; haveI : Bel _ w40 := ⟨hb⟩; haveI := Fs.of hf; clear hf hb) | ((with_reducible refine at_dst (N := 7) rfl ?_); refine ev_box (cs := #[.slice none 0 0]) (t := 26) rfl ?hr7 ?_; (case hr7 => first | (go_simp; done) | (go_simp; rfl)); intro g7 v7 _ _ _ _) | (go_at_call 10; refine (sAddSurreals_any x y _ _ Ax Ay _ _ _ (tr _ Ax) (tr _ Ay)).mono ?_; rintro e46 w46 ⟨A46, c46, he, hf, hb⟩; subst he; haveI : Bel _ w46 := ⟨hb⟩; haveI := Fs.of hf; clear hf hb) | ((with_reducible refine at_dst (N := 9) rfl ?_); refine ev_box (cs := #[.slice none 0 0]) (t := 26) rfl ?hr9 ?_; (case hr9 => first | (go_simp; done) | (go_simp; rfl)); intro g9 v9 _ _ _ _) | ((fail_if_success (have _q := w55)); go_at_call 11; (with_reducible refine (same_any _ ((addS x y).getD .nil) _ _ A40 A46 _ _ _ (Nat.le_refl _) (tr _ A40) (tr _ A46)).mono ?_); rintro e55 w55 ⟨rfl, hb⟩; haveI : Bel _ w55 := ⟨hb⟩; clear hb))
  have HS2 := Lib.hid scaleS_two
  go_cut [] (fun wx => Bel w wx)
  case first =>
    rcases hs : addS x y with _ | z
    · simp only [hs, Option.getD_none, Option.isSome_none] at *
      clear hs
      go_wp2
      go_meet
      exact ⟨ext _ _⟩
    · obtain ⟨gx, gy, -, gz⟩ := addS_some hs
      have HN := Lib.hid (negS_good gy)
      have HU := Lib.hid (addS_undo hs)
      have HC := Lib.hid ((addS_comm y x).trans hs)
      simp only [hs, Option.getD_some, Option.isSome_some] at *
      clear hs gx gy gz
      go_wp2_with (first | ((fail_if_success (have _q := A62)); go_at_call 9; (with_reducible refine (AddSurreals_any y x _ _ Ay Ax _ _ _ (tr _ Ay) (tr _ Ax)).mono ?_); rintro e62 w62 ⟨A62, c62, he, hf, hb⟩; rw [HC.out] at he hf; simp only [Option.getD_some, Option.isSome_some] at he hf; subst he; haveI : Bel _ w62 := ⟨hb⟩; haveI := Fs.of hf; clear hf hb) | ((with_reducible refine at_dst (N := 11) rfl ?_); refine ev_box (cs := #[.slice none 0 0]) (t := 26) rfl ?hr11 ?_; (case hr11 => first | (go_simp; done) | (go_simp; rfl)); intro g11 v11 _ _ _ _) | ((fail_if_success (have _q := w70)); go_at_call 11; (with_reducible refine (same_any _ z _ _ A62 A40 _ _ _ (Nat.le_refl _) (tr _ A62) (tr _ A40)).mono ?_); rintro e70 w70 ⟨rfl, hb⟩; haveI : Bel _ w70 := ⟨hb⟩; clear hb) | (go_at_call 12; (with_reducible refine (NegateSurreal_any y _ Ay _ _ (tr _ Ay) (by omega)).mono ?_); rintro e75 w75 ⟨A75, c75, he, hf, hb⟩; rw [HN.out] at he hf; simp only [Option.getD_some, Option.isSome_some] at he hf; subst he; haveI : Bel _ w75 := ⟨hb⟩; haveI := Fs.of hf; clear hf hb) | ((with_reducible refine at_dst (N := 13) rfl ?_); refine ev_box (cs := #[.slice none 0 0]) (t := 26) rfl ?hr13 ?_; (case hr13 => first | (go_simp; done) | (go_simp; rfl)); intro g13 v13 _ _ _ _) | ((fail_if_success (have _q := A81)); go_at_call 9; (with_reducible refine (AddSurreals_any z (negP y) _ _ A40 A75 _ _ _ (tr _ A40) (tr _ A75)).mono ?_); rintro e81 w81 ⟨A81, c81, he, hf, hb⟩; rw [HU.out] at he hf; simp only [Option.getD_some, Option.isSome_some] at he hf; subst he; haveI : Bel _ w81 := ⟨hb⟩; haveI := Fs.of hf; clear hf hb) | ((with_reducible refine at_dst (N := 15) rfl ?_); refine ev_box (cs := #[.slice none 0 0]) (t := 26) rfl ?hr15 ?_; (case hr15 => first | (go_simp; done) | (go_simp; rfl)); intro g15 v15 _ _ _ _) | (go_at_call 13; (with_reducible refine (SubtractSurreals_any z y _ _ A40 Ay _ _ _ (tr _ A40) (tr _ Ay) (by omega)).mono ?_); rintro e87 w87 ⟨A87, c87, he, hf, hb⟩; rw [show subS z y = some x from HU.out] at he hf; simp only [Option.getD_some, Option.isSome_some] at he hf; subst he; haveI : Bel _ w87 := ⟨hb⟩; haveI := Fs.of hf; clear hf hb) | ((with_reducible refine at_dst (N := 17) rfl ?_); refine ev_box (cs := #[.slice none 0 0]) (t := 26) rfl ?hr17 ?_; (case hr17 => first | (go_simp; done) | (go_simp; rfl)); intro g17 v17 _ _ _ _) | ((fail_if_success (have _q := w99)); go_at_call 11; (with_reducible refine (same_any _ x _ _ A81 Ax _ _ _ (Nat.le_refl _) (tr _ A81) (tr _ Ax)).mono ?_); rintro e99 w99 ⟨rfl, hb⟩; haveI : Bel _ w99 := ⟨hb⟩; clear hb) | ((fail_if_success (have _q := w109)); go_at_call 11; (with_reducible refine (same_any _ x _ _ A87 Ax _ _ _ (Nat.le_refl _) (tr _ A87) (tr _ Ax)).mono ?_); rintro e109 w109 ⟨rfl, hb⟩; haveI : Bel _ w109 := ⟨hb⟩; clear hb))
      go_meet
      exact ⟨ext _ _⟩
  case rest =>
    rename World => wx
    haveI : Bel w wx := hcut
    go_wp2_with fail
    (go_at_call 14; (with_reducible refine (drawScale_any B m d _ (hcm.below (ext w _)) hm1).mono ?_); rintro e114 w114 ⟨v, p, q, Av, cv, rfl, hv, hlv, hp, hq, hb⟩; haveI : Bel _ w114 := ⟨hb⟩; haveI := Tr.arg hv; clear hv hb)
    (go_upto_region 18 with (first | ((with_reducible refine at_dst (N := 19) rfl ?_); refine ev_box (cs := #[.slice none 0 0]) (t := 26) rfl ?hr19 ?_; (case hr19 => first | (go_simp; done) | (go_simp; rfl)); intro g19 v19 _ _ _ _) | ((with_reducible refine at_dst (N := 20) rfl ?_); refine ev_box (cs := #[.int .i64 0, .int .i64 0]) (t := 34) rfl ?hr20 ?_; (case hr20 => first | (go_simp; done) | (go_simp; rfl)); intro g20 v20 _ _ _ _)))
    (go_upto_region 19 with (first | ((fail_if_success (have _q := A120)); go_at_call 15; (with_reducible refine (ScaleSurreal_any v p q _ Av _ _ (tr _ Av)).mono ?_); rintro e120 w120 ⟨A120, c120, he, hf, hb⟩; subst he; haveI : Bel _ w120 := ⟨hb⟩; haveI := Fs.of hf; clear hf hb) | ((with_reducible refine at_dst (N := 21) rfl ?_); refine ev_box (cs := #[.slice none 0 0]) (t := 26) rfl ?hr21 ?_; (case hr21 => first | (go_simp; done) | (go_simp; rfl)); intro g21 v21 _ _ _ _)))
    (go_upto_region 20 with (first | (go_at_call 16; (with_reducible refine (sScaleSurreal_any v p q _ Av _ _ (tr _ Av)).mono ?_); rintro e126 w126 ⟨A126, c126, he, hf, hb⟩; subst he; haveI : Bel _ w126 := ⟨hb⟩; haveI := Fs.of hf; clear hf hb) | ((with_reducible refine at_dst (N := 23) rfl ?_); refine ev_box (cs := #[.slice none 0 0]) (t := 26) rfl ?hr23 ?_; (case hr23 => first | (go_simp; done) | (go_simp; rfl)); intro g23 v23 _ _ _ _)))
    (go_upto_region 22 with (((fail_if_success (have _q := w135)); go_at_call 11; (with_reducible refine (same_any _ ((scaleS v p q).getD .nil) _ _ A120 A126 _ _ _ (Nat.le_refl _) (tr _ A120) (tr _ A126)).mono ?_); rintro e135 w135 ⟨rfl, hb⟩; haveI : Bel _ w135 := ⟨hb⟩; clear hb)))
    (go_upto_region 23 with (first | (go_at_call 15; (with_reducible refine (ScaleSurreal_any v 2 1 _ Av _ _ (tr _ Av)).mono ?_); rintro e141 w141 ⟨A141, c141, he, hf, hb⟩; rw [HS2.out] at he hf; subst he; haveI : Bel _ w141 := ⟨hb⟩; haveI := Fs.of hf; clear hf hb) | ((with_reducible refine at_dst (N := 25) rfl ?_); refine ev_box (cs := #[.slice none 0 0]) (t := 26) rfl ?hr25 ?_; (case hr25 => first | (go_simp; done) | (go_simp; rfl)); intro g25 v25 _ _ _ _)))
    (go_upto_region 24 with (first | ((fail_if_success (have _q := A147)); go_at_call 9; (with_reducible refine (AddSurreals_any v v _ _ Av Av _ _ _ (tr _ Av) (tr _ Av)).mono ?_); rintro e147 w147 ⟨A147, c147, he, hf, hb⟩; subst he; haveI : Bel _ w147 := ⟨hb⟩; haveI := Fs.of hf; clear hf hb) | ((with_reducible refine at_dst (N := 27) rfl ?_); refine ev_box (cs := #[.slice none 0 0]) (t := 26) rfl ?hr27 ?_; (case hr27 => first | (go_simp; done) | (go_simp; rfl)); intro g27 v27 _ _ _ _)))
    rcases hvv : addS v v with _ | u
    all_goals
      simp only [hvv, Option.getD_none, Option.getD_some, Option.isSome_none, Option.isSome_some] at *
      clear hvv
    · go_wp2
      go_ret
      refine ⟨rfl, ?_⟩
      exact ext w _
    · go_wp2_with (((fail_if_success (have _q := w159)); go_at_call 11; (with_reducible refine (same_any _ u _ _ A141 A147 _ _ _ (Nat.le_refl _) (tr _ A141) (tr _ A147)).mono ?_); rintro e159 w159 ⟨rfl, hb⟩; haveI : Bel _ w159 := ⟨hb⟩; clear hb))
      go_ret
      refine ⟨rfl, ?_⟩
      exact ext w _
end Go.Proofs.Ytdcnmaklnciofaa
