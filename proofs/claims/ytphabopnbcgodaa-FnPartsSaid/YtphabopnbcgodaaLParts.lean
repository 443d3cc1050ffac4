/-
  The law FnParts: its walk.
-/
import Derived.Test.YtphabopnbcgodaaPC
import Derived.Test.YtphabopnbcgodaaPB
import Derived.Test.YtphabopnbcgodaaPA
import Derived.Test.YtphabopnbcgodaaWAdd
import Derived.Test.YtphabopnbcgodaaLSame
import Derived.Test.YtphabopnbcgodaaSD
namespace Go.Proofs.Ytphabopnbcgodaa
open Go.RowKit
set_option linter.unusedSimpArgs false
set_option linter.unusedVariables false

/-- what the law returns -/
def RetLaw (w : World) (b : Bool) (e : Ending) (w' : World) : Prop := e = .returned (.bool b) ∧ Below w.heap.size w w'
/-- what the calls gave, by name -/
structure PtsG (x H L : Sur) (p q : Int) (ok : Bool) : Prop where
  h : ptH x = H
  l : ptL x = L
  p : (ptR x).1 = p
  q : (ptR x).2 = q
  ok : sGood x = ok
theorem ptsG (x : Sur) : ∃ H L p q ok, PtsG x H L p q ok := ⟨_, _, _, _, _, rfl, rfl, rfl, rfl, rfl⟩
structure LdG (x E : Sur) (p q : Int) (b : Bool) : Prop where
  e : ldE x = E
  p : (ldC x).1 = p
  q : (ldC x).2 = q
  b : ldB x = b
theorem ldG (x : Sur) : ∃ E p q b, LdG x E p q b := ⟨_, _, _, _, rfl, rfl, rfl, rfl⟩
structure OptH (o : Option Sur) (z : Sur) (b : Bool) : Prop where
  hz : o.getD .nil = z
  hb : o.isSome = b
theorem optH (o : Option Sur) : ∃ z b, OptH o z b := ⟨_, _, rfl, rfl⟩
theorem OptH.some {o : Option Sur} {z : Sur} (h : OptH o z true) : o = .some z := by
  cases o with
  | none => have := h.hb; simp at this
  | some v => have := h.hz; simp at this; rw [this]
/-- the parts of a right number -/
structure SumG (x H L : Sur) (p q : Int) (Y Z : Sur) : Prop where
  y : fromS p q = .some Y
  z : addS H Y = .some Z
  v : addS Z L = .some x
  ip : I64 p
  iq : I64 q
  om : omnB x = (decide (q = 1) && decide (L.len = 0))
theorem sumG {x H L : Sur} {p q : Int} (h : PtsG x H L p q true) : ∃ Y Z, SumG x H L p q Y Z := by
  have g := h.ok
  have e1 : H = highP x := by rw [← h.h]; unfold ptH; rw [if_pos g]
  have e2 : L = lowP x := by rw [← h.l]; unfold ptL; rw [if_pos g]
  have e3 : p = (realP (0, 1) x).1 := by rw [← h.p]; unfold ptR; rw [if_pos g]
  have e4 : q = (realP (0, 1) x).2 := by rw [← h.q]; unfold ptR; rw [if_pos g]
  have hI := fracOk_I64 (show fracOk (realP (0, 1) x).1 (realP (0, 1) x).2 = true from real_ok g)
  subst e1 e2 e3 e4
  refine ⟨_, _, from_real g, (parts_sum g).1, (parts_sum g).2, hI.1, hI.2, ?_⟩
  unfold omnB
  rw [g, Bool.true_and]
/-- what is known of the integer part -/
structure IntG (x N : Sur) (ob : Bool) (a : Int) : Prop where
  gn : sGood N = true
  om : omnB N = true
  cmp : cmpS N x = a
  gg : (sGood N && sGood x) = true
  le : a = 0 ∨ (a = -1 ∧ ob = false)
  nx : ∀ z, addS N (.cons .nil 1 1 .nil) = .some z → cmpS z x = 1 ∧ (sGood z && sGood x) = true
theorem intG {x N : Sur} (g : sGood x = true) (h : intS x = .some N) : ∃ a, IntG x N (omnB x) a := by
  obtain ⟨rfl, _, gn⟩ := told_eq h
  have gg : (sGood (wholeS x) && sGood x) = true := by rw [gn, g]; rfl
  refine ⟨order (wholeS x) x, gn, whole_omn gn, by unfold cmpS; rw [if_pos gg], gg, ?_, fun z hz => ?_⟩
  · cases hb : omnB x
    · have := whole_le g gn
      rcases order_range (wholeS x) x with q | q | q
      · exact .inr ⟨q, rfl⟩
      · exact .inl q
      · omega
    · left
      rw [whole_eq g gn hb, order_self]
  · have gz : (sGood z && sGood x) = true := by rw [addS_good hz, g]; rfl
    exact ⟨by unfold cmpS; rw [if_pos gz]; exact whole_next g hz, gz⟩
theorem qOne : (fromS 1 1).getD .nil = .cons .nil 1 1 .nil := by rw [fromS_one]; rfl

attribute [local go_sem high] has_cell has_frozen
set_option synthInstance.maxHeartbeats 2000000 in
set_option synthInstance.maxSize 4000 in
set_option maxHeartbeats 8000000 in
set_option maxRecDepth 100000 in
theorem lawParts_any (A B : Option Addr) (n m c d : Nat) (w : World) (hco : Bytes w A n) (hn : n ≤ maxLen) (hm : m ≤ maxLen) :
    Calls Try.prog 3 #[.slice A n c, .slice B m d] w (RetLaw w true) := by
  go_enter Try.func3, Try.ntmps3
  go_wp2_with fail
  (go_at_call 5; refine (big_any A B n m c d _ hn hm).mono ?_; rintro e31 w31 ⟨⟨b, rfl, hbb⟩, hw⟩; subst w31)
  cases b
  case' true =>
    clear hbb
    go_wp2
    go_ret
    exact ⟨rfl, ext _ _⟩
  obtain ⟨hn1, hm1⟩ := hbb rfl
  clear hbb
  go_upto_region 16 with (first | (go_at_call 6; refine (drawLead_any A n c _ (hco.below (ext w _)) hn1).mono ?_; rintro e44 w44 ⟨x, Ax, cx, rfl, hx, hlx, hb⟩; haveI : Bel _ w44 := ⟨hb⟩; haveI := Tr.arg hx; clear hx hb; obtain ⟨H, L, p, q, ok, GP⟩ := ptsG x; obtain ⟨E, lp, lq, lb, GL⟩ := ldG x; obtain ⟨N, nb, GN⟩ := optH (intS x)) | ((with_reducible refine at_dst (N := 5) rfl ?_); refine ev_box (cs := #[.slice none 0 0]) (t := 26) rfl ?hr5 ?_; (case hr5 => first | (go_simp; done) | (go_simp; rfl)); intro g5 v5 _ _ _ _) | ((fail_if_success (have _q := A47)); go_at_call 7; (with_reducible refine (PartsOf_any x _ Ax cx _ (tr _ Ax)).mono ?_); rintro e47 w47 ⟨A47, c47, B47, d47, he, hf, hf', hb⟩; rw [GP.h, GP.l, GP.p, GP.q, GP.ok] at he; rw [GP.h] at hf; rw [GP.l] at hf'; subst he; haveI : Bel _ w47 := ⟨hb⟩; haveI := Fs.of hf; haveI := Fs.of hf'; clear hf hf' hb) | ((with_reducible refine at_dst (N := 6) rfl ?_); refine ev_box (cs := #[.slice none 0 0]) (t := 26) rfl ?hr6 ?_; (case hr6 => first | (go_simp; done) | (go_simp; rfl)); intro g6 v6 _ _ _ _) | ((with_reducible refine at_dst (N := 7) rfl ?_); refine ev_box (cs := #[.int .i64 0, .int .i64 0]) (t := 29) rfl ?hr7 ?_; (case hr7 => first | (go_simp; done) | (go_simp; rfl)); intro g7 v7 _ _ _ _) | ((with_reducible refine at_dst (N := 8) rfl ?_); refine ev_box (cs := #[.slice none 0 0]) (t := 26) rfl ?hr8 ?_; (case hr8 => first | (go_simp; done) | (go_simp; rfl)); intro g8 v8 _ _ _ _) | ((fail_if_success (have _q := A54)); go_at_call 8; (with_reducible refine (sPartsOf_any x _ Ax cx _ (tr _ Ax)).mono ?_); rintro e54 w54 ⟨A54, c54, B54, d54, he, hf, hf', hb⟩; rw [GP.h, GP.l, GP.p, GP.q, GP.ok] at he; rw [GP.h] at hf; rw [GP.l] at hf'; subst he; haveI : Bel _ w54 := ⟨hb⟩; haveI := Fs.of hf; haveI := Fs.of hf'; clear hf hf' hb) | ((with_reducible refine at_dst (N := 10) rfl ?_); refine ev_box (cs := #[.slice none 0 0]) (t := 26) rfl ?hr10 ?_; (case hr10 => first | (go_simp; done) | (go_simp; rfl)); intro g10 v10 _ _ _ _) | ((with_reducible refine at_dst (N := 11) rfl ?_); refine ev_box (cs := #[.int .i64 0, .int .i64 0]) (t := 29) rfl ?hr11 ?_; (case hr11 => first | (go_simp; done) | (go_simp; rfl)); intro g11 v11 _ _ _ _) | ((with_reducible refine at_dst (N := 12) rfl ?_); refine ev_box (cs := #[.slice none 0 0]) (t := 26) rfl ?hr12 ?_; (case hr12 => first | (go_simp; done) | (go_simp; rfl)); intro g12 v12 _ _ _ _) | ((fail_if_success (have _q := w65)); go_at_call 9; (with_reducible refine (same_any _ H _ _ A47 A54 _ _ _ (Nat.le_refl _) (tr _ A47) (tr _ A54)).mono ?_); rintro e65 w65 ⟨rfl, hb⟩; haveI : Bel _ w65 := ⟨hb⟩; clear hb) | ((fail_if_success (have _q := w76)); go_at_call 9; (with_reducible refine (same_any _ L _ _ B47 B54 _ _ _ (Nat.le_refl _) (tr _ B47) (tr _ B54)).mono ?_); rintro e76 w76 ⟨rfl, hb⟩; haveI : Bel _ w76 := ⟨hb⟩; clear hb) | ((fail_if_success (have _q := A81)); go_at_call 10; (with_reducible refine (LeadingOf_any x _ Ax cx _ (tr _ Ax)).mono ?_); rintro e81 w81 ⟨A81, c81, he, hf, hb⟩; rw [GL.e, GL.p, GL.q, GL.b] at he; rw [GL.e] at hf; subst he; haveI : Bel _ w81 := ⟨hb⟩; haveI := Fs.of hf; clear hf hb) | ((with_reducible refine at_dst (N := 14) rfl ?_); refine ev_box (cs := #[.slice none 0 0]) (t := 26) rfl ?hr14 ?_; (case hr14 => first | (go_simp; done) | (go_simp; rfl)); intro g14 v14 _ _ _ _) | ((with_reducible refine at_dst (N := 15) rfl ?_); refine ev_box (cs := #[.int .i64 0, .int .i64 0]) (t := 29) rfl ?hr15 ?_; (case hr15 => first | (go_simp; done) | (go_simp; rfl)); intro g15 v15 _ _ _ _) | ((fail_if_success (have _q := A87)); go_at_call 11; (with_reducible refine (sLeadingOf_any x _ Ax cx _ (tr _ Ax)).mono ?_); rintro e87 w87 ⟨A87, c87, he, hf, hb⟩; rw [GL.e, GL.p, GL.q, GL.b] at he; rw [GL.e] at hf; subst he; haveI : Bel _ w87 := ⟨hb⟩; haveI := Fs.of hf; clear hf hb) | ((with_reducible refine at_dst (N := 17) rfl ?_); refine ev_box (cs := #[.slice none 0 0]) (t := 26) rfl ?hr17 ?_; (case hr17 => first | (go_simp; done) | (go_simp; rfl)); intro g17 v17 _ _ _ _) | ((with_reducible refine at_dst (N := 18) rfl ?_); refine ev_box (cs := #[.int .i64 0, .int .i64 0]) (t := 29) rfl ?hr18 ?_; (case hr18 => first | (go_simp; done) | (go_simp; rfl)); intro g18 v18 _ _ _ _) | ((fail_if_success (have _q := w97)); go_at_call 9; (with_reducible refine (same_any _ E _ _ A81 A87 _ _ _ (Nat.le_refl _) (tr _ A81) (tr _ A87)).mono ?_); rintro e97 w97 ⟨rfl, hb⟩; haveI : Bel _ w97 := ⟨hb⟩; clear hb) | ((fail_if_success (have _q := A107)); go_at_call 12; (with_reducible refine (IntegerPart_any x _ Ax cx _ (tr _ Ax)).mono ?_); rintro e107 w107 ⟨A107, c107, he, hf, hb⟩; rw [GN.hz, GN.hb] at he; rw [GN.hz] at hf; subst he; haveI : Bel _ w107 := ⟨hb⟩; haveI := Fs.of hf; clear hf hb) | ((with_reducible refine at_dst (N := 20) rfl ?_); refine ev_box (cs := #[.slice none 0 0]) (t := 26) rfl ?hr20 ?_; (case hr20 => first | (go_simp; done) | (go_simp; rfl)); intro g20 v20 _ _ _ _) | ((fail_if_success (have _q := A112)); go_at_call 13; (with_reducible refine (sIntegerPart_any x _ Ax cx _ (tr _ Ax)).mono ?_); rintro e112 w112 ⟨A112, c112, he, hf, hb⟩; rw [GN.hz, GN.hb] at he; rw [GN.hz] at hf; subst he; haveI : Bel _ w112 := ⟨hb⟩; haveI := Fs.of hf; clear hf hb) | ((with_reducible refine at_dst (N := 22) rfl ?_); refine ev_box (cs := #[.slice none 0 0]) (t := 26) rfl ?hr22 ?_; (case hr22 => first | (go_simp; done) | (go_simp; rfl)); intro g22 v22 _ _ _ _) | ((fail_if_success (have _q := w121)); go_at_call 9; (with_reducible refine (same_any _ N _ _ A107 A112 _ _ _ (Nat.le_refl _) (tr _ A107) (tr _ A112)).mono ?_); rintro e121 w121 ⟨rfl, hb⟩; haveI : Bel _ w121 := ⟨hb⟩; clear hb))
  cases ok
  · go_wp2
    go_ret
    exact ⟨rfl, ext w _⟩
  obtain ⟨Y, Z, SG⟩ := sumG GP
  have HG := Lib.hid GP.ok
  obtain ⟨ob, hob⟩ : ∃ ob, omnB x = ob := ⟨_, rfl⟩
  have HOB := Lib.hid hob
  have HOM := Lib.hid (hob.symm.trans SG.om)
  clear hob
  go_upto_region 24 with (first | (go_at_call 14; (with_reducible refine (FromFraction_any p q _ SG.ip SG.iq).mono ?_); rintro e128 w128 ⟨A128, c128, he, hf, hb⟩; rw [SG.y] at he hf; simp only [Option.getD_some, Option.isSome_some] at he hf; subst he; haveI : Bel _ w128 := ⟨hb⟩; haveI := Fs.of hf; clear hf hb) | ((with_reducible refine at_dst (N := 24) rfl ?_); refine ev_box (cs := #[.slice none 0 0]) (t := 26) rfl ?hr24 ?_; (case hr24 => first | (go_simp; done) | (go_simp; rfl)); intro g24 v24 _ _ _ _) | ((fail_if_success (have _q := A134)); go_at_call 15; (with_reducible refine (AddSurreals_any H Y _ _ A47 A128 _ _ _ (tr _ A47) (tr _ A128)).mono ?_); rintro e134 w134 ⟨A134, c134, he, hf, hb⟩; rw [SG.z] at he hf; simp only [Option.getD_some, Option.isSome_some] at he hf; subst he; haveI : Bel _ w134 := ⟨hb⟩; haveI := Fs.of hf; clear hf hb) | ((with_reducible refine at_dst (N := 26) rfl ?_); refine ev_box (cs := #[.slice none 0 0]) (t := 26) rfl ?hr26 ?_; (case hr26 => first | (go_simp; done) | (go_simp; rfl)); intro g26 v26 _ _ _ _) | ((fail_if_success (have _q := A140)); go_at_call 15; (with_reducible refine (AddSurreals_any Z L _ _ A134 B47 _ _ _ (tr _ A134) (tr _ B47)).mono ?_); rintro e140 w140 ⟨A140, c140, he, hf, hb⟩; rw [SG.v] at he hf; simp only [Option.getD_some, Option.isSome_some] at he hf; subst he; haveI : Bel _ w140 := ⟨hb⟩; haveI := Fs.of hf; clear hf hb) | ((with_reducible refine at_dst (N := 28) rfl ?_); refine ev_box (cs := #[.slice none 0 0]) (t := 26) rfl ?hr28 ?_; (case hr28 => first | (go_simp; done) | (go_simp; rfl)); intro g28 v28 _ _ _ _) | ((fail_if_success (have _q := w156)); go_at_call 9; (with_reducible refine (same_any _ x _ _ A140 Ax _ _ _ (Nat.le_refl _) (tr _ A140) (tr _ Ax)).mono ?_); rintro e156 w156 ⟨rfl, hb⟩; haveI : Bel _ w156 := ⟨hb⟩; clear hb) | ((fail_if_success (have _q := w161)); go_at_call 16; (with_reducible refine (IsOmnific_any x _ Ax _ _ (tr _ Ax)).mono ?_); rintro e161 w161 ⟨he, hb⟩; rw [HOB.out, HG.out] at he; subst he; haveI : Bel _ w161 := ⟨hb⟩; clear hb))
  go_cut [178] (fun s178 wx => s178 = .bool false ∧ Bel w161 wx)
  case first =>
    by_cases hq : q = 1
    · by_cases hl : L.len = 0
      · obtain rfl : ob = true := by rw [HOM.out]; simp [hq, hl]
        clear HOM
        go_wp2
        go_meet
        exact ⟨rfl, ⟨ext _ _⟩⟩
      · obtain rfl : ob = false := by rw [HOM.out]; simp [hq, hl]
        have hl' : ((L.len : Int) == 0) = false := by simp; omega
        clear HOM hl
        go_wp2
        go_meet
        exact ⟨rfl, ⟨ext _ _⟩⟩
    · obtain rfl : ob = false := by rw [HOM.out]; simp [hq]
      have hq' : (q == 1) = false := by simpa using hq
      clear HOM hq
      go_wp2
      go_meet
      exact ⟨rfl, ⟨ext _ _⟩⟩
  case rest =>
    rename World => wx
    obtain ⟨rfl, _⟩ := hcut
    clear HOM
    cases nb
    · go_wp2
      go_ret
      exact ⟨rfl, ext w _⟩
    obtain ⟨a, IG⟩ := intG HG.out GN.some
    have ha := IG.le
    rw [HOB.out] at ha
    have HA := Lib.hid ha
    clear ha
    go_upto_region 30 with (first | ((fail_if_success (have _q := w183)); go_at_call 16; (with_reducible refine (IsOmnific_any N _ A107 _ _ (tr _ A107)).mono ?_); rintro e183 w183 ⟨he, hb⟩; rw [IG.om, IG.gn] at he; subst he; haveI : Bel _ w183 := ⟨hb⟩; clear hb) | ((fail_if_success (have _q := w189)); go_at_call 17; (with_reducible refine (CompareSurreals_any N x _ _ A107 Ax _ _ _ (tr _ A107) (tr _ Ax)).mono ?_); rintro e189 w189 ⟨he, hb⟩; rw [IG.cmp, IG.gg] at he; subst he; haveI : Bel _ w189 := ⟨hb⟩; clear hb))
    go_cut [212] (fun s212 wy => s212 = .bool false ∧ Bel w189 wy)
    case first =>
      rcases HA.out with rfl | ⟨rfl, rfl⟩
      · cases ob
        · go_wp2
          go_meet
          exact ⟨rfl, ⟨ext _ _⟩⟩
        · go_wp2
          go_meet
          exact ⟨rfl, ⟨ext _ _⟩⟩
      · go_wp2
        go_meet
        exact ⟨rfl, ⟨ext _ _⟩⟩
    case rest =>
      rename World => wy
      obtain ⟨rfl, _⟩ := hcut
      obtain ⟨I1, hI1⟩ : ∃ I1, Sur.cons .nil 1 1 .nil = I1 := ⟨_, rfl⟩
      have HO := Lib.hid hI1
      clear hI1
      go_upto_region 32 with fail
      refine wp_region_held_drew (S := (fun w' => w'.cell? ⟨g20, 0, none⟩ = some (.slice A107 N.len c107))) (by kernel_rfl) ?hSn1_ (fun hHeld => ?hRn1_)
      case hSn1_ => (exact has1)
      refine wpAnyH_take (i := 0) (oi := _) (v := ?vn1_1) rfl (by kernel_rfl) (by kernel_rfl) (by kernel_rfl) (fun _ _ _ h => h) (Or.inl ⟨by rfl, ?hyn1_1⟩) (by assumption) ?hRn1_1
      case hyn1_1 => (intro w hSw; (try dsimp only at hSw); go_simp; (try with_reducible rfl))
      try simp only [Act.put, List.getElem_toArray, List.getElem_cons_zero, List.getElem_cons_succ, List.setIfInBounds_toArray, List.set_cons_zero, List.set_cons_succ]
      refine wpAnyH_ready (rs := [1, 6]) (by kernel_rfl) (by simp) ?_
      refine AllReadyH.cons (o := _) rfl (fun K hK => ?bn1_2) (AllReadyH.cons (o := _) rfl (fun K hK => ?bn1_3) (AllReadyH.nil))
      case' bn1_2 =>
        go_simp
        ((go_at_call 18; (with_reducible refine (qWhole_any 1 _ (by unfold I64; omega)).mono ?_); rintro e215 w215 ⟨A215, c215, he, hf, hb⟩; rw [qOne, HO.out] at he hf; subst he; haveI : Bel _ w215 := ⟨hb⟩; haveI := Fs.of hf; clear hf hb))
        go_wp2_with fail
        refine hK.out _ _ ?hSn1_4 (fun hHeld => ?hRn1_4)
        case hSn1_4 => ((try dsimp only); exact has1)
        clear hK K
        try simp only [Act.put, List.getElem_toArray, List.getElem_cons_zero, List.getElem_cons_succ, List.setIfInBounds_toArray, List.set_cons_zero, List.set_cons_succ]
        refine wpAnyH_ready (rs := [2, 6]) (by kernel_rfl) (by simp) ?_
        refine AllReadyH.cons (o := _) rfl (fun K hK => ?bn1_5) (AllReadyH.cons (o := _) rfl (fun K hK => ?bn1_6) (AllReadyH.nil))
        case' bn1_5 =>
          go_simp
          (((fail_if_success (have _q := A216)); go_at_call 15; (with_reducible refine (AddSurreals_any N I1 _ _ A107 A215 _ _ _ (tr _ A107) (tr _ A215)).mono ?_); rintro e216 w216 ⟨A216, c216, he, hf, hb⟩; obtain ⟨z, zb, GZ⟩ := optH (addS N I1); rw [GZ.hz, GZ.hb] at he; rw [GZ.hz] at hf; subst he; haveI : Bel _ w216 := ⟨hb⟩; haveI := Fs.of hf; clear hf hb))
          go_wp2_with fail
          refine hK.out _ _ ?hSn1_7 (fun hHeld => ?hRn1_7)
          case hSn1_7 => ((try dsimp only); exact has1)
          clear hK K
          try simp only [Act.put, List.getElem_toArray, List.getElem_cons_zero, List.getElem_cons_succ, List.setIfInBounds_toArray, List.set_cons_zero, List.set_cons_succ]
          refine wpAnyH_take (i := 3) (oi := _) (v := ?vn1_8) rfl (by kernel_rfl) (by kernel_rfl) (by kernel_rfl) (fun _ _ _ h => h) (Or.inl ⟨by rfl, ?hyn1_8⟩) (by assumption) ?hRn1_8
          case hyn1_8 => (intro w hSw; (try dsimp only at hSw); go_simp; (try with_reducible rfl))
          try simp only [Act.put, List.getElem_toArray, List.getElem_cons_zero, List.getElem_cons_succ, List.setIfInBounds_toArray, List.set_cons_zero, List.set_cons_succ]
          refine wpAnyH_take (i := 4) (oi := _) (v := ?vn1_9) rfl (by kernel_rfl) (by kernel_rfl) (by kernel_rfl) (fun _ _ _ h => h) (Or.inl ⟨by rfl, ?hyn1_9⟩) (by assumption) ?hRn1_9
          case hyn1_9 => (intro w hSw; (try dsimp only at hSw); go_simp; (try with_reducible rfl))
          try simp only [Act.put, List.getElem_toArray, List.getElem_cons_zero, List.getElem_cons_succ, List.setIfInBounds_toArray, List.set_cons_zero, List.set_cons_succ]
          refine wpAnyH_take (i := 5) (oi := _) (v := ?vn1_10) rfl (by kernel_rfl) (by kernel_rfl) (by kernel_rfl) (fun _ _ _ h => h) (Or.inl ⟨by rfl, ?hyn1_10⟩) (by assumption) ?hRn1_10
          case hyn1_10 => (intro w hSw; (try dsimp only at hSw); go_simp; (try with_reducible rfl))
          try simp only [Act.put, List.getElem_toArray, List.getElem_cons_zero, List.getElem_cons_succ, List.setIfInBounds_toArray, List.set_cons_zero, List.set_cons_succ]
          refine wpAnyH_ready (rs := [6]) (by kernel_rfl) (by simp) ?_
          refine AllReadyH.cons (o := _) rfl (fun K hK => ?_) AllReadyH.nil
          go_simp
          refine hK.out _ _ ?hSn1_11 (fun hHeld => ?hRn1_11)
          case hSn1_11 => ((try dsimp only); exact has1)
          clear hK K
          try simp only [Act.put, List.getElem_toArray, List.getElem_cons_zero, List.getElem_cons_succ, List.setIfInBounds_toArray, List.set_cons_zero, List.set_cons_succ]
          refine wpAnyH_ready (rs := [7]) (by kernel_rfl) (by simp) ?_
          refine AllReadyH.cons (o := _) rfl (fun K hK => ?_) AllReadyH.nil
          go_simp
          refine hK.out _ _ ?hSn1_12 (fun hHeld => ?hRn1_12)
          case hSn1_12 => ((try dsimp only); exact has1)
          clear hK K
          try simp only [Act.put, List.getElem_toArray, List.getElem_cons_zero, List.getElem_cons_succ, List.setIfInBounds_toArray, List.set_cons_zero, List.set_cons_succ]
          refine wpAnyH_take (i := 8) (oi := _) (v := ?vn1_13) rfl (by kernel_rfl) (by kernel_rfl) (by kernel_rfl) (fun _ _ _ h => h) (Or.inl ⟨by rfl, ?hyn1_13⟩) (by assumption) ?hRn1_13
          case hyn1_13 => (intro w hSw; (try dsimp only at hSw); go_simp; (try with_reducible rfl))
          try simp only [Act.put, List.getElem_toArray, List.getElem_cons_zero, List.getElem_cons_succ, List.setIfInBounds_toArray, List.set_cons_zero, List.set_cons_succ]
          refine wpAnyH_done (by kernel_rfl) ?_ _
        case' bn1_6 =>
          go_simp
          refine hK.out _ _ ?hSn1_14 (fun hHeld => ?hRn1_14)
          case hSn1_14 => ((try dsimp only); exact has1)
          clear hK K
          try simp only [Act.put, List.getElem_toArray, List.getElem_cons_zero, List.getElem_cons_succ, List.setIfInBounds_toArray, List.set_cons_zero, List.set_cons_succ]
          refine wpAnyH_ready (rs := [2]) (by kernel_rfl) (by simp) ?_
          refine AllReadyH.cons (o := _) rfl (fun K hK => ?_) AllReadyH.nil
          go_simp
          (((fail_if_success (have _q := A216)); go_at_call 15; (with_reducible refine (AddSurreals_any N I1 _ _ A107 A215 _ _ _ (tr _ A107) (tr _ A215)).mono ?_); rintro e216 w216 ⟨A216, c216, he, hf, hb⟩; obtain ⟨z, zb, GZ⟩ := optH (addS N I1); rw [GZ.hz, GZ.hb] at he; rw [GZ.hz] at hf; subst he; haveI : Bel _ w216 := ⟨hb⟩; haveI := Fs.of hf; clear hf hb))
          go_wp2_with fail
          refine hK.out _ _ ?hSn1_15 (fun hHeld => ?hRn1_15)
          case hSn1_15 => ((try dsimp only); exact has1)
          clear hK K
          try simp only [Act.put, List.getElem_toArray, List.getElem_cons_zero, List.getElem_cons_succ, List.setIfInBounds_toArray, List.set_cons_zero, List.set_cons_succ]
          refine wpAnyH_take (i := 3) (oi := _) (v := ?vn1_16) rfl (by kernel_rfl) (by kernel_rfl) (by kernel_rfl) (fun _ _ _ h => h) (Or.inl ⟨by rfl, ?hyn1_16⟩) (by assumption) ?hRn1_16
          case hyn1_16 => (intro w hSw; (try dsimp only at hSw); go_simp; (try with_reducible rfl))
          try simp only [Act.put, List.getElem_toArray, List.getElem_cons_zero, List.getElem_cons_succ, List.setIfInBounds_toArray, List.set_cons_zero, List.set_cons_succ]
          refine wpAnyH_take (i := 4) (oi := _) (v := ?vn1_17) rfl (by kernel_rfl) (by kernel_rfl) (by kernel_rfl) (fun _ _ _ h => h) (Or.inl ⟨by rfl, ?hyn1_17⟩) (by assumption) ?hRn1_17
          case hyn1_17 => (intro w hSw; (try dsimp only at hSw); go_simp; (try with_reducible rfl))
          try simp only [Act.put, List.getElem_toArray, List.getElem_cons_zero, List.getElem_cons_succ, List.setIfInBounds_toArray, List.set_cons_zero, List.set_cons_succ]
          refine wpAnyH_take (i := 5) (oi := _) (v := ?vn1_18) rfl (by kernel_rfl) (by kernel_rfl) (by kernel_rfl) (fun _ _ _ h => h) (Or.inl ⟨by rfl, ?hyn1_18⟩) (by assumption) ?hRn1_18
          case hyn1_18 => (intro w hSw; (try dsimp only at hSw); go_simp; (try with_reducible rfl))
          try simp only [Act.put, List.getElem_toArray, List.getElem_cons_zero, List.getElem_cons_succ, List.setIfInBounds_toArray, List.set_cons_zero, List.set_cons_succ]
          refine wpAnyH_ready (rs := [7]) (by kernel_rfl) (by simp) ?_
          refine AllReadyH.cons (o := _) rfl (fun K hK => ?_) AllReadyH.nil
          go_simp
          refine hK.out _ _ ?hSn1_19 (fun hHeld => ?hRn1_19)
          case hSn1_19 => ((try dsimp only); exact has1)
          clear hK K
          try simp only [Act.put, List.getElem_toArray, List.getElem_cons_zero, List.getElem_cons_succ, List.setIfInBounds_toArray, List.set_cons_zero, List.set_cons_succ]
          refine wpAnyH_take (i := 8) (oi := _) (v := ?vn1_20) rfl (by kernel_rfl) (by kernel_rfl) (by kernel_rfl) (fun _ _ _ h => h) (Or.inl ⟨by rfl, ?hyn1_20⟩) (by assumption) ?hRn1_20
          case hyn1_20 => (intro w hSw; (try dsimp only at hSw); go_simp; (try with_reducible rfl))
          try simp only [Act.put, List.getElem_toArray, List.getElem_cons_zero, List.getElem_cons_succ, List.setIfInBounds_toArray, List.set_cons_zero, List.set_cons_succ]
          refine wpAnyH_done (by kernel_rfl) ?_ _
      case' bn1_3 =>
        go_simp
        refine hK.out _ _ ?hSn1_21 (fun hHeld => ?hRn1_21)
        case hSn1_21 => ((try dsimp only); exact has1)
        clear hK K
        try simp only [Act.put, List.getElem_toArray, List.getElem_cons_zero, List.getElem_cons_succ, List.setIfInBounds_toArray, List.set_cons_zero, List.set_cons_succ]
        refine wpAnyH_ready (rs := [1]) (by kernel_rfl) (by simp) ?_
        refine AllReadyH.cons (o := _) rfl (fun K hK => ?_) AllReadyH.nil
        go_simp
        ((go_at_call 18; (with_reducible refine (qWhole_any 1 _ (by unfold I64; omega)).mono ?_); rintro e215 w215 ⟨A215, c215, he, hf, hb⟩; rw [qOne, HO.out] at he hf; subst he; haveI : Bel _ w215 := ⟨hb⟩; haveI := Fs.of hf; clear hf hb))
        go_wp2_with fail
        refine hK.out _ _ ?hSn1_22 (fun hHeld => ?hRn1_22)
        case hSn1_22 => ((try dsimp only); exact has1)
        clear hK K
        try simp only [Act.put, List.getElem_toArray, List.getElem_cons_zero, List.getElem_cons_succ, List.setIfInBounds_toArray, List.set_cons_zero, List.set_cons_succ]
        refine wpAnyH_ready (rs := [2]) (by kernel_rfl) (by simp) ?_
        refine AllReadyH.cons (o := _) rfl (fun K hK => ?_) AllReadyH.nil
        go_simp
        (((fail_if_success (have _q := A216)); go_at_call 15; (with_reducible refine (AddSurreals_any N I1 _ _ A107 A215 _ _ _ (tr _ A107) (tr _ A215)).mono ?_); rintro e216 w216 ⟨A216, c216, he, hf, hb⟩; obtain ⟨z, zb, GZ⟩ := optH (addS N I1); rw [GZ.hz, GZ.hb] at he; rw [GZ.hz] at hf; subst he; haveI : Bel _ w216 := ⟨hb⟩; haveI := Fs.of hf; clear hf hb))
        go_wp2_with fail
        refine hK.out _ _ ?hSn1_23 (fun hHeld => ?hRn1_23)
        case hSn1_23 => ((try dsimp only); exact has1)
        clear hK K
        try simp only [Act.put, List.getElem_toArray, List.getElem_cons_zero, List.getElem_cons_succ, List.setIfInBounds_toArray, List.set_cons_zero, List.set_cons_succ]
        refine wpAnyH_take (i := 3) (oi := _) (v := ?vn1_24) rfl (by kernel_rfl) (by kernel_rfl) (by kernel_rfl) (fun _ _ _ h => h) (Or.inl ⟨by rfl, ?hyn1_24⟩) (by assumption) ?hRn1_24
        case hyn1_24 => (intro w hSw; (try dsimp only at hSw); go_simp; (try with_reducible rfl))
        try simp only [Act.put, List.getElem_toArray, List.getElem_cons_zero, List.getElem_cons_succ, List.setIfInBounds_toArray, List.set_cons_zero, List.set_cons_succ]
        refine wpAnyH_take (i := 4) (oi := _) (v := ?vn1_25) rfl (by kernel_rfl) (by kernel_rfl) (by kernel_rfl) (fun _ _ _ h => h) (Or.inl ⟨by rfl, ?hyn1_25⟩) (by assumption) ?hRn1_25
        case hyn1_25 => (intro w hSw; (try dsimp only at hSw); go_simp; (try with_reducible rfl))
        try simp only [Act.put, List.getElem_toArray, List.getElem_cons_zero, List.getElem_cons_succ, List.setIfInBounds_toArray, List.set_cons_zero, List.set_cons_succ]
        refine wpAnyH_take (i := 5) (oi := _) (v := ?vn1_26) rfl (by kernel_rfl) (by kernel_rfl) (by kernel_rfl) (fun _ _ _ h => h) (Or.inl ⟨by rfl, ?hyn1_26⟩) (by assumption) ?hRn1_26
        case hyn1_26 => (intro w hSw; (try dsimp only at hSw); go_simp; (try with_reducible rfl))
        try simp only [Act.put, List.getElem_toArray, List.getElem_cons_zero, List.getElem_cons_succ, List.setIfInBounds_toArray, List.set_cons_zero, List.set_cons_succ]
        refine wpAnyH_ready (rs := [7]) (by kernel_rfl) (by simp) ?_
        refine AllReadyH.cons (o := _) rfl (fun K hK => ?_) AllReadyH.nil
        go_simp
        refine hK.out _ _ ?hSn1_27 (fun hHeld => ?hRn1_27)
        case hSn1_27 => ((try dsimp only); exact has1)
        clear hK K
        try simp only [Act.put, List.getElem_toArray, List.getElem_cons_zero, List.getElem_cons_succ, List.setIfInBounds_toArray, List.set_cons_zero, List.set_cons_succ]
        refine wpAnyH_take (i := 8) (oi := _) (v := ?vn1_28) rfl (by kernel_rfl) (by kernel_rfl) (by kernel_rfl) (fun _ _ _ h => h) (Or.inl ⟨by rfl, ?hyn1_28⟩) (by assumption) ?hRn1_28
        case hyn1_28 => (intro w hSw; (try dsimp only at hSw); go_simp; (try with_reducible rfl))
        try simp only [Act.put, List.getElem_toArray, List.getElem_cons_zero, List.getElem_cons_succ, List.setIfInBounds_toArray, List.set_cons_zero, List.set_cons_succ]
        refine wpAnyH_done (by kernel_rfl) ?_ _
      all_goals
        cases zb
        · go_wp2
          go_ret
          exact ⟨rfl, ext w _⟩
        · have HZ := IG.nx z (by rw [HO.out]; exact GZ.some)
          go_wp2_with (first | ((fail_if_success (have _q := w223)); go_at_call 17; (with_reducible refine (CompareSurreals_any z x _ _ A216 Ax _ _ _ (tr _ A216) (tr _ Ax)).mono ?_); rintro e223 w223 ⟨he, hb⟩; rw [HZ.1, HZ.2] at he; subst he; haveI : Bel _ w223 := ⟨hb⟩; clear hb))
          go_ret
          exact ⟨rfl, ext w _⟩
end Go.Proofs.Ytphabopnbcgodaa
