/-
  The law FnExponentials: its walk.
-/
import Derived.Test.YtphabopnbcgodaaE3
import Derived.Test.YtphabopnbcgodaaLSame
import Derived.Test.YtphabopnbcgodaaE4
namespace Go.Proofs.Ytphabopnbcgodaa
open Go.RowKit
set_option linter.unusedSimpArgs false
set_option linter.unusedVariables false

/-- what the law returns -/
def RetLaw (w : World) (b : Bool) (e : Ending) (w' : World) : Prop := e = .returned (.bool b) ∧ Below w.heap.size w w'
structure OptH (o : Option Sur) (z : Sur) (b : Bool) : Prop where
  hz : o.getD .nil = z
  hb : o.isSome = b
theorem optH (o : Option Sur) : ∃ z b, OptH o z b := ⟨_, _, rfl, rfl⟩
theorem OptH.some {o : Option Sur} {z : Sur} (h : OptH o z true) : o = .some z := by
  cases o with
  | none => have := h.hb; simp at this
  | some v => have := h.hz; simp at this; rw [this]
theorem len_ne {x : Sur} (h : x.len ≠ 0) : x ≠ .nil := by rintro rfl; exact h rfl
attribute [local go_sem high] has_cell has_frozen
set_option synthInstance.maxHeartbeats 2000000 in
set_option synthInstance.maxSize 4000 in
set_option maxHeartbeats 8000000 in
set_option maxRecDepth 100000 in
theorem lawExps_any (A B : Option Addr) (n m c d : Nat) (w : World) (hco : Bytes w A n) (hcm : Bytes w B m) (hn : n ≤ maxLen) (hm : m ≤ maxLen) :
    Calls Try.prog 4 #[.slice A n c, .slice B m d] w (RetLaw w true) := by
  go_enter Try.func4, Try.ntmps4
  go_wp2_with fail
  (go_at_call 5; refine (big_any A B n m c d _ hn hm).mono ?_; rintro e31 w31 ⟨⟨b, rfl, hbb⟩, hw⟩; subst w31)
  cases b
  case' true =>
    clear hbb
    go_wp2
    go_ret
    exact ⟨rfl, ext _ _⟩
  obtain ⟨hn1, hm1⟩ := hbb rfl
  clear hbb
  go_upto_region 13 with (first | ((fail_if_success (have _q := A38)); go_at_call 19; (with_reducible refine (drawExp_any A n c _ (hco.below (ext w _)) hn1).mono ?_); rintro e38 w38 ⟨x, A38, c38, v, rfl, hx, hlx38, hv, hb⟩; haveI : Bel _ w38 := ⟨hb⟩; haveI := Tr.arg hx; clear hx hb) | ((with_reducible refine at_dst (N := 5) rfl ?_); refine ev_box (cs := #[.slice none 0 0]) (t := 26) rfl ?hr5 ?_; (case hr5 => first | (go_simp; done) | (go_simp; rfl)); intro g5 v5 _ _ _ _) | ((fail_if_success (have _q := A44)); go_at_call 20; (with_reducible refine (ExpTerms_any x v _ A38 _ _ (tr _ A38) (by unfold I64; omega)).mono ?_); rintro e44 w44 ⟨A44, c44, he, hf, hb⟩; obtain ⟨z44, b44, G44⟩ := optH (expT x v); rw [G44.hz, G44.hb] at he; rw [G44.hz] at hf; subst he; haveI : Bel _ w44 := ⟨hb⟩; haveI := Fs.of hf; clear hf hb) | ((with_reducible refine at_dst (N := 7) rfl ?_); refine ev_box (cs := #[.slice none 0 0]) (t := 26) rfl ?hr7 ?_; (case hr7 => first | (go_simp; done) | (go_simp; rfl)); intro g7 v7 _ _ _ _) | (go_at_call 21; (with_reducible refine (sExpTerms_any x v _ A38 _ _ (tr _ A38)).mono ?_); rintro e50 w50 ⟨A50, c50, he, hf, hb⟩; rw [sexTerms_expT, G44.hz, G44.hb] at he; rw [sexTerms_expT, G44.hz] at hf; subst he; haveI : Bel _ w50 := ⟨hb⟩; haveI := Fs.of hf; clear hf hb) | ((with_reducible refine at_dst (N := 9) rfl ?_); refine ev_box (cs := #[.slice none 0 0]) (t := 26) rfl ?hr9 ?_; (case hr9 => first | (go_simp; done) | (go_simp; rfl)); intro g9 v9 _ _ _ _) | ((fail_if_success (have _q := w59)); go_at_call 9; (with_reducible refine (same_any _ z44 _ _ A44 A50 _ _ _ (Nat.le_refl _) (tr _ A44) (tr _ A50)).mono ?_); rintro e59 w59 ⟨rfl, hb⟩; haveI : Bel _ w59 := ⟨hb⟩; clear hb) | (go_at_call 22; (with_reducible refine (drawLog_any B m d _ (hcm.below (ext w _)) hm1).mono ?_); rintro e64 w64 ⟨z, A64, c64, v64, rfl, hx, hv64, hb⟩; haveI : Bel _ w64 := ⟨hb⟩; haveI := Tr.arg hx; clear hx hb) | ((with_reducible refine at_dst (N := 11) rfl ?_); refine ev_box (cs := #[.slice none 0 0]) (t := 26) rfl ?hr11 ?_; (case hr11 => first | (go_simp; done) | (go_simp; rfl)); intro g11 v11 _ _ _ _) | ((fail_if_success (have _q := A70)); go_at_call 23; (with_reducible refine (LogTerms_any z (v64) _ A64 _ _ (tr _ A64) (by unfold I64; omega)).mono ?_); rintro e70 w70 ⟨A70, c70, he, hf, hb⟩; obtain ⟨z70, b70, G70⟩ := optH (logT z (v64)); rw [G70.hz, G70.hb] at he; rw [G70.hz] at hf; subst he; haveI : Bel _ w70 := ⟨hb⟩; haveI := Fs.of hf; clear hf hb) | ((with_reducible refine at_dst (N := 13) rfl ?_); refine ev_box (cs := #[.slice none 0 0]) (t := 26) rfl ?hr13 ?_; (case hr13 => first | (go_simp; done) | (go_simp; rfl)); intro g13 v13 _ _ _ _) | (go_at_call 24; (with_reducible refine (sLogTerms_any z v64 _ A64 _ _ (tr _ A64)).mono ?_); rintro e76 w76 ⟨A76, c76, he, hf, hb⟩; rw [slogTerms_logT, G70.hz, G70.hb] at he; rw [slogTerms_logT, G70.hz] at hf; subst he; haveI : Bel _ w76 := ⟨hb⟩; haveI := Fs.of hf; clear hf hb) | ((with_reducible refine at_dst (N := 15) rfl ?_); refine ev_box (cs := #[.slice none 0 0]) (t := 26) rfl ?hr15 ?_; (case hr15 => first | (go_simp; done) | (go_simp; rfl)); intro g15 v15 _ _ _ _) | ((fail_if_success (have _q := w85)); go_at_call 9; (with_reducible refine (same_any _ z70 _ _ A70 A76 _ _ _ (Nat.le_refl _) (tr _ A70) (tr _ A76)).mono ?_); rintro e85 w85 ⟨rfl, hb⟩; haveI : Bel _ w85 := ⟨hb⟩; clear hb))
  go_cut [99] (fun s99 wx => ∃ b : Bool, s99 = .bool b ∧ Hid (b = false → b44 = true ∧ v ≠ 0 ∧ x.len ≠ 0) ∧ Bel w85 wx)
  case first => as_aux_lemma =>
    cases b44
    · go_wp2
      go_meet
      exact ⟨true, rfl, fun h => (by cases h), ⟨ext _ _⟩⟩
    · by_cases hv0 : v = 0
      · have hv0' : (v == 0) = true := by simpa using hv0
        clear hv0
        go_wp2
        go_meet
        exact ⟨true, rfl, fun h => (by cases h), ⟨ext _ _⟩⟩
      · have HV := Lib.hid hv0
        have hv0' : (v == 0) = false := by simpa using hv0
        clear hv0
        by_cases hl0 : x.len = 0
        · have hl0' : ((x.len : Int) == 0) = true := by simpa using hl0
          clear hl0
          go_wp2
          go_meet
          exact ⟨true, rfl, fun h => (by cases h), ⟨ext _ _⟩⟩
        · have HX := Lib.hid hl0
          have hl0' : ((x.len : Int) == 0) = false := by simp; omega
          clear hl0
          go_wp2
          go_meet
          exact ⟨false, rfl, fun _ => ⟨by simp, HV.out, HX.out⟩, ⟨ext _ _⟩⟩
  case rest => as_aux_lemma =>
    rename World => wx
    obtain ⟨b, rfl, HB, _⟩ := hcut
    cases b
    case' true =>
      go_wp2
      go_ret
      exact ⟨rfl, ext w _⟩
    obtain ⟨rfl, hv0, hxl⟩ := HB.out rfl
    have HV0 := Lib.hid hv0
    have HXL := Lib.hid hxl
    have hv12 : 0 ≤ v ∧ v ≤ 12 := ⟨(expT_fn G44.some).2.2.2.1, (expT_fn G44.some).2.2.2.2.1⟩
    clear hv0 hxl hv HB
    go_upto_region 20 with (first | ((fail_if_success (have _q := A102)); go_at_call 19; (with_reducible refine (drawExp_any B m d _ (hcm.below (ext w _)) hm1).mono ?_); rintro e102 w102 ⟨y, A102, c102, v102, rfl, hx, hlx102, hv102, hb⟩; haveI : Bel _ w102 := ⟨hb⟩; haveI := Tr.arg hx; clear hx hb) | ((with_reducible refine at_dst (N := 17) rfl ?_); refine ev_box (cs := #[.slice none 0 0]) (t := 26) rfl ?hr17 ?_; (case hr17 => first | (go_simp; done) | (go_simp; rfl)); intro g17 v17 _ _ _ _) | ((fail_if_success (have _q := A108)); go_at_call 20; (with_reducible refine (ExpTerms_any y v _ A102 _ _ (tr _ A102) (by unfold I64; omega)).mono ?_); rintro e108 w108 ⟨A108, c108, he, hf, hb⟩; obtain ⟨z108, b108, G108⟩ := optH (expT y v); rw [G108.hz, G108.hb] at he; rw [G108.hz] at hf; subst he; haveI : Bel _ w108 := ⟨hb⟩; haveI := Fs.of hf; clear hf hb) | ((with_reducible refine at_dst (N := 19) rfl ?_); refine ev_box (cs := #[.slice none 0 0]) (t := 26) rfl ?hr19 ?_; (case hr19 => first | (go_simp; done) | (go_simp; rfl)); intro g19 v19 _ _ _ _) | ((fail_if_success (have _q := A114)); go_at_call 15; (with_reducible refine (AddSurreals_any x y _ _ A38 A102 _ _ _ (tr _ A38) (tr _ A102)).mono ?_); rintro e114 w114 ⟨A114, c114, he, hf, hb⟩; obtain ⟨z114, b114, G114⟩ := optH (addS x y); rw [G114.hz, G114.hb] at he; rw [G114.hz] at hf; subst he; haveI : Bel _ w114 := ⟨hb⟩; haveI := Fs.of hf; clear hf hb) | ((with_reducible refine at_dst (N := 21) rfl ?_); refine ev_box (cs := #[.slice none 0 0]) (t := 26) rfl ?hr21 ?_; (case hr21 => first | (go_simp; done) | (go_simp; rfl)); intro g21 v21 _ _ _ _) | ((fail_if_success (have _q := A120)); go_at_call 20; (with_reducible refine (ExpTerms_any z114 v _ A114 _ _ (tr _ A114) (by unfold I64; omega)).mono ?_); rintro e120 w120 ⟨A120, c120, he, hf, hb⟩; obtain ⟨z120, b120, G120⟩ := optH (expT z114 v); rw [G120.hz, G120.hb] at he; rw [G120.hz] at hf; subst he; haveI : Bel _ w120 := ⟨hb⟩; haveI := Fs.of hf; clear hf hb) | ((with_reducible refine at_dst (N := 23) rfl ?_); refine ev_box (cs := #[.slice none 0 0]) (t := 26) rfl ?hr23 ?_; (case hr23 => first | (go_simp; done) | (go_simp; rfl)); intro g23 v23 _ _ _ _) | ((fail_if_success (have _q := A126)); go_at_call 25; (with_reducible refine (MultiplySurreals_any z44 z108 _ _ A44 A108 _ _ _ (tr _ A44) (tr _ A108)).mono ?_); rintro e126 w126 ⟨A126, c126, he, hf, hb⟩; obtain ⟨z126, b126, G126⟩ := optH (mulS z44 z108); rw [G126.hz, G126.hb] at he; rw [G126.hz] at hf; subst he; haveI : Bel _ w126 := ⟨hb⟩; haveI := Fs.of hf; clear hf hb) | ((with_reducible refine at_dst (N := 25) rfl ?_); refine ev_box (cs := #[.slice none 0 0]) (t := 26) rfl ?hr25 ?_; (case hr25 => first | (go_simp; done) | (go_simp; rfl)); intro g25 v25 _ _ _ _))
    go_cut [144] (fun s144 wy => ∃ b : Bool, s144 = .bool b ∧ Hid (b = true → b108 = true ∧ b114 = true ∧ b120 = true ∧ b126 = true ∧ y.len ≠ 0) ∧ Bel (World.setCell v25 ⟨g25, 0, none⟩ (.slice A126 z126.len c126)) wy)
    case first => as_aux_lemma =>
      cases b108
      · go_wp2
        go_meet
        exact ⟨false, rfl, fun h => (by cases h), ⟨ext _ _⟩⟩
      · cases b114
        · go_wp2
          go_meet
          exact ⟨false, rfl, fun h => (by cases h), ⟨ext _ _⟩⟩
        · cases b120
          · go_wp2
            go_meet
            exact ⟨false, rfl, fun h => (by cases h), ⟨ext _ _⟩⟩
          · cases b126
            · go_wp2
              go_meet
              exact ⟨false, rfl, fun h => (by cases h), ⟨ext _ _⟩⟩
            · go_wp2
              go_meet
              exact ⟨_, rfl, fun h => ⟨by simp, by simp, by simp, by simp, by have := of_decide_eq_true h; omega⟩, ⟨ext _ _⟩⟩
    case rest => as_aux_lemma =>
      rename World => wy
      obtain ⟨b, rfl, HB, _⟩ := hcut
      go_upto_if 144 with fail
      go_cut [] (fun wz => Bel wy wz)
      case first => as_aux_lemma =>
        cases b
        · go_wp2
          go_meet
          exact ⟨ext _ _⟩
        · obtain ⟨rfl, rfl, rfl, rfl, hyl⟩ := HB.out rfl
          have HL : Hid (z120.len ≤ 1099511627776) := by have := (sGood_len (expT_fn G120.some).2.2.1).1; show _ ≤ _; omega
          have HNE : Hid (x ≠ .nil ∧ y ≠ .nil) := ⟨len_ne HXL.out, len_ne hyl⟩
          clear hyl HB
          go_upto_region 22 with (first | ((fail_if_success (have _q := A148)); go_at_call 26; (with_reducible refine (SubtractSurreals_any z126 z120 _ _ A126 A120 _ _ _ (tr _ A126) (tr _ A120) HL.out).mono ?_); rintro e148 w148 ⟨A148, c148, he, hf, hb⟩; obtain ⟨z148, b148, G148⟩ := optH (subS z126 z120); rw [G148.hz, G148.hb] at he; rw [G148.hz] at hf; subst he; haveI : Bel _ w148 := ⟨hb⟩; haveI := Fs.of hf; clear hf hb) | ((with_reducible refine at_dst (N := 27) rfl ?_); refine ev_box (cs := #[.slice none 0 0]) (t := 26) rfl ?hr27 ?_; (case hr27 => first | (go_simp; done) | (go_simp; rfl)); intro g27 v27 _ _ _ _))
          cases b148
          · go_wp2
            go_meet
            exact ⟨ext _ _⟩
          · have HQ := Lib.hid (exp_law HNE.out.1 HNE.out.2 G44.some G108.some G114.some G120.some G126.some G148.some)
            go_wp2_with (first | ((fail_if_success (have _q := w157)); go_at_call 27; (with_reducible refine (qBeyond_any z148 x y v _ _ _ A148 A38 A102 _ _ _ _ (tr _ A148) (tr _ A38) (tr _ A102) HNE.out.1 HNE.out.2 (by omega)).mono ?_); rintro e157 w157 ⟨he, hb⟩; rw [HQ.out] at he; subst he; haveI : Bel _ w157 := ⟨hb⟩; clear hb))
            go_meet
            exact ⟨ext _ _⟩
      case rest => as_aux_lemma =>
        rename World => wz
        haveI : Bel wy wz := hcut
        clear HB
        have hw1 : IntKind.i64.wrap (v - 1) = v - 1 := IntWalk.i64_in _ (by omega)
        go_upto_region 25 with (first | ((fail_if_success (have _q := A164)); go_at_call 23; (with_reducible refine (LogTerms_any z44 (v - 1) _ A44 _ _ (tr _ A44) (by unfold I64; omega)).mono ?_); rintro e164 w164 ⟨A164, c164, he, hf, hb⟩; obtain ⟨z164, b164, G164⟩ := optH (logT z44 (v - 1)); rw [G164.hz, G164.hb] at he; rw [G164.hz] at hf; subst he; haveI : Bel _ w164 := ⟨hb⟩; haveI := Fs.of hf; clear hf hb) | ((with_reducible refine at_dst (N := 29) rfl ?_); refine ev_box (cs := #[.slice none 0 0]) (t := 26) rfl ?hr29 ?_; (case hr29 => first | (go_simp; done) | (go_simp; rfl)); intro g29 v29 _ _ _ _))
        go_cut [171] (fun s171 wq => ∃ b : Bool, s171 = .bool b ∧ Hid (b = true → b164 = true ∧ 1 < v) ∧ Bel (World.setCell v29 ⟨g29, 0, none⟩ (.slice A164 z164.len c164)) wq)
        case first => as_aux_lemma =>
          cases b164
          · go_wp2
            go_meet
            exact ⟨false, rfl, fun h => (by cases h), ⟨ext _ _⟩⟩
          · by_cases hv1 : 1 < v
            · have HV1 := Lib.hid hv1
              go_wp2
              go_meet
              exact ⟨true, rfl, fun _ => ⟨by simp, HV1.out⟩, ⟨ext _ _⟩⟩
            · go_wp2
              go_meet
              exact ⟨false, rfl, fun h => (by cases h), ⟨ext _ _⟩⟩
        case rest => as_aux_lemma =>
          rename World => wq
          obtain ⟨b, rfl, HB, _⟩ := hcut
          cases b
          · clear HB
            go_wp2
            go_ret
            exact ⟨rfl, ext w _⟩
          · obtain ⟨rfl, hv1⟩ := HB.out rfl
            have HV1 := Lib.hid hv1
            have HL : Hid (x.len ≤ 1099511627776) := by show _ ≤ _; omega
            have HNE : Hid (x ≠ .nil ∧ x ≠ .nil) := ⟨len_ne HXL.out, len_ne HXL.out⟩
            clear hv1 HB
            go_upto_region 27 with (first | ((fail_if_success (have _q := A175)); go_at_call 26; (with_reducible refine (SubtractSurreals_any z164 x _ _ A164 A38 _ _ _ (tr _ A164) (tr _ A38) HL.out).mono ?_); rintro e175 w175 ⟨A175, c175, he, hf, hb⟩; obtain ⟨z175, b175, G175⟩ := optH (subS z164 x); rw [G175.hz, G175.hb] at he; rw [G175.hz] at hf; subst he; haveI : Bel _ w175 := ⟨hb⟩; haveI := Fs.of hf; clear hf hb) | ((with_reducible refine at_dst (N := 31) rfl ?_); refine ev_box (cs := #[.slice none 0 0]) (t := 26) rfl ?hr31 ?_; (case hr31 => first | (go_simp; done) | (go_simp; rfl)); intro g31 v31 _ _ _ _))
            cases b175
            · go_wp2
              go_ret
              exact ⟨rfl, ext w _⟩
            · have HQ := Lib.hid (log_law HV1.out HNE.out.1 G44.some G164.some G175.some)
              go_wp2_with (first | ((fail_if_success (have _q := w184)); go_at_call 27; (with_reducible refine (qBeyond_any z175 x x v _ _ _ A175 A38 A38 _ _ _ _ (tr _ A175) (tr _ A38) (tr _ A38) HNE.out.1 HNE.out.2 (by omega)).mono ?_); rintro e184 w184 ⟨he, hb⟩; rw [HQ.out] at he; subst he; haveI : Bel _ w184 := ⟨hb⟩; clear hb))
              go_ret
              exact ⟨rfl, ext w _⟩
end Go.Proofs.Ytphabopnbcgodaa
