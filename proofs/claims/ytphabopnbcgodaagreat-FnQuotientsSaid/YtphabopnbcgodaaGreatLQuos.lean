/-
  The law FnQuotients: its walk.
-/
import Derived.Test.YtphabopnbcgodaaGreatWExQ
import Derived.Test.YtphabopnbcgodaaGreatLSame
import Derived.Test.YtphabopnbcgodaaGreatSDraw7
namespace Go.Proofs.YtphabopnbcgodaaGreat
open Go.RowKit
set_option linter.unusedSimpArgs false
set_option linter.unusedVariables false

/-- what the law returns -/
def RetLaw (w : World) (b : Bool) (e : Ending) (w' : World) : Prop := e = .returned (.bool b) ∧ Below w.heap.size w w'
structure OptH (o : Option Sur) (z : Sur) (b : Bool) : Prop where
  hz : o.getD .nil = z
  hb : o.isSome = b
theorem optH (o : Option Sur) : ∃ z b, OptH o z b := ⟨_, _, rfl, rfl⟩
theorem OptH.some {o : Option Sur} {z : Sur} (h : OptH o z true) : o = .some z := by
  cases o with
  | none => have := h.hb; simp at this
  | some v => have := h.hz; simp at this; rw [this]
structure OptC (o : Bool × Bool) (a b : Bool) : Prop where
  h1 : o.1 = a
  h2 : o.2 = b
theorem optC (o : Bool × Bool) : ∃ a b, OptC o a b := ⟨_, _, rfl, rfl⟩
theorem optQ_len {x y q r : Sur} {n : Int} {ok : Bool} (h : OptQ (quoT x y n) q r ok) : q.len ≤ 12 := by
  cases ok
  · have e := h.none
    have := h.h1
    rw [e] at this
    rw [← this]
    simp [Sur.len]
  · exact quo_len h.some
attribute [local go_sem high] has_cell has_frozen
set_option synthInstance.maxHeartbeats 2000000 in
set_option synthInstance.maxSize 4000 in
set_option maxHeartbeats 8000000 in
set_option maxRecDepth 100000 in
theorem lawQuos_any (A B : Option Addr) (n m c d : Nat) (w : World) (hco : Bytes w A n) (hcm : Bytes w B m) (hn : n ≤ maxLen) (hm : m ≤ maxLen) :
    Calls Tryz.prog 4 #[.slice A n c, .slice B m d] w (RetLaw w true) := by
  go_enter Tryz.func4, Tryz.ntmps4
  go_wp2_with fail
  (go_at_call 7; refine (big_any A B n m c d _ hn hm).mono ?_; rintro e31 w31 ⟨⟨b, rfl, hbb⟩, hw⟩; subst w31)
  cases b
  case' true =>
    clear hbb
    go_wp2
    go_ret
    exact ⟨rfl, ext _ _⟩
  obtain ⟨hn1, hm1⟩ := hbb rfl
  clear hbb
  go_upto_region 8 with (first | (go_at_call 18; (with_reducible refine (drawQuo_any A n c _ (hco.below (ext w _)) hn1).mono ?_); rintro e39 w39 ⟨x, y, Ax, Ay, cx, cy, v, rfl, hx, hy, hv39, hb⟩; haveI : Bel _ w39 := ⟨hb⟩; haveI := Tr.arg hx; haveI := Tr.arg hy; clear hx hy hb) | ((with_reducible refine at_dst (N := 5) rfl ?_); refine ev_box (cs := #[.slice none 0 0]) (t := 26) rfl ?hr5 ?_; (case hr5 => first | (go_simp; done) | (go_simp; rfl)); intro g5 v5 _ _ _ _) | ((with_reducible refine at_dst (N := 6) rfl ?_); refine ev_box (cs := #[.slice none 0 0]) (t := 26) rfl ?hr6 ?_; (case hr6 => first | (go_simp; done) | (go_simp; rfl)); intro g6 v6 _ _ _ _) | (go_at_call 19; (with_reducible refine (QuotientTerms_any x y v _ _ Ax Ay _ _ _ (tr _ Ax) (tr _ Ay)).mono ?_); rintro e47 w47 ⟨A47, c47, B47, d47, he, hs, hs', hb⟩; obtain ⟨q, r, ok, GQ⟩ := optQ (quoT x y v); rw [GQ.h1, GQ.h2, GQ.hb] at he; rw [GQ.h1] at hs; rw [GQ.h2] at hs'; have HLq := Lib.hid (optQ_len GQ); have hlq : ¬ (12 : Int) < (q.len : Int) := (by have := HLq.out; omega); subst he; haveI : Bel _ w47 := ⟨hb⟩; haveI := Tr.arg hs; haveI := Tr.arg hs'; clear hs hs' hb) | ((with_reducible refine at_dst (N := 8) rfl ?_); refine ev_box (cs := #[.slice none 0 0]) (t := 26) rfl ?hr8 ?_; (case hr8 => first | (go_simp; done) | (go_simp; rfl)); intro g8 v8 _ _ _ _) | ((with_reducible refine at_dst (N := 9) rfl ?_); refine ev_box (cs := #[.slice none 0 0]) (t := 26) rfl ?hr9 ?_; (case hr9 => first | (go_simp; done) | (go_simp; rfl)); intro g9 v9 _ _ _ _) | (go_at_call 20; (with_reducible refine (sQuotientTerms_any x y v _ _ Ax Ay _ _ _ (tr _ Ax) (tr _ Ay)).mono ?_); rintro e55 w55 ⟨A55, c55, B55, d55, he, hs, hs', hb⟩; rw [squo_quoT, GQ.h1, GQ.h2, GQ.hb] at he; rw [squo_quoT, GQ.h1] at hs; rw [squo_quoT, GQ.h2] at hs'; subst he; haveI : Bel _ w55 := ⟨hb⟩; haveI := Tr.arg hs; haveI := Tr.arg hs'; clear hs hs' hb) | ((with_reducible refine at_dst (N := 11) rfl ?_); refine ev_box (cs := #[.slice none 0 0]) (t := 26) rfl ?hr11 ?_; (case hr11 => first | (go_simp; done) | (go_simp; rfl)); intro g11 v11 _ _ _ _) | ((with_reducible refine at_dst (N := 12) rfl ?_); refine ev_box (cs := #[.slice none 0 0]) (t := 26) rfl ?hr12 ?_; (case hr12 => first | (go_simp; done) | (go_simp; rfl)); intro g12 v12 _ _ _ _) | ((fail_if_success (have _q := w65)); go_at_call 11; (with_reducible refine (same_any _ q _ _ A47 A55 _ _ _ (Nat.le_refl _) (tr _ A47) (tr _ A55)).mono ?_); rintro e65 w65 ⟨rfl, hb⟩; haveI : Bel _ w65 := ⟨hb⟩; clear hb) | ((fail_if_success (have _q := w71)); go_at_call 11; (with_reducible refine (same_any _ r _ _ B47 B55 _ _ _ (Nat.le_refl _) (tr _ B47) (tr _ B55)).mono ?_); rintro e71 w71 ⟨rfl, hb⟩; haveI : Bel _ w71 := ⟨hb⟩; clear hb))
  go_upto_if 80 with fail
  go_cut [] (fun wx => Bel w71 wx)
  case first => as_aux_lemma =>
    cases ok
    · go_wp2
      go_meet
      exact ⟨ext _ _⟩
    · have HQ := Lib.hid GQ.some
      obtain ⟨k1, k2, GC⟩ := optC (chk x y q r)
      have HC : Hid (k2 = true → k1 = true) := by
        show _ → _
        rw [← GC.h1, ← GC.h2]
        exact quo_chk HQ.out
      go_upto_region 11 with (first | ((fail_if_success (have _q := A84)); go_at_call 16; (with_reducible refine (MultiplySurreals_any q y _ _ A47 Ay _ _ _ (tr _ A47) (tr _ Ay)).mono ?_); rintro e84 w84 ⟨A84, c84, he, hf, hb⟩; obtain ⟨z84, b84, G84⟩ := optH (mulS q y); rw [G84.hz, G84.hb] at he; rw [G84.hz] at hf; subst he; haveI : Bel _ w84 := ⟨hb⟩; haveI := Fs.of hf; clear hf hb) | ((with_reducible refine at_dst (N := 14) rfl ?_); refine ev_box (cs := #[.slice none 0 0]) (t := 26) rfl ?hr14 ?_; (case hr14 => first | (go_simp; done) | (go_simp; rfl)); intro g14 v14 _ _ _ _) | ((fail_if_success (have _q := A90)); go_at_call 21; (with_reducible refine (AddSurreals_any z84 r _ _ A84 B47 _ _ _ (tr _ A84) (tr _ B47)).mono ?_); rintro e90 w90 ⟨A90, c90, he, hf, hb⟩; obtain ⟨z90, b90, G90⟩ := optH (addS z84 r); rw [G90.hz, G90.hb] at he; rw [G90.hz] at hf; subst he; haveI : Bel _ w90 := ⟨hb⟩; haveI := Fs.of hf; clear hf hb) | ((with_reducible refine at_dst (N := 16) rfl ?_); refine ev_box (cs := #[.slice none 0 0]) (t := 26) rfl ?hr16 ?_; (case hr16 => first | (go_simp; done) | (go_simp; rfl)); intro g16 v16 _ _ _ _))
      go_cut [102] (fun s102 wx => s102 = .bool false ∧ Bel (World.setCell v16 ⟨g16, 0, none⟩ (.slice A90 z90.len c90)) wx)
      case first => as_aux_lemma =>
        cases b84
        · go_wp2
          go_meet
          exact ⟨rfl, ⟨ext _ _⟩⟩
        · cases b90
          · go_wp2
            go_meet
            exact ⟨rfl, ⟨ext _ _⟩⟩
          · obtain rfl := quo_back HQ.out G84.some G90.some
            go_wp2_with (first | ((fail_if_success (have _q := w100)); go_at_call 11; (with_reducible refine (same_any _ z90 _ _ A90 Ax _ _ _ (Nat.le_refl _) (tr _ A90) (tr _ Ax)).mono ?_); rintro e100 w100 ⟨rfl, hb⟩; haveI : Bel _ w100 := ⟨hb⟩; clear hb))
            go_meet
            exact ⟨rfl, ⟨ext _ _⟩⟩
      case rest => as_aux_lemma =>
        rename World => wy
        obtain ⟨rfl, _⟩ := hcut
        go_upto_region 14 with (first | ((fail_if_success (have _q := w108)); go_at_call 22; (with_reducible refine (CheckQuotient_any x y q r _ _ _ _ Ax Ay A47 B47 _ _ _ _ _ (tr _ Ax) (tr _ Ay) (tr _ A47) (tr _ B47)).mono ?_); rintro e108 w108 ⟨he, hb⟩; rw [GC.h1, GC.h2] at he; subst he; haveI : Bel _ w108 := ⟨hb⟩; clear hb))
        cases k2
        · go_wp2
          go_meet
          exact ⟨ext _ _⟩
        · obtain rfl := HC.out rfl
          go_wp2
          go_meet
          exact ⟨ext _ _⟩
  case rest => as_aux_lemma =>
    rename World => wx
    haveI : Bel w71 wx := hcut
    obtain ⟨e, eb, GE⟩ := optH (exQ x y)
    go_upto_region 20 with (first | ((fail_if_success (have _q := A119)); go_at_call 23; (with_reducible refine (ExactQuotient_any x y _ _ Ax Ay _ _ _ (tr _ Ax) (tr _ Ay)).mono ?_); rintro e119 w119 ⟨A119, c119, he, hs, hb⟩; rw [GE.hz, GE.hb] at he; rw [GE.hz] at hs; subst he; haveI : Bel _ w119 := ⟨hb⟩; haveI := Tr.arg hs; clear hs hb) | ((with_reducible refine at_dst (N := 20) rfl ?_); refine ev_box (cs := #[.slice none 0 0]) (t := 26) rfl ?hr20 ?_; (case hr20 => first | (go_simp; done) | (go_simp; rfl)); intro g20 v20 _ _ _ _) | ((fail_if_success (have _q := A125)); go_at_call 24; (with_reducible refine (sExactQuotient_any x y _ _ Ax Ay _ _ _ (tr _ Ax) (tr _ Ay)).mono ?_); rintro e125 w125 ⟨A125, c125, he, hs, hb⟩; rw [GE.hz, GE.hb] at he; rw [GE.hz] at hs; subst he; haveI : Bel _ w125 := ⟨hb⟩; haveI := Tr.arg hs; clear hs hb) | ((with_reducible refine at_dst (N := 22) rfl ?_); refine ev_box (cs := #[.slice none 0 0]) (t := 26) rfl ?hr22 ?_; (case hr22 => first | (go_simp; done) | (go_simp; rfl)); intro g22 v22 _ _ _ _) | ((fail_if_success (have _q := w134)); go_at_call 11; (with_reducible refine (same_any _ e _ _ A119 A125 _ _ _ (Nat.le_refl _) (tr _ A119) (tr _ A125)).mono ?_); rintro e134 w134 ⟨rfl, hb⟩; haveI : Bel _ w134 := ⟨hb⟩; clear hb))
    go_upto_if 137 with fail
    go_cut [] (fun wy => Bel w134 wy)
    case first => as_aux_lemma =>
      cases eb
      · go_wp2
        go_meet
        exact ⟨ext _ _⟩
      · have HE := Lib.hid GE.some
        go_upto_region 22 with (first | ((fail_if_success (have _q := A141)); go_at_call 16; (with_reducible refine (MultiplySurreals_any e y _ _ A119 Ay _ _ _ (tr _ A119) (tr _ Ay)).mono ?_); rintro e141 w141 ⟨A141, c141, he, hf, hb⟩; obtain ⟨z141, b141, G141⟩ := optH (mulS e y); rw [G141.hz, G141.hb] at he; rw [G141.hz] at hf; subst he; haveI : Bel _ w141 := ⟨hb⟩; haveI := Fs.of hf; clear hf hb) | ((with_reducible refine at_dst (N := 24) rfl ?_); refine ev_box (cs := #[.slice none 0 0]) (t := 26) rfl ?hr24 ?_; (case hr24 => first | (go_simp; done) | (go_simp; rfl)); intro g24 v24 _ _ _ _))
        cases b141
        · go_wp2
          go_meet
          exact ⟨ext _ _⟩
        · obtain rfl := exQ_back HE.out G141.some
          go_wp2_with (first | ((fail_if_success (have _q := w148)); go_at_call 11; (with_reducible refine (same_any _ z141 _ _ A141 Ax _ _ _ (Nat.le_refl _) (tr _ A141) (tr _ Ax)).mono ?_); rintro e148 w148 ⟨rfl, hb⟩; haveI : Bel _ w148 := ⟨hb⟩; clear hb))
          go_meet
          exact ⟨ext _ _⟩
    case rest => as_aux_lemma =>
      rename World => wy
      haveI : Bel w134 wy := hcut
      go_wp2_with (first | (go_at_call 25; (with_reducible refine (drawChk_any B m d _ (hcm.below (ext w _)) hm1).mono ?_); rintro e153 w153 ⟨a1, a2, a3, a4, A1, A2, A3, A4, k1, k2, k3, k4, rfl, h1, h2, h3, h4, hb⟩; haveI : Bel _ w153 := ⟨hb⟩; haveI := Tr.arg h1; haveI := Tr.arg h2; haveI := Tr.arg h3; haveI := Tr.arg h4; obtain ⟨p1, p2, GC⟩ := optC (chk a1 a2 a3 a4); clear h1 h2 h3 h4 hb) | ((with_reducible refine at_dst (N := 26) rfl ?_); refine ev_box (cs := #[.slice none 0 0]) (t := 26) rfl ?hr26 ?_; (case hr26 => first | (go_simp; done) | (go_simp; rfl)); intro g26 v26 _ _ _ _) | ((with_reducible refine at_dst (N := 27) rfl ?_); refine ev_box (cs := #[.slice none 0 0]) (t := 26) rfl ?hr27 ?_; (case hr27 => first | (go_simp; done) | (go_simp; rfl)); intro g27 v27 _ _ _ _) | ((with_reducible refine at_dst (N := 28) rfl ?_); refine ev_box (cs := #[.slice none 0 0]) (t := 26) rfl ?hr28 ?_; (case hr28 => first | (go_simp; done) | (go_simp; rfl)); intro g28 v28 _ _ _ _) | ((with_reducible refine at_dst (N := 29) rfl ?_); refine ev_box (cs := #[.slice none 0 0]) (t := 26) rfl ?hr29 ?_; (case hr29 => first | (go_simp; done) | (go_simp; rfl)); intro g29 v29 _ _ _ _) | ((fail_if_success (have _q := w163)); go_at_call 22; (with_reducible refine (CheckQuotient_any a1 a2 a3 a4 _ _ _ _ A1 A2 A3 A4 _ _ _ _ _ (tr _ A1) (tr _ A2) (tr _ A3) (tr _ A4)).mono ?_); rintro e163 w163 ⟨he, hb⟩; rw [GC.h1, GC.h2] at he; subst he; haveI : Bel _ w163 := ⟨hb⟩; clear hb) | ((fail_if_success (have _q := w171)); go_at_call 26; (with_reducible refine (sCheckQuotient_any a1 a2 a3 a4 _ _ _ _ A1 A2 A3 A4 _ _ _ _ _ (tr _ A1) (tr _ A2) (tr _ A3) (tr _ A4)).mono ?_); rintro e171 w171 ⟨he, hb⟩; rw [GC.h1, GC.h2] at he; subst he; haveI : Bel _ w171 := ⟨hb⟩; clear hb))
      refine bodyPost_ret (v := .bool true) (by simp [results, Tryz.results4, go_sem]) rfl ?_
      exact ⟨rfl, ext w _⟩
end Go.Proofs.YtphabopnbcgodaaGreat
