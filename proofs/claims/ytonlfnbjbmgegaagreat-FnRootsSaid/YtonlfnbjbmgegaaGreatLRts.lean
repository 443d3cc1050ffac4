/-
  The law FnRoots: its walk.
-/
import Derived.Test.YtonlfnbjbmgegaaGreatLSame
import Derived.Test.YtonlfnbjbmgegaaGreatSDraw8
import Derived.Test.YtonlfnbjbmgegaaGreatSChkR
import Derived.Test.YtonlfnbjbmgegaaGreatWRt3
import Derived.Test.YtonlfnbjbmgegaaGreatRB
namespace Go.Proofs.YtonlfnbjbmgegaaGreat
open Go.RowKit
set_option linter.unusedSimpArgs false
set_option linter.unusedVariables false

/-- what the law returns -/
def RetLaw (w : World) (b : Bool) (e : Ending) (w' : World) : Prop := e = .returned (.bool b) ∧ Below w.heap.size w w'
structure OptH (o : Option Sur) (z : Sur) (b : Bool) : Prop where
  hz : o.getD .nil = z
  hb : o.isSome = b
theorem optH (o : Option Sur) : ∃ z b, OptH o z b := ⟨_, _, rfl, rfl⟩
theorem OptH.some {o : Option Sur} {z : Sur} (h : OptH o z true) : o = .some z := by
  cases o with
  | none => have := h.hb; simp at this
  | some v => have := h.hz; simp at this; rw [this]
theorem OptH.of_some {o : Option Sur} {z v : Sur} {b : Bool} (h : OptH o z b) (e : o = .some v) : z = v ∧ b = true := by
  subst e
  exact ⟨h.hz.symm, h.hb.symm⟩
structure OptC (o : Bool × Bool) (a b : Bool) : Prop where
  h1 : o.1 = a
  h2 : o.2 = b
theorem optC (o : Bool × Bool) : ∃ a b, OptC o a b := ⟨_, _, rfl, rfl⟩
structure OptR (o : Option (Sur × Sur)) (s r : Sur) (ok : Bool) : Prop where
  h1 : (o.getD (.nil, .nil)).1 = s
  h2 : (o.getD (.nil, .nil)).2 = r
  hb : o.isSome = ok
theorem optR (o : Option (Sur × Sur)) : ∃ s r ok, OptR o s r ok := ⟨_, _, _, rfl, rfl, rfl⟩
theorem OptR.some {o : Option (Sur × Sur)} {s r : Sur} (h : OptR o s r true) : o = .some (s, r) := by
  cases o with
  | none => have := h.hb; simp at this
  | some v => have h1 := h.h1; have h2 := h.h2; simp at h1 h2; rw [← h1, ← h2]
attribute [local go_sem high] has_cell has_frozen
set_option synthInstance.maxHeartbeats 2000000 in
set_option synthInstance.maxSize 4000 in
set_option maxHeartbeats 8000000 in
set_option maxRecDepth 100000 in
theorem lawRts_any (A B : Option Addr) (n m c d : Nat) (w : World) (hco : Bytes w A n) (hcm : Bytes w B m) (hn : n ≤ maxLen) (hm : m ≤ maxLen) :
    Calls Tryz.prog 3 #[.slice A n c, .slice B m d] w (RetLaw w true) := by
  go_enter Tryz.func3, Tryz.ntmps3
  go_wp2_with fail
  (go_at_call 5; refine (big_any A B n m c d _ hn hm).mono ?_; rintro e31 w31 ⟨⟨b, rfl, hbb⟩, hw⟩; subst w31)
  cases b
  case' true =>
    clear hbb
    go_wp2
    go_ret
    exact ⟨rfl, ext _ _⟩
  obtain ⟨hn1, hm1⟩ := hbb rfl
  clear hbb
  go_upto_region 8 with (first | (go_at_call 6; (with_reducible refine (drawRt_any A n c _ (hco.below (ext w _)) hn1).mono ?_); rintro e43 w43 ⟨x, Ax, cx, k, v, rfl, hx, hk43, hv43, hb⟩; haveI : Bel _ w43 := ⟨hb⟩; haveI := Tr.arg hx; obtain ⟨s, r, ok, GQ⟩ := optR (rootT x k v); clear hx hb) | ((with_reducible refine at_dst (N := 5) rfl ?_); refine ev_box (cs := #[.slice none 0 0]) (t := 26) rfl ?hr5 ?_; (case hr5 => first | (go_simp; done) | (go_simp; rfl)); intro g5 v5 _ _ _ _) | (go_at_call 7; (with_reducible refine (RootTerms_any x k v _ Ax _ _ (tr _ Ax)).mono ?_); intro e51 w51 hq; obtain ⟨A51, c51, B51, d51, he, hs, hs', hb⟩ := hq.q; rw [GQ.h1, GQ.h2, GQ.hb] at he; rw [GQ.h1] at hs; rw [GQ.h2] at hs'; subst he; haveI : Bel _ w51 := ⟨hb⟩; haveI := Tr.arg hs; haveI := Tr.arg hs'; clear hs hs' hb hq) | ((with_reducible refine at_dst (N := 8) rfl ?_); refine ev_box (cs := #[.slice none 0 0]) (t := 26) rfl ?hr8 ?_; (case hr8 => first | (go_simp; done) | (go_simp; rfl)); intro g8 v8 _ _ _ _) | ((with_reducible refine at_dst (N := 9) rfl ?_); refine ev_box (cs := #[.slice none 0 0]) (t := 26) rfl ?hr9 ?_; (case hr9 => first | (go_simp; done) | (go_simp; rfl)); intro g9 v9 _ _ _ _) | (go_at_call 8; (with_reducible refine (sRootTerms_any x k v _ Ax _ _ (tr _ Ax)).mono ?_); rintro e59 w59 ⟨A59, c59, B59, d59, he, hs, hs', hb⟩; rw [srootT_rootT, GQ.h1, GQ.h2, GQ.hb] at he; rw [srootT_rootT, GQ.h1] at hs; rw [srootT_rootT, GQ.h2] at hs'; subst he; haveI : Bel _ w59 := ⟨hb⟩; haveI := Tr.arg hs; haveI := Tr.arg hs'; clear hs hs' hb) | ((with_reducible refine at_dst (N := 11) rfl ?_); refine ev_box (cs := #[.slice none 0 0]) (t := 26) rfl ?hr11 ?_; (case hr11 => first | (go_simp; done) | (go_simp; rfl)); intro g11 v11 _ _ _ _) | ((with_reducible refine at_dst (N := 12) rfl ?_); refine ev_box (cs := #[.slice none 0 0]) (t := 26) rfl ?hr12 ?_; (case hr12 => first | (go_simp; done) | (go_simp; rfl)); intro g12 v12 _ _ _ _) | ((fail_if_success (have _q := w69)); go_at_call 9; (with_reducible refine (same_any _ s _ _ A51 A59 _ _ _ (Nat.le_refl _) (tr _ A51) (tr _ A59)).mono ?_); rintro e69 w69 ⟨rfl, hb⟩; haveI : Bel _ w69 := ⟨hb⟩; clear hb) | ((fail_if_success (have _q := w75)); go_at_call 9; (with_reducible refine (same_any _ r _ _ B51 B59 _ _ _ (Nat.le_refl _) (tr _ B51) (tr _ B59)).mono ?_); rintro e75 w75 ⟨rfl, hb⟩; haveI : Bel _ w75 := ⟨hb⟩; clear hb))
  go_upto_if 78 with fail
  go_cut [] (fun wx => Bel w75 wx)
  case first => as_aux_lemma =>
    cases ok
    · go_wp2
      go_meet
      exact ⟨ext _ _⟩
    · have HQ := Lib.hid GQ.some
      obtain ⟨k1, k2, GC⟩ := optC (rchk x k s r)
      obtain ⟨p1, one, GP⟩ := optH (powK s k)
      have HC : Hid (k2 = true → k1 = true) := by
        show _ → _
        rw [← GC.h1, ← GC.h2]
        exact root_chk HQ.out
      go_upto_region 11 with (first | ((fail_if_success (have _q := A82)); go_at_call 10; (with_reducible refine (PowerOfSurreal_any s (k) _ A51 _ _ (tr _ A51)).mono ?_); rintro e82 w82 ⟨A82, c82, he, hs, hb⟩; rw [GP.hz, GP.hb] at he; rw [GP.hz] at hs; subst he; haveI : Bel _ w82 := ⟨hb⟩; haveI := Tr.arg hs; clear hs hb) | ((with_reducible refine at_dst (N := 14) rfl ?_); refine ev_box (cs := #[.slice none 0 0]) (t := 26) rfl ?hr14 ?_; (case hr14 => first | (go_simp; done) | (go_simp; rfl)); intro g14 v14 _ _ _ _) | ((fail_if_success (have _q := A88)); go_at_call 11; (with_reducible refine (AddSurreals_any p1 r _ _ A82 B51 _ _ _ (tr _ A82) (tr _ B51)).mono ?_); rintro e88 w88 ⟨A88, c88, he, hf, hb⟩; obtain ⟨z88, b88, G88⟩ := optH (addS p1 r); rw [G88.hz, G88.hb] at he; rw [G88.hz] at hf; subst he; haveI : Bel _ w88 := ⟨hb⟩; haveI := Fs.of hf; clear hf hb) | ((with_reducible refine at_dst (N := 16) rfl ?_); refine ev_box (cs := #[.slice none 0 0]) (t := 26) rfl ?hr16 ?_; (case hr16 => first | (go_simp; done) | (go_simp; rfl)); intro g16 v16 _ _ _ _))
      go_cut [100] (fun s100 wx => s100 = .bool false ∧ Bel (World.setCell v16 ⟨g16, 0, none⟩ (.slice A88 z88.len c88)) wx)
      case first => as_aux_lemma =>
        cases one
        · go_wp2
          go_meet
          exact ⟨rfl, ⟨ext _ _⟩⟩
        · cases b88
          · go_wp2
            go_meet
            exact ⟨rfl, ⟨ext _ _⟩⟩
          · obtain rfl := root_back HQ.out GP.some G88.some
            go_wp2_with (first | ((fail_if_success (have _q := w98)); go_at_call 9; (with_reducible refine (same_any _ z88 _ _ A88 Ax _ _ _ (Nat.le_refl _) (tr _ A88) (tr _ Ax)).mono ?_); rintro e98 w98 ⟨rfl, hb⟩; haveI : Bel _ w98 := ⟨hb⟩; clear hb))
            go_meet
            exact ⟨rfl, ⟨ext _ _⟩⟩
      case rest => as_aux_lemma =>
        rename World => wy
        obtain ⟨rfl, _⟩ := hcut
        go_upto_region 14 with (first | ((fail_if_success (have _q := w106)); go_at_call 12; (with_reducible refine (CheckRoot_any x k s r _ _ _ Ax A51 B51 _ _ _ _ (tr _ Ax) (tr _ A51) (tr _ B51)).mono ?_); rintro e106 w106 ⟨he, hb⟩; rw [GC.h1, GC.h2] at he; subst he; haveI : Bel _ w106 := ⟨hb⟩; clear hb))
        cases k2
        · go_wp2
          go_meet
          exact ⟨ext _ _⟩
        · obtain rfl := HC.out rfl
          go_wp2
          go_meet
          exact ⟨ext _ _⟩
  case rest => as_aux_lemma =>
    rename World => wx
    haveI : Bel w75 wx := hcut
    clear GQ hk43 hv43
    go_upto_region 22 with (first | (go_at_call 13; (with_reducible refine (drawPowS_any B m d _ (hcm.below (ext w _)) hm1).mono ?_); rintro e116 w116 ⟨y, Ay, cy, j, rfl, hy, hj, hb⟩; haveI : Bel _ w116 := ⟨hb⟩; haveI := Tr.arg hy; obtain ⟨p1, one, GP⟩ := optH (powK y j); obtain ⟨p2, two, GN⟩ := optH (powK y (j + 1)); have hj1 : IntKind.i64.wrap (j + 1) = j + 1 := IntWalk.i64_in _ (by omega); clear hy hb) | ((with_reducible refine at_dst (N := 20) rfl ?_); refine ev_box (cs := #[.slice none 0 0]) (t := 26) rfl ?hr20 ?_; (case hr20 => first | (go_simp; done) | (go_simp; rfl)); intro g20 v20 _ _ _ _) | ((fail_if_success (have _q := A122)); go_at_call 10; (with_reducible refine (PowerOfSurreal_any y (j) _ Ay _ _ (tr _ Ay)).mono ?_); rintro e122 w122 ⟨A122, c122, he, hs, hb⟩; rw [GP.hz, GP.hb] at he; rw [GP.hz] at hs; subst he; haveI : Bel _ w122 := ⟨hb⟩; haveI := Tr.arg hs; clear hs hb) | ((with_reducible refine at_dst (N := 22) rfl ?_); refine ev_box (cs := #[.slice none 0 0]) (t := 26) rfl ?hr22 ?_; (case hr22 => first | (go_simp; done) | (go_simp; rfl)); intro g22 v22 _ _ _ _) | ((fail_if_success (have _q := A128)); go_at_call 14; (with_reducible refine (sPowerOfSurreal_any y (j) _ Ay _ _ (tr _ Ay)).mono ?_); rintro e128 w128 ⟨A128, c128, he, hs, hb⟩; rw [GP.hz, GP.hb] at he; rw [GP.hz] at hs; subst he; haveI : Bel _ w128 := ⟨hb⟩; haveI := Tr.arg hs; clear hs hb) | ((with_reducible refine at_dst (N := 24) rfl ?_); refine ev_box (cs := #[.slice none 0 0]) (t := 26) rfl ?hr24 ?_; (case hr24 => first | (go_simp; done) | (go_simp; rfl)); intro g24 v24 _ _ _ _) | ((fail_if_success (have _q := w137)); go_at_call 9; (with_reducible refine (same_any _ p1 _ _ A122 A128 _ _ _ (Nat.le_refl _) (tr _ A122) (tr _ A128)).mono ?_); rintro e137 w137 ⟨rfl, hb⟩; haveI : Bel _ w137 := ⟨hb⟩; clear hb) | ((fail_if_success (have _q := A144)); go_at_call 10; (with_reducible refine (PowerOfSurreal_any y (j + 1) _ Ay _ _ (tr _ Ay)).mono ?_); rintro e144 w144 ⟨A144, c144, he, hs, hb⟩; rw [GN.hz, GN.hb] at he; rw [GN.hz] at hs; subst he; haveI : Bel _ w144 := ⟨hb⟩; haveI := Tr.arg hs; clear hs hb) | ((with_reducible refine at_dst (N := 26) rfl ?_); refine ev_box (cs := #[.slice none 0 0]) (t := 26) rfl ?hr26 ?_; (case hr26 => first | (go_simp; done) | (go_simp; rfl)); intro g26 v26 _ _ _ _))
    go_cut [150] (fun s150 wy => ∃ b : Bool, s150 = .bool b ∧ Hid (b = true → one = true ∧ two = true) ∧ Bel (World.setCell v26 ⟨g26, 0, none⟩ (.slice A144 p2.len c144)) wy)
    case first => as_aux_lemma =>
      cases one
      · go_wp2_with fail
        go_meet
        exact ⟨false, rfl, (fun h => by cases h), ⟨ext _ _⟩⟩
      · cases two
        · go_wp2_with fail
          go_meet
          exact ⟨false, rfl, (fun h => by cases h), ⟨ext _ _⟩⟩
        · go_wp2_with fail
          go_meet
          exact ⟨true, rfl, (fun _ => by simp), ⟨ext _ _⟩⟩
    case rest => as_aux_lemma =>
    rename World => wz
    obtain ⟨b, rfl, HB, _⟩ := hcut
    go_upto_if 150 with fail
    go_cut [] (fun wy => Bel wz wy)
    case first => as_aux_lemma =>
      cases b
      · go_wp2_with fail
        go_meet
        exact ⟨ext _ _⟩
      · obtain ⟨h1, h2⟩ := HB.out rfl
        subst h1
        subst h2
        have HE := Lib.hid (pow_next GP.some GN.some)
        go_upto_region 24 with (first | ((fail_if_success (have _q := A154)); go_at_call 15; (with_reducible refine (MultiplySurreals_any p1 y _ _ A122 Ay _ _ _ (tr _ A122) (tr _ Ay)).mono ?_); rintro e154 w154 ⟨A154, c154, he, hf, hb⟩; obtain ⟨z154, b154, G154⟩ := optH (mulS p1 y); rw [G154.hz, G154.hb] at he; rw [G154.hz] at hf; subst he; haveI : Bel _ w154 := ⟨hb⟩; haveI := Fs.of hf; clear hf hb) | ((with_reducible refine at_dst (N := 28) rfl ?_); refine ev_box (cs := #[.slice none 0 0]) (t := 26) rfl ?hr28 ?_; (case hr28 => first | (go_simp; done) | (go_simp; rfl)); intro g28 v28 _ _ _ _))
        obtain ⟨rfl, rfl⟩ := G154.of_some HE.out
        go_wp2_with (first | ((fail_if_success (have _q := w162)); go_at_call 9; (with_reducible refine (same_any _ z154 _ _ A154 A144 _ _ _ (Nat.le_refl _) (tr _ A154) (tr _ A144)).mono ?_); rintro e162 w162 ⟨rfl, hb⟩; haveI : Bel _ w162 := ⟨hb⟩; clear hb))
        go_meet
        exact ⟨ext _ _⟩
    case rest => as_aux_lemma =>
      rename World => wy
      haveI : Bel wz wy := hcut
      clear GP GN
      go_wp2_with (first | (go_at_call 16; (with_reducible refine (drawChkR_any B m d _ (hcm.below (ext w _)) hm1).mono ?_); rintro e167 w167 ⟨a1, a3, a4, A1, A3, A4, k1, k3, k4, ak, rfl, h1, h3, h4, hb⟩; haveI : Bel _ w167 := ⟨hb⟩; haveI := Tr.arg h1; haveI := Tr.arg h3; haveI := Tr.arg h4; obtain ⟨q1, q2, GC⟩ := optC (rchk a1 ak a3 a4); clear h1 h3 h4 hb) | ((with_reducible refine at_dst (N := 30) rfl ?_); refine ev_box (cs := #[.slice none 0 0]) (t := 26) rfl ?hr30 ?_; (case hr30 => first | (go_simp; done) | (go_simp; rfl)); intro g30 v30 _ _ _ _) | ((with_reducible refine at_dst (N := 32) rfl ?_); refine ev_box (cs := #[.slice none 0 0]) (t := 26) rfl ?hr32 ?_; (case hr32 => first | (go_simp; done) | (go_simp; rfl)); intro g32 v32 _ _ _ _) | ((with_reducible refine at_dst (N := 33) rfl ?_); refine ev_box (cs := #[.slice none 0 0]) (t := 26) rfl ?hr33 ?_; (case hr33 => first | (go_simp; done) | (go_simp; rfl)); intro g33 v33 _ _ _ _) | ((fail_if_success (have _q := w177)); go_at_call 12; (with_reducible refine (CheckRoot_any a1 ak a3 a4 _ _ _ A1 A3 A4 _ _ _ _ (tr _ A1) (tr _ A3) (tr _ A4)).mono ?_); rintro e177 w177 ⟨he, hb⟩; rw [GC.h1, GC.h2] at he; subst he; haveI : Bel _ w177 := ⟨hb⟩; clear hb) | ((fail_if_success (have _q := w185)); go_at_call 17; (with_reducible refine (sCheckRoot_any a1 ak a3 a4 _ _ _ A1 A3 A4 _ _ _ _ (tr _ A1) (tr _ A3) (tr _ A4)).mono ?_); rintro e185 w185 ⟨he, hb⟩; rw [GC.h1, GC.h2] at he; subst he; haveI : Bel _ w185 := ⟨hb⟩; clear hb))
      refine bodyPost_ret (v := .bool true) (by simp [results, Tryz.results3, go_sem]) rfl ?_
      exact ⟨rfl, ext w _⟩
end Go.Proofs.YtonlfnbjbmgegaaGreat
