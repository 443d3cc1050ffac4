/-
  The law FnPowersByTerms: its walk.
-/
import Derived.Test.YtphabopnbcgodaaGreatEN
import Derived.Test.YtphabopnbcgodaaGreatBL
import Derived.Test.YtphabopnbcgodaaGreatWPow2
import Derived.Test.YtphabopnbcgodaaGreatSPow
import Derived.Test.YtphabopnbcgodaaGreatLSame
import Derived.Test.YtphabopnbcgodaaGreatPA
import Derived.Test.YtphabopnbcgodaaGreatE4
namespace Go.Proofs.YtphabopnbcgodaaGreat
open Go.RowKit
set_option linter.unusedSimpArgs false
set_option linter.unusedVariables false

/-- what the law returns -/
def RetLaw (w : World) (b : Bool) (e : Ending) (w' : World) : Prop := e = .returned (.bool b) ∧ Below w.heap.size w w'
structure OptH (o : Option Sur) (z : Sur) (b : Bool) : Prop where
  hz : o.getD .nil = z
  hb : o.isSome = b
theorem optH (o : Option Sur) : ∃ z b, OptH o z b := ⟨_, _, rfl, rfl⟩
theorem OptH.some {o : Option Sur} {z : Sur} (h : OptH o z true) : o = .some z := by
  cases o with
  | none => have := h.hb; simp at this
  | some v => have := h.hz; simp at this; rw [this]
structure OptF (o : Option (Int × Int)) (p q : Int) (b : Bool) : Prop where
  h : optF o = .tuple #[.agg #[.int .i64 p, .int .i64 q], .bool b]
  s : b = true → o = .some (p, q)
theorem optFG (o : Option (Int × Int)) : ∃ p q b, OptF o p q b := by
  rcases o with _ | ⟨p, q⟩
  · exact ⟨0, 0, false, rfl, fun h => by cases h⟩
  · exact ⟨p, q, true, rfl, fun _ => rfl⟩
theorem len_ne {x : Sur} (h : x.len ≠ 0) : x ≠ .nil := by rintro rfl; exact h rfl
theorem qOneS : (fromS 1 1).getD .nil = oneS := by
  rw [fromS_one]
  unfold oneS termP
  rw [if_neg (by omega)]; rfl
attribute [local go_sem high] has_cell has_frozen
set_option synthInstance.maxHeartbeats 2000000 in
set_option synthInstance.maxSize 4000 in
set_option maxHeartbeats 8000000 in
set_option maxRecDepth 100000 in
theorem lawPows_any (A B : Option Addr) (n m c d : Nat) (w : World) (hco : Bytes w A n) (hcm : Bytes w B m) (hn : n ≤ maxLen) (hm : m ≤ maxLen) :
    Calls Tryz.prog 3 #[.slice A n c, .slice B m d] w (RetLaw w true) := by
  go_enter Tryz.func3, Tryz.ntmps3
  go_wp2_with fail
  (go_at_call 7; refine (big_any A B n m c d _ hn hm).mono ?_; rintro e31 w31 ⟨⟨b, rfl, hbb⟩, hw⟩; subst w31)
  cases b
  case' true =>
    clear hbb
    go_wp2
    go_ret
    exact ⟨rfl, ext _ _⟩
  obtain ⟨hn1, hm1⟩ := hbb rfl
  clear hbb
  go_upto_region 8 with (first | ((fail_if_success (have _q := A34)); go_at_call 8; (with_reducible refine (drawPow_any A n c _ (hco.below (ext w _)) hn1).mono ?_); rintro e34 w34 ⟨x, A34, c34, a, b, v, rfl, hx, hpq34, hv34, hb⟩; haveI : Bel _ w34 := ⟨hb⟩; haveI := Tr.arg hx; clear hx hb) | ((with_reducible refine at_dst (N := 5) rfl ?_); refine ev_box (cs := #[.slice none 0 0]) (t := 26) rfl ?hr5 ?_; (case hr5 => first | (go_simp; done) | (go_simp; rfl)); intro g5 v5 _ _ _ _) | ((with_reducible refine at_dst (N := 6) rfl ?_); refine ev_box (cs := #[.int .i64 0, .int .i64 0]) (t := 28) rfl ?hr6 ?_; (case hr6 => first | (go_simp; done) | (go_simp; rfl)); intro g6 v6 _ _ _ _) | ((fail_if_success (have _q := A42)); go_at_call 9; (with_reducible refine (PowerTerms_any x a b v _ A34 _ _ (tr _ A34) (by unfold I64; omega)).mono ?_); rintro e42 w42 ⟨A42, c42, he, hf, hb⟩; obtain ⟨z42, b42, G42⟩ := optH (powT x a b v); rw [G42.hz, G42.hb] at he; rw [G42.hz] at hf; subst he; haveI : Bel _ w42 := ⟨hb⟩; haveI := Fs.of hf; clear hf hb) | ((with_reducible refine at_dst (N := 8) rfl ?_); refine ev_box (cs := #[.slice none 0 0]) (t := 26) rfl ?hr8 ?_; (case hr8 => first | (go_simp; done) | (go_simp; rfl)); intro g8 v8 _ _ _ _) | (go_at_call 10; (with_reducible refine (sPowerTerms_any x a b v _ A34 _ _ (tr _ A34)).mono ?_); rintro e49 w49 ⟨A49, c49, he, hf, hb⟩; rw [spowTerms_powT, G42.hz, G42.hb] at he; rw [spowTerms_powT, G42.hz] at hf; subst he; haveI : Bel _ w49 := ⟨hb⟩; haveI := Fs.of hf; clear hf hb) | ((with_reducible refine at_dst (N := 10) rfl ?_); refine ev_box (cs := #[.slice none 0 0]) (t := 26) rfl ?hr10 ?_; (case hr10 => first | (go_simp; done) | (go_simp; rfl)); intro g10 v10 _ _ _ _) | ((fail_if_success (have _q := w58)); go_at_call 11; (with_reducible refine (same_any _ z42 _ _ A42 A49 _ _ _ (Nat.le_refl _) (tr _ A42) (tr _ A49)).mono ?_); rintro e58 w58 ⟨rfl, hb⟩; haveI : Bel _ w58 := ⟨hb⟩; clear hb))
  cases b42
  · go_wp2
    go_ret
    exact ⟨rfl, ext w _⟩
  obtain ⟨z, hz, _, _, _, hv1, hv2, _⟩ := powT_fn G42.some
  obtain ⟨I1, hI1⟩ : ∃ I1, oneS = I1 := ⟨_, rfl⟩
  have HO := Lib.hid hI1
  have HL1 : Hid (I1.len ≤ 1099511627776) := by show _ ≤ _; rw [← hI1]; have := (sGood_len sGood_oneS).1; omega
  have HZ : Hid (subS x I1 = some z) := by show _ = _; rw [← hI1]; exact hz
  have HZ0 := Lib.hid hz
  clear hI1 hz hv34
  go_upto_region 10 with fail
  go_cut [12, 13] (fun s12 s13 wx => ∃ (g12 : Nat) (Az : Option Addr) (cz : Nat), s12 = .pointer (some ⟨g12, 0, none⟩) ∧ s13 = .bool true ∧ Has wx g12 (.cells #[.slice Az z.len cz] 26 (0, 0)) ∧ Tr wx Az (XV wx XN) z cz ∧ Bel w58 wx)
  case first => as_aux_lemma =>
    refine wp_region_held_drew (S := (fun w' => w'.cell? ⟨g5, 0, none⟩ = some (.slice A34 x.len c34))) (by kernel_rfl) ?hSn1_ (fun hHeld => ?hRn1_)
    case hSn1_ => (exact has1)
    refine wpAnyH_take (i := 0) (oi := _) (v := ?vn1_1) rfl (by kernel_rfl) (by kernel_rfl) (by kernel_rfl) (fun _ _ _ h => h) (Or.inl ⟨by rfl, ?hyn1_1⟩) (by assumption) ?hRn1_1
    case hyn1_1 => (intro w hSw; (try dsimp only at hSw); go_simp; (try with_reducible rfl))
    try simp only [Act.put, List.getElem_toArray, List.getElem_cons_zero, List.getElem_cons_succ, List.setIfInBounds_toArray, List.set_cons_zero, List.set_cons_succ]
    refine wpAnyH_ready (rs := [1, 6]) (by kernel_rfl) (by simp) ?_
    refine AllReadyH.cons (o := _) rfl (fun K hK => ?bn1_2) (AllReadyH.cons (o := _) rfl (fun K hK => ?bn1_3) (AllReadyH.nil))
    case' bn1_2 =>
      go_simp
      ((go_at_call 13; (with_reducible refine (qWhole_any 1 _ (by unfold I64; omega)).mono ?_); rintro e65 w65 ⟨A65, c65, he, hf, hb⟩; rw [qOneS, HO.out] at he hf; subst he; haveI : Bel _ w65 := ⟨hb⟩; haveI := Fs.of hf; clear hf hb))
      go_wp2_with fail
      refine hK.out _ _ ?hSn1_4 (fun hHeld => ?hRn1_4)
      case hSn1_4 => ((try dsimp only); exact has1)
      clear hK K
      try simp only [Act.put, List.getElem_toArray, List.getElem_cons_zero, List.getElem_cons_succ, List.setIfInBounds_toArray, List.set_cons_zero, List.set_cons_succ]
      refine wpAnyH_ready (rs := [2, 6]) (by kernel_rfl) (by simp) ?_
      refine AllReadyH.cons (o := _) rfl (fun K hK => ?bn1_5) (AllReadyH.cons (o := _) rfl (fun K hK => ?bn1_6) (AllReadyH.nil))
      case' bn1_5 =>
        go_simp
        (((fail_if_success (have _q := A66)); go_at_call 12; (with_reducible refine (SubtractSurreals_any x I1 _ _ A34 A65 _ _ _ (tr _ A34) (tr _ A65) HL1.out).mono ?_); rintro e66 w66 ⟨A66, c66, he, hf, hb⟩; rw [HZ.out] at he hf; simp only [Option.getD_some, Option.isSome_some] at he hf; subst he; haveI : Bel _ w66 := ⟨hb⟩; haveI := Fs.of hf; clear hf hb))
        go_wp2_with fail
        refine hK.out _ _ ?hSn1_7 (fun hHeld => ?hRn1_7)
        case hSn1_7 => ((try dsimp only); exact has1)
        clear hK K
        try simp only [Act.put, List.getElem_toArray, List.getElem_cons_zero, List.getElem_cons_succ, List.setIfInBounds_toArray, List.set_cons_zero, List.set_cons_succ]
        refine wpAnyH_take (i := 3) (oi := _) (v := ?vn1_8) rfl (by kernel_rfl) (by kernel_rfl) (by kernel_rfl) (fun _ _ _ h => h) (Or.inl ⟨by rfl, ?hyn1_8⟩) (by assumption) ?hRn1_8
        case hyn1_8 => (intro w hSw; (try dsimp only at hSw); go_simp; (try with_reducible rfl))
        try simp only [Act.put, List.getElem_toArray, List.getElem_cons_zero, List.getElem_cons_succ, List.setIfInBounds_toArray, List.set_cons_zero, List.set_cons_succ]
        refine wpAnyH_take (i := 4) (oi := _) (v := ?vn1_9) rfl (by kernel_rfl) (by kernel_rfl) (by kernel_rfl) (fun _ _ _ h => h) (Or.inl ⟨by rfl, ?hyn1_9⟩) (by assumption) ?hRn1_9
        case hyn1_9 => (intro w hSw; (try dsimp only at hSw); go_simp; (try with_reducible rfl))
        try simp only [Act.put, List.getElem_toArray, List.getElem_cons_zero, List.getElem_cons_succ, List.setIfInBounds_toArray, List.set_cons_zero, List.set_cons_succ]
        refine wpAnyH_take (i := 5) (oi := _) (v := ?vn1_10) rfl (by kernel_rfl) (by kernel_rfl) (by kernel_rfl) (fun _ _ _ h => h) (Or.inl ⟨by rfl, ?hyn1_10⟩) (by assumption) ?hRn1_10
        case hyn1_10 => (intro w hSw; (try dsimp only at hSw); go_simp; (try with_reducible rfl))
        try simp only [Act.put, List.getElem_toArray, List.getElem_cons_zero, List.getElem_cons_succ, List.setIfInBounds_toArray, List.set_cons_zero, List.set_cons_succ]
        refine wpAnyH_ready (rs := [6]) (by kernel_rfl) (by simp) ?_
        refine AllReadyH.cons (o := _) rfl (fun K hK => ?_) AllReadyH.nil
        go_simp
        refine hK.out _ _ ?hSn1_11 (fun hHeld => ?hRn1_11)
        case hSn1_11 => ((try dsimp only); exact has1)
        clear hK K
        try simp only [Act.put, List.getElem_toArray, List.getElem_cons_zero, List.getElem_cons_succ, List.setIfInBounds_toArray, List.set_cons_zero, List.set_cons_succ]
        refine wpAnyH_ready (rs := [7]) (by kernel_rfl) (by simp) ?_
        refine AllReadyH.cons (o := _) rfl (fun K hK => ?_) AllReadyH.nil
        go_simp
        refine hK.out _ _ ?hSn1_12 (fun hHeld => ?hRn1_12)
        case hSn1_12 => ((try dsimp only); exact has1)
        clear hK K
        try simp only [Act.put, List.getElem_toArray, List.getElem_cons_zero, List.getElem_cons_succ, List.setIfInBounds_toArray, List.set_cons_zero, List.set_cons_succ]
        refine wpAnyH_take (i := 8) (oi := _) (v := ?vn1_13) rfl (by kernel_rfl) (by kernel_rfl) (by kernel_rfl) (fun _ _ _ h => h) (Or.inl ⟨by rfl, ?hyn1_13⟩) (by assumption) ?hRn1_13
        case hyn1_13 => (intro w hSw; (try dsimp only at hSw); go_simp; (try with_reducible rfl))
        try simp only [Act.put, List.getElem_toArray, List.getElem_cons_zero, List.getElem_cons_succ, List.setIfInBounds_toArray, List.set_cons_zero, List.set_cons_succ]
        refine wpAnyH_done (by kernel_rfl) ?_ _
      case' bn1_6 =>
        go_simp
        refine hK.out _ _ ?hSn1_14 (fun hHeld => ?hRn1_14)
        case hSn1_14 => ((try dsimp only); exact has1)
        clear hK K
        try simp only [Act.put, List.getElem_toArray, List.getElem_cons_zero, List.getElem_cons_succ, List.setIfInBounds_toArray, List.set_cons_zero, List.set_cons_succ]
        refine wpAnyH_ready (rs := [2]) (by kernel_rfl) (by simp) ?_
        refine AllReadyH.cons (o := _) rfl (fun K hK => ?_) AllReadyH.nil
        go_simp
        (((fail_if_success (have _q := A66)); go_at_call 12; (with_reducible refine (SubtractSurreals_any x I1 _ _ A34 A65 _ _ _ (tr _ A34) (tr _ A65) HL1.out).mono ?_); rintro e66 w66 ⟨A66, c66, he, hf, hb⟩; rw [HZ.out] at he hf; simp only [Option.getD_some, Option.isSome_some] at he hf; subst he; haveI : Bel _ w66 := ⟨hb⟩; haveI := Fs.of hf; clear hf hb))
        go_wp2_with fail
        refine hK.out _ _ ?hSn1_15 (fun hHeld => ?hRn1_15)
        case hSn1_15 => ((try dsimp only); exact has1)
        clear hK K
        try simp only [Act.put, List.getElem_toArray, List.getElem_cons_zero, List.getElem_cons_succ, List.setIfInBounds_toArray, List.set_cons_zero, List.set_cons_succ]
        refine wpAnyH_take (i := 3) (oi := _) (v := ?vn1_16) rfl (by kernel_rfl) (by kernel_rfl) (by kernel_rfl) (fun _ _ _ h => h) (Or.inl ⟨by rfl, ?hyn1_16⟩) (by assumption) ?hRn1_16
        case hyn1_16 => (intro w hSw; (try dsimp only at hSw); go_simp; (try with_reducible rfl))
        try simp only [Act.put, List.getElem_toArray, List.getElem_cons_zero, List.getElem_cons_succ, List.setIfInBounds_toArray, List.set_cons_zero, List.set_cons_succ]
        refine wpAnyH_take (i := 4) (oi := _) (v := ?vn1_17) rfl (by kernel_rfl) (by kernel_rfl) (by kernel_rfl) (fun _ _ _ h => h) (Or.inl ⟨by rfl, ?hyn1_17⟩) (by assumption) ?hRn1_17
        case hyn1_17 => (intro w hSw; (try dsimp only at hSw); go_simp; (try with_reducible rfl))
        try simp only [Act.put, List.getElem_toArray, List.getElem_cons_zero, List.getElem_cons_succ, List.setIfInBounds_toArray, List.set_cons_zero, List.set_cons_succ]
        refine wpAnyH_take (i := 5) (oi := _) (v := ?vn1_18) rfl (by kernel_rfl) (by kernel_rfl) (by kernel_rfl) (fun _ _ _ h => h) (Or.inl ⟨by rfl, ?hyn1_18⟩) (by assumption) ?hRn1_18
        case hyn1_18 => (intro w hSw; (try dsimp only at hSw); go_simp; (try with_reducible rfl))
        try simp only [Act.put, List.getElem_toArray, List.getElem_cons_zero, List.getElem_cons_succ, List.setIfInBounds_toArray, List.set_cons_zero, List.set_cons_succ]
        refine wpAnyH_ready (rs := [7]) (by kernel_rfl) (by simp) ?_
        refine AllReadyH.cons (o := _) rfl (fun K hK => ?_) AllReadyH.nil
        go_simp
        refine hK.out _ _ ?hSn1_19 (fun hHeld => ?hRn1_19)
        case hSn1_19 => ((try dsimp only); exact has1)
        clear hK K
        try simp only [Act.put, List.getElem_toArray, List.getElem_cons_zero, List.getElem_cons_succ, List.setIfInBounds_toArray, List.set_cons_zero, List.set_cons_succ]
        refine wpAnyH_take (i := 8) (oi := _) (v := ?vn1_20) rfl (by kernel_rfl) (by kernel_rfl) (by kernel_rfl) (fun _ _ _ h => h) (Or.inl ⟨by rfl, ?hyn1_20⟩) (by assumption) ?hRn1_20
        case hyn1_20 => (intro w hSw; (try dsimp only at hSw); go_simp; (try with_reducible rfl))
        try simp only [Act.put, List.getElem_toArray, List.getElem_cons_zero, List.getElem_cons_succ, List.setIfInBounds_toArray, List.set_cons_zero, List.set_cons_succ]
        refine wpAnyH_done (by kernel_rfl) ?_ _
    case' bn1_3 =>
      go_simp
      refine hK.out _ _ ?hSn1_21 (fun hHeld => ?hRn1_21)
      case hSn1_21 => ((try dsimp only); exact has1)
      clear hK K
      try simp only [Act.put, List.getElem_toArray, List.getElem_cons_zero, List.getElem_cons_succ, List.setIfInBounds_toArray, List.set_cons_zero, List.set_cons_succ]
      refine wpAnyH_ready (rs := [1]) (by kernel_rfl) (by simp) ?_
      refine AllReadyH.cons (o := _) rfl (fun K hK => ?_) AllReadyH.nil
      go_simp
      ((go_at_call 13; (with_reducible refine (qWhole_any 1 _ (by unfold I64; omega)).mono ?_); rintro e65 w65 ⟨A65, c65, he, hf, hb⟩; rw [qOneS, HO.out] at he hf; subst he; haveI : Bel _ w65 := ⟨hb⟩; haveI := Fs.of hf; clear hf hb))
      go_wp2_with fail
      refine hK.out _ _ ?hSn1_22 (fun hHeld => ?hRn1_22)
      case hSn1_22 => ((try dsimp only); exact has1)
      clear hK K
      try simp only [Act.put, List.getElem_toArray, List.getElem_cons_zero, List.getElem_cons_succ, List.setIfInBounds_toArray, List.set_cons_zero, List.set_cons_succ]
      refine wpAnyH_ready (rs := [2]) (by kernel_rfl) (by simp) ?_
      refine AllReadyH.cons (o := _) rfl (fun K hK => ?_) AllReadyH.nil
      go_simp
      (((fail_if_success (have _q := A66)); go_at_call 12; (with_reducible refine (SubtractSurreals_any x I1 _ _ A34 A65 _ _ _ (tr _ A34) (tr _ A65) HL1.out).mono ?_); rintro e66 w66 ⟨A66, c66, he, hf, hb⟩; rw [HZ.out] at he hf; simp only [Option.getD_some, Option.isSome_some] at he hf; subst he; haveI : Bel _ w66 := ⟨hb⟩; haveI := Fs.of hf; clear hf hb))
      go_wp2_with fail
      refine hK.out _ _ ?hSn1_23 (fun hHeld => ?hRn1_23)
      case hSn1_23 => ((try dsimp only); exact has1)
      clear hK K
      try simp only [Act.put, List.getElem_toArray, List.getElem_cons_zero, List.getElem_cons_succ, List.setIfInBounds_toArray, List.set_cons_zero, List.set_cons_succ]
      refine wpAnyH_take (i := 3) (oi := _) (v := ?vn1_24) rfl (by kernel_rfl) (by kernel_rfl) (by kernel_rfl) (fun _ _ _ h => h) (Or.inl ⟨by rfl, ?hyn1_24⟩) (by assumption) ?hRn1_24
      case hyn1_24 => (intro w hSw; (try dsimp only at hSw); go_simp; (try with_reducible rfl))
      try simp only [Act.put, List.getElem_toArray, List.getElem_cons_zero, List.getElem_cons_succ, List.setIfInBounds_toArray, List.set_cons_zero, List.set_cons_succ]
      refine wpAnyH_take (i := 4) (oi := _) (v := ?vn1_25) rfl (by kernel_rfl) (by kernel_rfl) (by kernel_rfl) (fun _ _ _ h => h) (Or.inl ⟨by rfl, ?hyn1_25⟩) (by assumption) ?hRn1_25
      case hyn1_25 => (intro w hSw; (try dsimp only at hSw); go_simp; (try with_reducible rfl))
      try simp only [Act.put, List.getElem_toArray, List.getElem_cons_zero, List.getElem_cons_succ, List.setIfInBounds_toArray, List.set_cons_zero, List.set_cons_succ]
      refine wpAnyH_take (i := 5) (oi := _) (v := ?vn1_26) rfl (by kernel_rfl) (by kernel_rfl) (by kernel_rfl) (fun _ _ _ h => h) (Or.inl ⟨by rfl, ?hyn1_26⟩) (by assumption) ?hRn1_26
      case hyn1_26 => (intro w hSw; (try dsimp only at hSw); go_simp; (try with_reducible rfl))
      try simp only [Act.put, List.getElem_toArray, List.getElem_cons_zero, List.getElem_cons_succ, List.setIfInBounds_toArray, List.set_cons_zero, List.set_cons_succ]
      refine wpAnyH_ready (rs := [7]) (by kernel_rfl) (by simp) ?_
      refine AllReadyH.cons (o := _) rfl (fun K hK => ?_) AllReadyH.nil
      go_simp
      refine hK.out _ _ ?hSn1_27 (fun hHeld => ?hRn1_27)
      case hSn1_27 => ((try dsimp only); exact has1)
      clear hK K
      try simp only [Act.put, List.getElem_toArray, List.getElem_cons_zero, List.getElem_cons_succ, List.setIfInBounds_toArray, List.set_cons_zero, List.set_cons_succ]
      refine wpAnyH_take (i := 8) (oi := _) (v := ?vn1_28) rfl (by kernel_rfl) (by kernel_rfl) (by kernel_rfl) (fun _ _ _ h => h) (Or.inl ⟨by rfl, ?hyn1_28⟩) (by assumption) ?hRn1_28
      case hyn1_28 => (intro w hSw; (try dsimp only at hSw); go_simp; (try with_reducible rfl))
      try simp only [Act.put, List.getElem_toArray, List.getElem_cons_zero, List.getElem_cons_succ, List.setIfInBounds_toArray, List.set_cons_zero, List.set_cons_succ]
      refine wpAnyH_done (by kernel_rfl) ?_ _
    all_goals
      go_wp2
      go_meet
      exact ⟨_, A66, c66, rfl, rfl, inferInstance, Tr.lp XN, ⟨ext _ _⟩⟩
  case rest => as_aux_lemma =>
    rename World => wx
    obtain ⟨g12, Az, cz, rfl, rfl, _, _, _⟩ := hcut
    go_upto_region 13 with fail
    go_cut [89] (fun s89 wy => ∃ b1 : Bool, s89 = .bool b1 ∧ Hid (b1 = true → b = 1 ∧ 0 ≤ a ∧ a < v) ∧ Bel wx wy)
    case first => as_aux_lemma =>
      by_cases h1 : b = 1
      · by_cases h2 : 0 ≤ a
        · by_cases h3 : a < v
          · have HH : Hid (b = 1 ∧ 0 ≤ a ∧ a < v) := ⟨h1, h2, h3⟩
            have h1' : (b == 1) = true := by simpa using h1
            have h4 : a < 12 := by omega
            clear h1
            go_wp2
            go_meet
            exact ⟨true, rfl, fun _ => HH.out, ⟨ext _ _⟩⟩
          · have h1' : (b == 1) = true := by simpa using h1
            clear h1
            go_wp2
            go_meet
            exact ⟨false, rfl, fun h => (by cases h), ⟨ext _ _⟩⟩
        · have h1' : (b == 1) = true := by simpa using h1
          clear h1
          go_wp2
          go_meet
          exact ⟨false, rfl, fun h => (by cases h), ⟨ext _ _⟩⟩
      · have h1' : (b == 1) = false := by simpa using h1
        clear h1
        go_wp2
        go_meet
        exact ⟨false, rfl, fun h => (by cases h), ⟨ext _ _⟩⟩
    case rest => as_aux_lemma =>
      rename World => wy
      obtain ⟨b1, rfl, HB, _⟩ := hcut
      go_upto_if 89 with fail
      go_cut [] (fun wz => Bel wy wz)
      case first => as_aux_lemma =>
        cases b1
        · go_wp2
          go_meet
          exact ⟨ext _ _⟩
        · obtain ⟨rfl, h0, h1⟩ := HB.out rfl
          have H01 := Lib.hid (And.intro h0 h1)
          clear h0 h1 HB
          go_upto_region 15 with (first | ((fail_if_success (have _q := A94)); go_at_call 14; (with_reducible refine (PowerOfSurreal_any x a _ A34 _ _ (tr _ A34)).mono ?_); rintro e94 w94 ⟨A94, c94, he, hs, hb⟩; obtain ⟨z94, b94, G94⟩ := optH (powK x a); rw [G94.hz, G94.hb] at he; rw [G94.hz] at hs; subst he; haveI : Bel _ w94 := ⟨hb⟩; haveI := Tr.arg hs; clear hs hb) | ((with_reducible refine at_dst (N := 14) rfl ?_); refine ev_box (cs := #[.slice none 0 0]) (t := 26) rfl ?hr14 ?_; (case hr14 => first | (go_simp; done) | (go_simp; rfl)); intro g14 v14 _ _ _ _))
          cases b94
          · go_wp2
            go_meet
            exact ⟨ext _ _⟩
          · obtain rfl := pows_int G42.some H01.out.1 H01.out.2 G94.some
            go_wp2_with (first | ((fail_if_success (have _q := w101)); go_at_call 11; (with_reducible refine (same_any _ z94 _ _ A94 A42 _ _ _ (Nat.le_refl _) (tr _ A94) (tr _ A42)).mono ?_); rintro e101 w101 ⟨rfl, hb⟩; haveI : Bel _ w101 := ⟨hb⟩; clear hb))
            go_meet
            exact ⟨ext _ _⟩
      case rest => as_aux_lemma =>
        rename World => wz
        haveI : Bel wy wz := hcut
        clear HB
        go_upto_region 22 with (first | ((fail_if_success (have _q := A106)); go_at_call 8; (with_reducible refine (drawPow_any B m d _ (hcm.below (ext w _)) hm1).mono ?_); rintro e106 w106 ⟨y, A106, c106, a', b', v', rfl, hx, hpq106, hv106, hb⟩; haveI : Bel _ w106 := ⟨hb⟩; haveI := Tr.arg hx; clear hx hb) | ((with_reducible refine at_dst (N := 16) rfl ?_); refine ev_box (cs := #[.slice none 0 0]) (t := 26) rfl ?hr16 ?_; (case hr16 => first | (go_simp; done) | (go_simp; rfl)); intro g16 v16 _ _ _ _) | ((with_reducible refine at_dst (N := 17) rfl ?_); refine ev_box (cs := #[.int .i64 0, .int .i64 0]) (t := 28) rfl ?hr17 ?_; (case hr17 => first | (go_simp; done) | (go_simp; rfl)); intro g17 v17 _ _ _ _) | ((fail_if_success (have _q := A114)); go_at_call 9; (with_reducible refine (PowerTerms_any x a' b' v _ A34 _ _ (tr _ A34) (by unfold I64; omega)).mono ?_); rintro e114 w114 ⟨A114, c114, he, hf, hb⟩; obtain ⟨z114, b114, G114⟩ := optH (powT x a' b' v); rw [G114.hz, G114.hb] at he; rw [G114.hz] at hf; subst he; haveI : Bel _ w114 := ⟨hb⟩; haveI := Fs.of hf; clear hf hb) | ((with_reducible refine at_dst (N := 19) rfl ?_); refine ev_box (cs := #[.slice none 0 0]) (t := 26) rfl ?hr19 ?_; (case hr19 => first | (go_simp; done) | (go_simp; rfl)); intro g19 v19 _ _ _ _) | ((fail_if_success (have _q := w120)); go_at_call 15; (with_reducible refine (AddFractions_any a b a' b' _).mono ?_); rintro e120 w120 ⟨he, hb⟩; obtain ⟨fp, fq, b120, G120⟩ := optFG (fAdd a b a' b'); rw [G120.h] at he; subst he; haveI : Bel _ w120 := ⟨hb⟩; clear hb) | ((with_reducible refine at_dst (N := 21) rfl ?_); refine ev_box (cs := #[.int .i64 0, .int .i64 0]) (t := 28) rfl ?hr21 ?_; (case hr21 => first | (go_simp; done) | (go_simp; rfl)); intro g21 v21 _ _ _ _) | ((fail_if_success (have _q := A127)); go_at_call 9; (with_reducible refine (PowerTerms_any x fp fq v _ A34 _ _ (tr _ A34) (by unfold I64; omega)).mono ?_); rintro e127 w127 ⟨A127, c127, he, hf, hb⟩; obtain ⟨z127, b127, G127⟩ := optH (powT x fp fq v); rw [G127.hz, G127.hb] at he; rw [G127.hz] at hf; subst he; haveI : Bel _ w127 := ⟨hb⟩; haveI := Fs.of hf; clear hf hb) | ((with_reducible refine at_dst (N := 23) rfl ?_); refine ev_box (cs := #[.slice none 0 0]) (t := 26) rfl ?hr23 ?_; (case hr23 => first | (go_simp; done) | (go_simp; rfl)); intro g23 v23 _ _ _ _) | ((fail_if_success (have _q := A133)); go_at_call 16; (with_reducible refine (MultiplySurreals_any z42 z114 _ _ A42 A114 _ _ _ (tr _ A42) (tr _ A114)).mono ?_); rintro e133 w133 ⟨A133, c133, he, hf, hb⟩; obtain ⟨z133, b133, G133⟩ := optH (mulS z42 z114); rw [G133.hz, G133.hb] at he; rw [G133.hz] at hf; subst he; haveI : Bel _ w133 := ⟨hb⟩; haveI := Fs.of hf; clear hf hb) | ((with_reducible refine at_dst (N := 25) rfl ?_); refine ev_box (cs := #[.slice none 0 0]) (t := 26) rfl ?hr25 ?_; (case hr25 => first | (go_simp; done) | (go_simp; rfl)); intro g25 v25 _ _ _ _))
        go_cut [155] (fun s155 wq => ∃ b1 : Bool, s155 = .bool b1 ∧ Hid (b1 = true → b114 = true ∧ b120 = true ∧ b127 = true ∧ b133 = true ∧ z.len ≠ 0) ∧ Bel (World.setCell v25 ⟨g25, 0, none⟩ (.slice A133 z133.len c133)) wq)
        case first => as_aux_lemma =>
          cases b114
          · go_wp2
            go_meet
            exact ⟨false, rfl, fun h => (by cases h), ⟨ext _ _⟩⟩
          · cases b120
            · go_wp2
              go_meet
              exact ⟨false, rfl, fun h => (by cases h), ⟨ext _ _⟩⟩
            · cases b127
              · go_wp2
                go_meet
                exact ⟨false, rfl, fun h => (by cases h), ⟨ext _ _⟩⟩
              · cases b133
                · go_wp2
                  go_meet
                  exact ⟨false, rfl, fun h => (by cases h), ⟨ext _ _⟩⟩
                · by_cases hl0 : z.len = 0
                  · have hl0' : ¬ (0 : Int) < (z.len : Int) := by omega
                    have hl1' : ¬ 0 < z.len := by omega
                    clear hl0
                    go_wp2
                    go_meet
                    exact ⟨_, rfl, fun h => (by simp at h; try omega), ⟨ext _ _⟩⟩
                  · have HY := Lib.hid hl0
                    have hl0' : (0 : Int) < (z.len : Int) := by omega
                    have hl1' : 0 < z.len := by omega
                    clear hl0
                    go_wp2
                    go_meet
                    exact ⟨_, rfl, fun _ => ⟨by simp, by simp, by simp, by simp, HY.out⟩, ⟨ext _ _⟩⟩
        case rest => as_aux_lemma =>
          rename World => wq
          obtain ⟨b1, rfl, HB, _⟩ := hcut
          cases b1
          · clear HB
            go_wp2
            go_ret
            exact ⟨rfl, ext w _⟩
          · obtain ⟨rfl, rfl, rfl, rfl, hzl⟩ := HB.out rfl
            have HL : Hid (z127.len ≤ 1099511627776) := by have := (sGood_len (powT_fn G127.some).choose_spec.2.2.2.1).1; show _ ≤ _; omega
            have HNE : Hid (z ≠ .nil) := len_ne hzl
            clear hzl HB
            go_upto_region 24 with (first | ((fail_if_success (have _q := A159)); go_at_call 12; (with_reducible refine (SubtractSurreals_any z133 z127 _ _ A133 A127 _ _ _ (tr _ A133) (tr _ A127) HL.out).mono ?_); rintro e159 w159 ⟨A159, c159, he, hf, hb⟩; obtain ⟨z159, b159, G159⟩ := optH (subS z133 z127); rw [G159.hz, G159.hb] at he; rw [G159.hz] at hf; subst he; haveI : Bel _ w159 := ⟨hb⟩; haveI := Fs.of hf; clear hf hb) | ((with_reducible refine at_dst (N := 27) rfl ?_); refine ev_box (cs := #[.slice none 0 0]) (t := 26) rfl ?hr27 ?_; (case hr27 => first | (go_simp; done) | (go_simp; rfl)); intro g27 v27 _ _ _ _))
            cases b159
            · go_wp2
              go_ret
              exact ⟨rfl, ext w _⟩
            · have HQ := Lib.hid (pows_law HZ0.out HNE.out G42.some G114.some (G120.s rfl) G127.some G133.some G159.some)
              go_wp2_with (first | (go_at_call 17; (with_reducible refine (qBeyond_any z159 z z v _ _ _ A159 Az Az _ _ _ _ (tr _ A159) (tr _ Az) (tr _ Az) HNE.out HNE.out (by omega)).mono ?_); rintro e168 w168 ⟨he, hb⟩; rw [HQ.out] at he; subst he; haveI : Bel _ w168 := ⟨hb⟩; clear hb))
              go_ret
              exact ⟨rfl, ext w _⟩
end Go.Proofs.YtphabopnbcgodaaGreat
