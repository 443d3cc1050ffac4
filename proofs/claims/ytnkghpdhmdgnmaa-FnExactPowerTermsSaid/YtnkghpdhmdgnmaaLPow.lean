/-
  The law FnExactPowerTerms: its walk.
-/
import Derived.Test.YtnkghpdhmdgnmaaLZL
import Derived.Test.YtnkghpdhmdgnmaaSPow
import Derived.Test.YtnkghpdhmdgnmaaWPow2
namespace Go.Proofs.Ytnkghpdhmdgnmaa
open Go.RowKit
set_option linter.unusedSimpArgs false
set_option linter.unusedVariables false

theorem spowGo_good (z : Sur) (n a b : Int) : ∀ (k : Nat) (i : Int) (bad : Bool) (out p : Sur) (c : Int × Int), sGood out = true → sGood (spowGo z n a b k i bad out p c).2 = true
  | 0, _, _, _, _, _, h => h
  | k + 1, i, bad, out, p, c, h => by
    simp only [spowGo]
    split
    · exact spowGo_good z n a b k _ _ _ _ _ (spOut_good _ _ _ _)
    · exact h
theorem powT_good (x : Sur) (a b n : Int) : sGood ((powT x a b n).getD .nil) = true := by
  rw [← spowTerms_powT]
  unfold spowTerms
  split
  · split
    · simp only
      split
      · exact sGood_nil
      · exact spowGo_good _ _ _ _ _ _ _ _ _ _ sGood_nil
    · exact sGood_nil
  · exact sGood_nil

attribute [local go_sem high] has_cell has_frozen
attribute [local go_sem] eqB_self
set_option synthInstance.maxHeartbeats 2000000 in
set_option synthInstance.maxSize 4000 in
set_option maxHeartbeats 8000000 in
set_option maxRecDepth 100000 in
theorem lawPow_any (x : Sur) (a b n : Int) (A : Option Addr) (c : Nat) (w : World) (sx : LSl w x A c) (in_ : I64 n) :
    Calls Try.prog 8 #[.agg #[.slice A x.len c], .agg #[.int .i64 a, .int .i64 b], .int .i64 n] w (RetB w true) := by
  have gg := total_good (powT_good x a b n)
  by_cases hs : szP x 1048576 < 0
  · go_enter Try.func8, Try.ntmps8
    go_wp2_with (first | ((with_reducible refine at_dst (N := 3) rfl ?_); refine ev_box (cs := #[.slice A x.len c]) (t := 40) rfl ?hr3 ?_; (case hr3 => first | (go_simp; done) | (go_simp; rfl)); intro g3 v3 _ _ _ _) | ((with_reducible refine at_dst (N := 4) rfl ?_); refine ev_box (cs := #[.int .i64 a, .int .i64 b]) (t := 61) rfl ?hr4 ?_; (case hr4 => first | (go_simp; done) | (go_simp; rfl)); intro g4 v4 _ _ _ _) | (go_at_call 21; refine (szSurreal_any x A c 1048576 _ (sx.below (ext w _)) (by omega) (by omega)).mono ?_; rintro e1 w1 ⟨rfl, hb⟩; haveI : Bel _ w1 := ⟨hb⟩; clear hb))
    go_ret
    exact ⟨rfl, ext _ _⟩
  · have htot : x.total ≤ 1048576 := by unfold szP at hs; split at hs <;> omega
    obtain ⟨oo, hoo⟩ : ∃ oo, oo = powT x a b n := ⟨_, rfl⟩
    rw [← hoo] at gg
    have HOO := Lib.hid hoo.symm
    clear hoo
    go_enter Try.func8, Try.ntmps8
    go_wp2_with (first | ((with_reducible refine at_dst (N := 3) rfl ?_); refine ev_box (cs := #[.slice A x.len c]) (t := 40) rfl ?hr3 ?_; (case hr3 => first | (go_simp; done) | (go_simp; rfl)); intro g3 v3 _ _ _ _) | ((with_reducible refine at_dst (N := 4) rfl ?_); refine ev_box (cs := #[.int .i64 a, .int .i64 b]) (t := 61) rfl ?hr4 ?_; (case hr4 => first | (go_simp; done) | (go_simp; rfl)); intro g4 v4 _ _ _ _) | (go_at_call 21; refine (szSurreal_any x A c 1048576 _ (sx.below (ext w _)) (by omega) (by omega)).mono ?_; rintro e1 w1 ⟨rfl, hb⟩; haveI : Bel _ w1 := ⟨hb⟩; clear hb))
    go_cut [8, 9] (fun s8 s9 wx => s9 = .bool oo.isSome ∧ ∃ g8 A3 c3, s8 = .pointer (some ⟨g8, 0, none⟩) ∧ Has wx g8 (.cells #[.slice A3 (oo.getD .nil).len c3] 26) ∧ Fs wx A3 w1 wx (oo.getD .nil) c3 ∧ Bel w1 wx)
    case first =>
      refine wp_region_held_drew (S := (fun w' => w'.cell? ⟨g3, 0, none⟩ = some (.slice A x.len c) ∧ w'.cell? ⟨g4, 0, none⟩ = some (.int .i64 a) ∧ w'.cell? ⟨g4, 1, none⟩ = some (.int .i64 b))) (by kernel_rfl) ?hSn1_ (fun hHeld => ?hRn1_)
      case hSn1_ => (exact ⟨has1, has2.1, has2.2⟩)
      refine wpAnyH_take (i := 0) (oi := _) (v := ?vn1_1) rfl (by kernel_rfl) (by kernel_rfl) (by kernel_rfl) (fun _ _ _ h => h) (Or.inl ⟨by rfl, ?hyn1_1⟩) (by assumption) ?hRn1_1
      case hyn1_1 => (intro w hSw; (try dsimp only at hSw); go_simp; (try with_reducible rfl))
      try simp only [Act.put, List.getElem_toArray, List.getElem_cons_zero, List.getElem_cons_succ, List.setIfInBounds_toArray, List.set_cons_zero, List.set_cons_succ]
      refine wpAnyH_take (i := 2) (oi := _) (v := ?vn1_2) rfl (by kernel_rfl) (by kernel_rfl) (by kernel_rfl) (fun _ _ _ h => h) (Or.inl ⟨by rfl, ?hyn1_2⟩) (by assumption) ?hRn1_2
      case hyn1_2 => (intro w hSw; (try dsimp only at hSw); go_simp; (try with_reducible rfl))
      try simp only [Act.put, List.getElem_toArray, List.getElem_cons_zero, List.getElem_cons_succ, List.setIfInBounds_toArray, List.set_cons_zero, List.set_cons_succ]
      refine wpAnyH_take (i := 4) (oi := _) (v := ?vn1_3) rfl (by kernel_rfl) (by kernel_rfl) (by kernel_rfl) (fun _ _ _ h => h) (Or.inl ⟨by rfl, ?hyn1_3⟩) (by assumption) ?hRn1_3
      case hyn1_3 => (intro w hSw; (try dsimp only at hSw); go_simp; (try with_reducible rfl))
      try simp only [Act.put, List.getElem_toArray, List.getElem_cons_zero, List.getElem_cons_succ, List.setIfInBounds_toArray, List.set_cons_zero, List.set_cons_succ]
      refine wpAnyH_ready (rs := [1, 9]) (by kernel_rfl) (by simp) ?_
      refine AllReadyH.cons (o := _) rfl (fun K hK => ?bn1_4) (AllReadyH.cons (o := _) rfl (fun K hK => ?bn1_5) (AllReadyH.nil))
      case' bn1_4 =>
        go_simp
        (go_at_call 23; refine (toSurreal_any x A c _ (sx.below (ext w _)) htot).mono ?_; rintro e2 w2 ⟨A2, c2, rfl, hf, hb⟩; haveI : Bel _ w2 := ⟨hb⟩; haveI := Fs.of hf; clear hf hb)
        go_wp2_with fail
        refine hK.out _ _ ?hSn1_6 (fun hHeld => ?hRn1_6)
        case hSn1_6 => ((try dsimp only); exact ⟨has1, has2.1, has2.2⟩)
        clear hK K
        try simp only [Act.put, List.getElem_toArray, List.getElem_cons_zero, List.getElem_cons_succ, List.setIfInBounds_toArray, List.set_cons_zero, List.set_cons_succ]
        refine wpAnyH_ready (rs := [3, 9]) (by kernel_rfl) (by simp) ?_
        refine AllReadyH.cons (o := _) rfl (fun K hK => ?bn1_7) (AllReadyH.cons (o := _) rfl (fun K hK => ?bn1_8) (AllReadyH.nil))
        case' bn1_7 =>
          go_simp
          (go_at_call 49; refine (toFraction_any a b _).mono ?_; rintro e2 wf ⟨rfl, hb⟩; haveI : Bel _ wf := ⟨hb⟩; clear hb)
          go_wp2_with fail
          refine hK.out _ _ ?hSn1_9 (fun hHeld => ?hRn1_9)
          case hSn1_9 => ((try dsimp only); exact ⟨has1, has2.1, has2.2⟩)
          clear hK K
          try simp only [Act.put, List.getElem_toArray, List.getElem_cons_zero, List.getElem_cons_succ, List.setIfInBounds_toArray, List.set_cons_zero, List.set_cons_succ]
          refine wpAnyH_ready (rs := [5, 9]) (by kernel_rfl) (by simp) ?_
          refine AllReadyH.cons (o := _) rfl (fun K hK => ?bn1_10) (AllReadyH.cons (o := _) rfl (fun K hK => ?bn1_11) (AllReadyH.nil))
          case' bn1_10 =>
            go_simp
            (go_at_call 48; refine (sPowerTerms_any x a b n _ _ _ _ (tr _ _)).mono ?_; rintro e3 w3 ⟨A3, c3, he, hf, hb⟩; rw [spowTerms_powT, HOO.out] at he hf; subst he; haveI : Bel _ w3 := ⟨hb⟩; haveI := Fs.of hf; clear hf hb)
            go_wp2_with fail
            refine hK.out _ _ ?hSn1_12 (fun hHeld => ?hRn1_12)
            case hSn1_12 => ((try dsimp only); exact ⟨has1, has2.1, has2.2⟩)
            clear hK K
            try simp only [Act.put, List.getElem_toArray, List.getElem_cons_zero, List.getElem_cons_succ, List.setIfInBounds_toArray, List.set_cons_zero, List.set_cons_succ]
            refine wpAnyH_take (i := 6) (oi := _) (v := ?vn1_13) rfl (by kernel_rfl) (by kernel_rfl) (by kernel_rfl) (fun _ _ _ h => h) (Or.inl ⟨by rfl, ?hyn1_13⟩) (by assumption) ?hRn1_13
            case hyn1_13 => (intro w hSw; (try dsimp only at hSw); go_simp; (try with_reducible rfl))
            try simp only [Act.put, List.getElem_toArray, List.getElem_cons_zero, List.getElem_cons_succ, List.setIfInBounds_toArray, List.set_cons_zero, List.set_cons_succ]
            refine wpAnyH_take (i := 7) (oi := _) (v := ?vn1_14) rfl (by kernel_rfl) (by kernel_rfl) (by kernel_rfl) (fun _ _ _ h => h) (Or.inl ⟨by rfl, ?hyn1_14⟩) (by assumption) ?hRn1_14
            case hyn1_14 => (intro w hSw; (try dsimp only at hSw); go_simp; (try with_reducible rfl))
            try simp only [Act.put, List.getElem_toArray, List.getElem_cons_zero, List.getElem_cons_succ, List.setIfInBounds_toArray, List.set_cons_zero, List.set_cons_succ]
            refine wpAnyH_take (i := 8) (oi := _) (v := ?vn1_15) rfl (by kernel_rfl) (by kernel_rfl) (by kernel_rfl) (fun _ _ _ h => h) (Or.inl ⟨by rfl, ?hyn1_15⟩) (by assumption) ?hRn1_15
            case hyn1_15 => (intro w hSw; (try dsimp only at hSw); go_simp; (try with_reducible rfl))
            try simp only [Act.put, List.getElem_toArray, List.getElem_cons_zero, List.getElem_cons_succ, List.setIfInBounds_toArray, List.set_cons_zero, List.set_cons_succ]
            refine wpAnyH_ready (rs := [9]) (by kernel_rfl) (by simp) ?_
            refine AllReadyH.cons (o := _) rfl (fun K hK => ?_) AllReadyH.nil
            go_simp
            refine hK.out _ _ ?hSn1_16 (fun hHeld => ?hRn1_16)
            case hSn1_16 => ((try dsimp only); exact ⟨has1, has2.1, has2.2⟩)
            clear hK K
            try simp only [Act.put, List.getElem_toArray, List.getElem_cons_zero, List.getElem_cons_succ, List.setIfInBounds_toArray, List.set_cons_zero, List.set_cons_succ]
            refine wpAnyH_ready (rs := [10]) (by kernel_rfl) (by simp) ?_
            refine AllReadyH.cons (o := _) rfl (fun K hK => ?_) AllReadyH.nil
            go_simp
            refine hK.out _ _ ?hSn1_17 (fun hHeld => ?hRn1_17)
            case hSn1_17 => ((try dsimp only); exact ⟨has1, has2.1, has2.2⟩)
            clear hK K
            try simp only [Act.put, List.getElem_toArray, List.getElem_cons_zero, List.getElem_cons_succ, List.setIfInBounds_toArray, List.set_cons_zero, List.set_cons_succ]
            refine wpAnyH_take (i := 11) (oi := _) (v := ?vn1_18) rfl (by kernel_rfl) (by kernel_rfl) (by kernel_rfl) (fun _ _ _ h => h) (Or.inl ⟨by rfl, ?hyn1_18⟩) (by assumption) ?hRn1_18
            case hyn1_18 => (intro w hSw; (try dsimp only at hSw); go_simp; (try with_reducible rfl))
            try simp only [Act.put, List.getElem_toArray, List.getElem_cons_zero, List.getElem_cons_succ, List.setIfInBounds_toArray, List.set_cons_zero, List.set_cons_succ]
            refine wpAnyH_done (by kernel_rfl) ?_ _
          case' bn1_11 =>
            go_simp
            refine hK.out _ _ ?hSn1_19 (fun hHeld => ?hRn1_19)
            case hSn1_19 => ((try dsimp only); exact ⟨has1, has2.1, has2.2⟩)
            clear hK K
            try simp only [Act.put, List.getElem_toArray, List.getElem_cons_zero, List.getElem_cons_succ, List.setIfInBounds_toArray, List.set_cons_zero, List.set_cons_succ]
            refine wpAnyH_ready (rs := [5]) (by kernel_rfl) (by simp) ?_
            refine AllReadyH.cons (o := _) rfl (fun K hK => ?_) AllReadyH.nil
            go_simp
            (go_at_call 48; refine (sPowerTerms_any x a b n _ _ _ _ (tr _ _)).mono ?_; rintro e3 w3 ⟨A3, c3, he, hf, hb⟩; rw [spowTerms_powT, HOO.out] at he hf; subst he; haveI : Bel _ w3 := ⟨hb⟩; haveI := Fs.of hf; clear hf hb)
            go_wp2_with fail
            refine hK.out _ _ ?hSn1_20 (fun hHeld => ?hRn1_20)
            case hSn1_20 => ((try dsimp only); exact ⟨has1, has2.1, has2.2⟩)
            clear hK K
            try simp only [Act.put, List.getElem_toArray, List.getElem_cons_zero, List.getElem_cons_succ, List.setIfInBounds_toArray, List.set_cons_zero, List.set_cons_succ]
            refine wpAnyH_take (i := 6) (oi := _) (v := ?vn1_21) rfl (by kernel_rfl) (by kernel_rfl) (by kernel_rfl) (fun _ _ _ h => h) (Or.inl ⟨by rfl, ?hyn1_21⟩) (by assumption) ?hRn1_21
            case hyn1_21 => (intro w hSw; (try dsimp only at hSw); go_simp; (try with_reducible rfl))
            try simp only [Act.put, List.getElem_toArray, List.getElem_cons_zero, List.getElem_cons_succ, List.setIfInBounds_toArray, List.set_cons_zero, List.set_cons_succ]
            refine wpAnyH_take (i := 7) (oi := _) (v := ?vn1_22) rfl (by kernel_rfl) (by kernel_rfl) (by kernel_rfl) (fun _ _ _ h => h) (Or.inl ⟨by rfl, ?hyn1_22⟩) (by assumption) ?hRn1_22
            case hyn1_22 => (intro w hSw; (try dsimp only at hSw); go_simp; (try with_reducible rfl))
            try simp only [Act.put, List.getElem_toArray, List.getElem_cons_zero, List.getElem_cons_succ, List.setIfInBounds_toArray, List.set_cons_zero, List.set_cons_succ]
            refine wpAnyH_take (i := 8) (oi := _) (v := ?vn1_23) rfl (by kernel_rfl) (by kernel_rfl) (by kernel_rfl) (fun _ _ _ h => h) (Or.inl ⟨by rfl, ?hyn1_23⟩) (by assumption) ?hRn1_23
            case hyn1_23 => (intro w hSw; (try dsimp only at hSw); go_simp; (try with_reducible rfl))
            try simp only [Act.put, List.getElem_toArray, List.getElem_cons_zero, List.getElem_cons_succ, List.setIfInBounds_toArray, List.set_cons_zero, List.set_cons_succ]
            refine wpAnyH_ready (rs := [10]) (by kernel_rfl) (by simp) ?_
            refine AllReadyH.cons (o := _) rfl (fun K hK => ?_) AllReadyH.nil
            go_simp
            refine hK.out _ _ ?hSn1_24 (fun hHeld => ?hRn1_24)
            case hSn1_24 => ((try dsimp only); exact ⟨has1, has2.1, has2.2⟩)
            clear hK K
            try simp only [Act.put, List.getElem_toArray, List.getElem_cons_zero, List.getElem_cons_succ, List.setIfInBounds_toArray, List.set_cons_zero, List.set_cons_succ]
            refine wpAnyH_take (i := 11) (oi := _) (v := ?vn1_25) rfl (by kernel_rfl) (by kernel_rfl) (by kernel_rfl) (fun _ _ _ h => h) (Or.inl ⟨by rfl, ?hyn1_25⟩) (by assumption) ?hRn1_25
            case hyn1_25 => (intro w hSw; (try dsimp only at hSw); go_simp; (try with_reducible rfl))
            try simp only [Act.put, List.getElem_toArray, List.getElem_cons_zero, List.getElem_cons_succ, List.setIfInBounds_toArray, List.set_cons_zero, List.set_cons_succ]
            refine wpAnyH_done (by kernel_rfl) ?_ _
        case' bn1_8 =>
          go_simp
          refine hK.out _ _ ?hSn1_26 (fun hHeld => ?hRn1_26)
          case hSn1_26 => ((try dsimp only); exact ⟨has1, has2.1, has2.2⟩)
          clear hK K
          try simp only [Act.put, List.getElem_toArray, List.getElem_cons_zero, List.getElem_cons_succ, List.setIfInBounds_toArray, List.set_cons_zero, List.set_cons_succ]
          refine wpAnyH_ready (rs := [3]) (by kernel_rfl) (by simp) ?_
          refine AllReadyH.cons (o := _) rfl (fun K hK => ?_) AllReadyH.nil
          go_simp
          (go_at_call 49; refine (toFraction_any a b _).mono ?_; rintro e2 wf ⟨rfl, hb⟩; haveI : Bel _ wf := ⟨hb⟩; clear hb)
          go_wp2_with fail
          refine hK.out _ _ ?hSn1_27 (fun hHeld => ?hRn1_27)
          case hSn1_27 => ((try dsimp only); exact ⟨has1, has2.1, has2.2⟩)
          clear hK K
          try simp only [Act.put, List.getElem_toArray, List.getElem_cons_zero, List.getElem_cons_succ, List.setIfInBounds_toArray, List.set_cons_zero, List.set_cons_succ]
          refine wpAnyH_ready (rs := [5]) (by kernel_rfl) (by simp) ?_
          refine AllReadyH.cons (o := _) rfl (fun K hK => ?_) AllReadyH.nil
          go_simp
          (go_at_call 48; refine (sPowerTerms_any x a b n _ _ _ _ (tr _ _)).mono ?_; rintro e3 w3 ⟨A3, c3, he, hf, hb⟩; rw [spowTerms_powT, HOO.out] at he hf; subst he; haveI : Bel _ w3 := ⟨hb⟩; haveI := Fs.of hf; clear hf hb)
          go_wp2_with fail
          refine hK.out _ _ ?hSn1_28 (fun hHeld => ?hRn1_28)
          case hSn1_28 => ((try dsimp only); exact ⟨has1, has2.1, has2.2⟩)
          clear hK K
          try simp only [Act.put, List.getElem_toArray, List.getElem_cons_zero, List.getElem_cons_succ, List.setIfInBounds_toArray, List.set_cons_zero, List.set_cons_succ]
          refine wpAnyH_take (i := 6) (oi := _) (v := ?vn1_29) rfl (by kernel_rfl) (by kernel_rfl) (by kernel_rfl) (fun _ _ _ h => h) (Or.inl ⟨by rfl, ?hyn1_29⟩) (by assumption) ?hRn1_29
          case hyn1_29 => (intro w hSw; (try dsimp only at hSw); go_simp; (try with_reducible rfl))
          try simp only [Act.put, List.getElem_toArray, List.getElem_cons_zero, List.getElem_cons_succ, List.setIfInBounds_toArray, List.set_cons_zero, List.set_cons_succ]
          refine wpAnyH_take (i := 7) (oi := _) (v := ?vn1_30) rfl (by kernel_rfl) (by kernel_rfl) (by kernel_rfl) (fun _ _ _ h => h) (Or.inl ⟨by rfl, ?hyn1_30⟩) (by assumption) ?hRn1_30
          case hyn1_30 => (intro w hSw; (try dsimp only at hSw); go_simp; (try with_reducible rfl))
          try simp only [Act.put, List.getElem_toArray, List.getElem_cons_zero, List.getElem_cons_succ, List.setIfInBounds_toArray, List.set_cons_zero, List.set_cons_succ]
          refine wpAnyH_take (i := 8) (oi := _) (v := ?vn1_31) rfl (by kernel_rfl) (by kernel_rfl) (by kernel_rfl) (fun _ _ _ h => h) (Or.inl ⟨by rfl, ?hyn1_31⟩) (by assumption) ?hRn1_31
          case hyn1_31 => (intro w hSw; (try dsimp only at hSw); go_simp; (try with_reducible rfl))
          try simp only [Act.put, List.getElem_toArray, List.getElem_cons_zero, List.getElem_cons_succ, List.setIfInBounds_toArray, List.set_cons_zero, List.set_cons_succ]
          refine wpAnyH_ready (rs := [10]) (by kernel_rfl) (by simp) ?_
          refine AllReadyH.cons (o := _) rfl (fun K hK => ?_) AllReadyH.nil
          go_simp
          refine hK.out _ _ ?hSn1_32 (fun hHeld => ?hRn1_32)
          case hSn1_32 => ((try dsimp only); exact ⟨has1, has2.1, has2.2⟩)
          clear hK K
          try simp only [Act.put, List.getElem_toArray, List.getElem_cons_zero, List.getElem_cons_succ, List.setIfInBounds_toArray, List.set_cons_zero, List.set_cons_succ]
          refine wpAnyH_take (i := 11) (oi := _) (v := ?vn1_33) rfl (by kernel_rfl) (by kernel_rfl) (by kernel_rfl) (fun _ _ _ h => h) (Or.inl ⟨by rfl, ?hyn1_33⟩) (by assumption) ?hRn1_33
          case hyn1_33 => (intro w hSw; (try dsimp only at hSw); go_simp; (try with_reducible rfl))
          try simp only [Act.put, List.getElem_toArray, List.getElem_cons_zero, List.getElem_cons_succ, List.setIfInBounds_toArray, List.set_cons_zero, List.set_cons_succ]
          refine wpAnyH_done (by kernel_rfl) ?_ _
      case' bn1_5 =>
        go_simp
        refine hK.out _ _ ?hSn1_34 (fun hHeld => ?hRn1_34)
        case hSn1_34 => ((try dsimp only); exact ⟨has1, has2.1, has2.2⟩)
        clear hK K
        try simp only [Act.put, List.getElem_toArray, List.getElem_cons_zero, List.getElem_cons_succ, List.setIfInBounds_toArray, List.set_cons_zero, List.set_cons_succ]
        refine wpAnyH_ready (rs := [1]) (by kernel_rfl) (by simp) ?_
        refine AllReadyH.cons (o := _) rfl (fun K hK => ?_) AllReadyH.nil
        go_simp
        (go_at_call 23; refine (toSurreal_any x A c _ (sx.below (ext w _)) htot).mono ?_; rintro e2 w2 ⟨A2, c2, rfl, hf, hb⟩; haveI : Bel _ w2 := ⟨hb⟩; haveI := Fs.of hf; clear hf hb)
        go_wp2_with fail
        refine hK.out _ _ ?hSn1_35 (fun hHeld => ?hRn1_35)
        case hSn1_35 => ((try dsimp only); exact ⟨has1, has2.1, has2.2⟩)
        clear hK K
        try simp only [Act.put, List.getElem_toArray, List.getElem_cons_zero, List.getElem_cons_succ, List.setIfInBounds_toArray, List.set_cons_zero, List.set_cons_succ]
        refine wpAnyH_ready (rs := [3]) (by kernel_rfl) (by simp) ?_
        refine AllReadyH.cons (o := _) rfl (fun K hK => ?_) AllReadyH.nil
        go_simp
        (go_at_call 49; refine (toFraction_any a b _).mono ?_; rintro e2 wf ⟨rfl, hb⟩; haveI : Bel _ wf := ⟨hb⟩; clear hb)
        go_wp2_with fail
        refine hK.out _ _ ?hSn1_36 (fun hHeld => ?hRn1_36)
        case hSn1_36 => ((try dsimp only); exact ⟨has1, has2.1, has2.2⟩)
        clear hK K
        try simp only [Act.put, List.getElem_toArray, List.getElem_cons_zero, List.getElem_cons_succ, List.setIfInBounds_toArray, List.set_cons_zero, List.set_cons_succ]
        refine wpAnyH_ready (rs := [5]) (by kernel_rfl) (by simp) ?_
        refine AllReadyH.cons (o := _) rfl (fun K hK => ?_) AllReadyH.nil
        go_simp
        (go_at_call 48; refine (sPowerTerms_any x a b n _ _ _ _ (tr _ _)).mono ?_; rintro e3 w3 ⟨A3, c3, he, hf, hb⟩; rw [spowTerms_powT, HOO.out] at he hf; subst he; haveI : Bel _ w3 := ⟨hb⟩; haveI := Fs.of hf; clear hf hb)
        go_wp2_with fail
        refine hK.out _ _ ?hSn1_37 (fun hHeld => ?hRn1_37)
        case hSn1_37 => ((try dsimp only); exact ⟨has1, has2.1, has2.2⟩)
        clear hK K
        try simp only [Act.put, List.getElem_toArray, List.getElem_cons_zero, List.getElem_cons_succ, List.setIfInBounds_toArray, List.set_cons_zero, List.set_cons_succ]
        refine wpAnyH_take (i := 6) (oi := _) (v := ?vn1_38) rfl (by kernel_rfl) (by kernel_rfl) (by kernel_rfl) (fun _ _ _ h => h) (Or.inl ⟨by rfl, ?hyn1_38⟩) (by assumption) ?hRn1_38
        case hyn1_38 => (intro w hSw; (try dsimp only at hSw); go_simp; (try with_reducible rfl))
        try simp only [Act.put, List.getElem_toArray, List.getElem_cons_zero, List.getElem_cons_succ, List.setIfInBounds_toArray, List.set_cons_zero, List.set_cons_succ]
        refine wpAnyH_take (i := 7) (oi := _) (v := ?vn1_39) rfl (by kernel_rfl) (by kernel_rfl) (by kernel_rfl) (fun _ _ _ h => h) (Or.inl ⟨by rfl, ?hyn1_39⟩) (by assumption) ?hRn1_39
        case hyn1_39 => (intro w hSw; (try dsimp only at hSw); go_simp; (try with_reducible rfl))
        try simp only [Act.put, List.getElem_toArray, List.getElem_cons_zero, List.getElem_cons_succ, List.setIfInBounds_toArray, List.set_cons_zero, List.set_cons_succ]
        refine wpAnyH_take (i := 8) (oi := _) (v := ?vn1_40) rfl (by kernel_rfl) (by kernel_rfl) (by kernel_rfl) (fun _ _ _ h => h) (Or.inl ⟨by rfl, ?hyn1_40⟩) (by assumption) ?hRn1_40
        case hyn1_40 => (intro w hSw; (try dsimp only at hSw); go_simp; (try with_reducible rfl))
        try simp only [Act.put, List.getElem_toArray, List.getElem_cons_zero, List.getElem_cons_succ, List.setIfInBounds_toArray, List.set_cons_zero, List.set_cons_succ]
        refine wpAnyH_ready (rs := [10]) (by kernel_rfl) (by simp) ?_
        refine AllReadyH.cons (o := _) rfl (fun K hK => ?_) AllReadyH.nil
        go_simp
        refine hK.out _ _ ?hSn1_41 (fun hHeld => ?hRn1_41)
        case hSn1_41 => ((try dsimp only); exact ⟨has1, has2.1, has2.2⟩)
        clear hK K
        try simp only [Act.put, List.getElem_toArray, List.getElem_cons_zero, List.getElem_cons_succ, List.setIfInBounds_toArray, List.set_cons_zero, List.set_cons_succ]
        refine wpAnyH_take (i := 11) (oi := _) (v := ?vn1_42) rfl (by kernel_rfl) (by kernel_rfl) (by kernel_rfl) (fun _ _ _ h => h) (Or.inl ⟨by rfl, ?hyn1_42⟩) (by assumption) ?hRn1_42
        case hyn1_42 => (intro w hSw; (try dsimp only at hSw); go_simp; (try with_reducible rfl))
        try simp only [Act.put, List.getElem_toArray, List.getElem_cons_zero, List.getElem_cons_succ, List.setIfInBounds_toArray, List.set_cons_zero, List.set_cons_succ]
        refine wpAnyH_done (by kernel_rfl) ?_ _
      all_goals
        go_wp2
        go_meet
        exact ⟨rfl, _, _, _, rfl, inferInstance, Fs.lp, ⟨ext w1 _⟩⟩
    case rest =>
      rename World => wx1
      obtain ⟨rfl, g8, A3, c3, rfl, _, _, _⟩ := hcut
      go_wp2_with (first | (go_at_call 23; refine (toSurreal_any x A c _ (sx.below (ext w _)) htot).mono ?_; rintro e2 w4 ⟨A4, c4, rfl, hf, hb⟩; haveI : Bel _ w4 := ⟨hb⟩; haveI := Fs.of hf; clear hf hb) | ((with_reducible refine at_dst (N := 10) rfl ?_); refine ev_box (cs := #[.slice none 0 0]) (t := 26) rfl ?hr10 ?_; (case hr10 => first | (go_simp; done) | (go_simp; rfl)); intro g10 v10 _ _ _ _))
      go_cut [11, 12] (fun s11 s12 wx => s12 = .bool oo.isSome ∧ ∃ g11 A5 c5 U5 v5, s11 = .pointer (some ⟨g11, 0, none⟩) ∧ Has wx g11 (.cells #[.slice A5 (oo.getD .nil).len c5] 26) ∧ Fs wx A5 U5 v5 (oo.getD .nil) c5 ∧ Aft v10 U5 ∧ LeB v5 wx ∧ XNot (XR U5 v5) g11 ∧ XNot (XR wx1 w4) g11 ∧ Bel (v10.setCell ⟨g10, 0, none⟩ (.slice A4 x.len c4)) wx)
      case first =>
        refine wp_region_held_drew (S := (fun w' => w'.cell? ⟨g10, 0, none⟩ = some (.slice A4 x.len c4) ∧ w'.cell? ⟨g4, 0, none⟩ = some (.int .i64 a) ∧ w'.cell? ⟨g4, 1, none⟩ = some (.int .i64 b))) (by kernel_rfl) ?hSn2_ (fun hHeld => ?hRn2_)
        case hSn2_ => (exact ⟨has1, has2.1, has2.2⟩)
        refine wpAnyH_take (i := 0) (oi := _) (v := ?vn2_1) rfl (by kernel_rfl) (by kernel_rfl) (by kernel_rfl) (fun _ _ _ h => h) (Or.inl ⟨by rfl, ?hyn2_1⟩) (by assumption) ?hRn2_1
        case hyn2_1 => (intro w hSw; (try dsimp only at hSw); go_simp; (try with_reducible rfl))
        try simp only [Act.put, List.getElem_toArray, List.getElem_cons_zero, List.getElem_cons_succ, List.setIfInBounds_toArray, List.set_cons_zero, List.set_cons_succ]
        refine wpAnyH_take (i := 1) (oi := _) (v := ?vn2_2) rfl (by kernel_rfl) (by kernel_rfl) (by kernel_rfl) (fun _ _ _ h => h) (Or.inl ⟨by rfl, ?hyn2_2⟩) (by assumption) ?hRn2_2
        case hyn2_2 => (intro w hSw; (try dsimp only at hSw); go_simp; (try with_reducible rfl))
        try simp only [Act.put, List.getElem_toArray, List.getElem_cons_zero, List.getElem_cons_succ, List.setIfInBounds_toArray, List.set_cons_zero, List.set_cons_succ]
        refine wpAnyH_take (i := 3) (oi := _) (v := ?vn2_3) rfl (by kernel_rfl) (by kernel_rfl) (by kernel_rfl) (fun _ _ _ h => h) (Or.inl ⟨by rfl, ?hyn2_3⟩) (by assumption) ?hRn2_3
        case hyn2_3 => (intro w hSw; (try dsimp only at hSw); go_simp; (try with_reducible rfl))
        try simp only [Act.put, List.getElem_toArray, List.getElem_cons_zero, List.getElem_cons_succ, List.setIfInBounds_toArray, List.set_cons_zero, List.set_cons_succ]
        refine wpAnyH_ready (rs := [2, 8]) (by kernel_rfl) (by simp) ?_
        refine AllReadyH.cons (o := _) rfl (fun K hK => ?bn2_4) (AllReadyH.cons (o := _) rfl (fun K hK => ?bn2_5) (AllReadyH.nil))
        case' bn2_4 =>
          go_simp
          (go_at_call 49; refine (toFraction_any a b _).mono ?_; rintro e2 wf ⟨rfl, hb⟩; haveI : Bel _ wf := ⟨hb⟩; clear hb)
          go_wp2_with fail
          refine hK.out _ _ ?hSn2_6 (fun hHeld => ?hRn2_6)
          case hSn2_6 => ((try dsimp only); exact ⟨has1, has2.1, has2.2⟩)
          clear hK K
          try simp only [Act.put, List.getElem_toArray, List.getElem_cons_zero, List.getElem_cons_succ, List.setIfInBounds_toArray, List.set_cons_zero, List.set_cons_succ]
          refine wpAnyH_ready (rs := [4, 8]) (by kernel_rfl) (by simp) ?_
          refine AllReadyH.cons (o := _) rfl (fun K hK => ?bn2_7) (AllReadyH.cons (o := _) rfl (fun K hK => ?bn2_8) (AllReadyH.nil))
          case' bn2_7 =>
            go_simp
            (go_at_call 50; refine (PowerTerms_any x a b n _ _ _ _ (tr _ _) in_).mono ?_; rintro e3 w5 ⟨A5, c5, he, hf, hb⟩; rw [HOO.out] at he hf; subst he; haveI : Bel _ w5 := ⟨hb⟩; haveI := Fs.of hf; clear hf hb)
            go_wp2_with fail
            refine hK.out _ _ ?hSn2_9 (fun hHeld => ?hRn2_9)
            case hSn2_9 => ((try dsimp only); exact ⟨has1, has2.1, has2.2⟩)
            clear hK K
            try simp only [Act.put, List.getElem_toArray, List.getElem_cons_zero, List.getElem_cons_succ, List.setIfInBounds_toArray, List.set_cons_zero, List.set_cons_succ]
            refine wpAnyH_take (i := 5) (oi := _) (v := ?vn2_10) rfl (by kernel_rfl) (by kernel_rfl) (by kernel_rfl) (fun _ _ _ h => h) (Or.inl ⟨by rfl, ?hyn2_10⟩) (by assumption) ?hRn2_10
            case hyn2_10 => (intro w hSw; (try dsimp only at hSw); go_simp; (try with_reducible rfl))
            try simp only [Act.put, List.getElem_toArray, List.getElem_cons_zero, List.getElem_cons_succ, List.setIfInBounds_toArray, List.set_cons_zero, List.set_cons_succ]
            refine wpAnyH_take (i := 6) (oi := _) (v := ?vn2_11) rfl (by kernel_rfl) (by kernel_rfl) (by kernel_rfl) (fun _ _ _ h => h) (Or.inl ⟨by rfl, ?hyn2_11⟩) (by assumption) ?hRn2_11
            case hyn2_11 => (intro w hSw; (try dsimp only at hSw); go_simp; (try with_reducible rfl))
            try simp only [Act.put, List.getElem_toArray, List.getElem_cons_zero, List.getElem_cons_succ, List.setIfInBounds_toArray, List.set_cons_zero, List.set_cons_succ]
            refine wpAnyH_take (i := 7) (oi := _) (v := ?vn2_12) rfl (by kernel_rfl) (by kernel_rfl) (by kernel_rfl) (fun _ _ _ h => h) (Or.inl ⟨by rfl, ?hyn2_12⟩) (by assumption) ?hRn2_12
            case hyn2_12 => (intro w hSw; (try dsimp only at hSw); go_simp; (try with_reducible rfl))
            try simp only [Act.put, List.getElem_toArray, List.getElem_cons_zero, List.getElem_cons_succ, List.setIfInBounds_toArray, List.set_cons_zero, List.set_cons_succ]
            refine wpAnyH_ready (rs := [8]) (by kernel_rfl) (by simp) ?_
            refine AllReadyH.cons (o := _) rfl (fun K hK => ?_) AllReadyH.nil
            go_simp
            refine hK.out _ _ ?hSn2_13 (fun hHeld => ?hRn2_13)
            case hSn2_13 => ((try dsimp only); exact ⟨has1, has2.1, has2.2⟩)
            clear hK K
            try simp only [Act.put, List.getElem_toArray, List.getElem_cons_zero, List.getElem_cons_succ, List.setIfInBounds_toArray, List.set_cons_zero, List.set_cons_succ]
            refine wpAnyH_ready (rs := [9]) (by kernel_rfl) (by simp) ?_
            refine AllReadyH.cons (o := _) rfl (fun K hK => ?_) AllReadyH.nil
            go_simp
            refine hK.out _ _ ?hSn2_14 (fun hHeld => ?hRn2_14)
            case hSn2_14 => ((try dsimp only); exact ⟨has1, has2.1, has2.2⟩)
            clear hK K
            try simp only [Act.put, List.getElem_toArray, List.getElem_cons_zero, List.getElem_cons_succ, List.setIfInBounds_toArray, List.set_cons_zero, List.set_cons_succ]
            refine wpAnyH_take (i := 10) (oi := _) (v := ?vn2_15) rfl (by kernel_rfl) (by kernel_rfl) (by kernel_rfl) (fun _ _ _ h => h) (Or.inl ⟨by rfl, ?hyn2_15⟩) (by assumption) ?hRn2_15
            case hyn2_15 => (intro w hSw; (try dsimp only at hSw); go_simp; (try with_reducible rfl))
            try simp only [Act.put, List.getElem_toArray, List.getElem_cons_zero, List.getElem_cons_succ, List.setIfInBounds_toArray, List.set_cons_zero, List.set_cons_succ]
            refine wpAnyH_done (by kernel_rfl) ?_ _
          case' bn2_8 =>
            go_simp
            refine hK.out _ _ ?hSn2_16 (fun hHeld => ?hRn2_16)
            case hSn2_16 => ((try dsimp only); exact ⟨has1, has2.1, has2.2⟩)
            clear hK K
            try simp only [Act.put, List.getElem_toArray, List.getElem_cons_zero, List.getElem_cons_succ, List.setIfInBounds_toArray, List.set_cons_zero, List.set_cons_succ]
            refine wpAnyH_ready (rs := [4]) (by kernel_rfl) (by simp) ?_
            refine AllReadyH.cons (o := _) rfl (fun K hK => ?_) AllReadyH.nil
            go_simp
            (go_at_call 50; refine (PowerTerms_any x a b n _ _ _ _ (tr _ _) in_).mono ?_; rintro e3 w5 ⟨A5, c5, he, hf, hb⟩; rw [HOO.out] at he hf; subst he; haveI : Bel _ w5 := ⟨hb⟩; haveI := Fs.of hf; clear hf hb)
            go_wp2_with fail
            refine hK.out _ _ ?hSn2_17 (fun hHeld => ?hRn2_17)
            case hSn2_17 => ((try dsimp only); exact ⟨has1, has2.1, has2.2⟩)
            clear hK K
            try simp only [Act.put, List.getElem_toArray, List.getElem_cons_zero, List.getElem_cons_succ, List.setIfInBounds_toArray, List.set_cons_zero, List.set_cons_succ]
            refine wpAnyH_take (i := 5) (oi := _) (v := ?vn2_18) rfl (by kernel_rfl) (by kernel_rfl) (by kernel_rfl) (fun _ _ _ h => h) (Or.inl ⟨by rfl, ?hyn2_18⟩) (by assumption) ?hRn2_18
            case hyn2_18 => (intro w hSw; (try dsimp only at hSw); go_simp; (try with_reducible rfl))
            try simp only [Act.put, List.getElem_toArray, List.getElem_cons_zero, List.getElem_cons_succ, List.setIfInBounds_toArray, List.set_cons_zero, List.set_cons_succ]
            refine wpAnyH_take (i := 6) (oi := _) (v := ?vn2_19) rfl (by kernel_rfl) (by kernel_rfl) (by kernel_rfl) (fun _ _ _ h => h) (Or.inl ⟨by rfl, ?hyn2_19⟩) (by assumption) ?hRn2_19
            case hyn2_19 => (intro w hSw; (try dsimp only at hSw); go_simp; (try with_reducible rfl))
            try simp only [Act.put, List.getElem_toArray, List.getElem_cons_zero, List.getElem_cons_succ, List.setIfInBounds_toArray, List.set_cons_zero, List.set_cons_succ]
            refine wpAnyH_take (i := 7) (oi := _) (v := ?vn2_20) rfl (by kernel_rfl) (by kernel_rfl) (by kernel_rfl) (fun _ _ _ h => h) (Or.inl ⟨by rfl, ?hyn2_20⟩) (by assumption) ?hRn2_20
            case hyn2_20 => (intro w hSw; (try dsimp only at hSw); go_simp; (try with_reducible rfl))
            try simp only [Act.put, List.getElem_toArray, List.getElem_cons_zero, List.getElem_cons_succ, List.setIfInBounds_toArray, List.set_cons_zero, List.set_cons_succ]
            refine wpAnyH_ready (rs := [9]) (by kernel_rfl) (by simp) ?_
            refine AllReadyH.cons (o := _) rfl (fun K hK => ?_) AllReadyH.nil
            go_simp
            refine hK.out _ _ ?hSn2_21 (fun hHeld => ?hRn2_21)
            case hSn2_21 => ((try dsimp only); exact ⟨has1, has2.1, has2.2⟩)
            clear hK K
            try simp only [Act.put, List.getElem_toArray, List.getElem_cons_zero, List.getElem_cons_succ, List.setIfInBounds_toArray, List.set_cons_zero, List.set_cons_succ]
            refine wpAnyH_take (i := 10) (oi := _) (v := ?vn2_22) rfl (by kernel_rfl) (by kernel_rfl) (by kernel_rfl) (fun _ _ _ h => h) (Or.inl ⟨by rfl, ?hyn2_22⟩) (by assumption) ?hRn2_22
            case hyn2_22 => (intro w hSw; (try dsimp only at hSw); go_simp; (try with_reducible rfl))
            try simp only [Act.put, List.getElem_toArray, List.getElem_cons_zero, List.getElem_cons_succ, List.setIfInBounds_toArray, List.set_cons_zero, List.set_cons_succ]
            refine wpAnyH_done (by kernel_rfl) ?_ _
        case' bn2_5 =>
          go_simp
          refine hK.out _ _ ?hSn2_23 (fun hHeld => ?hRn2_23)
          case hSn2_23 => ((try dsimp only); exact ⟨has1, has2.1, has2.2⟩)
          clear hK K
          try simp only [Act.put, List.getElem_toArray, List.getElem_cons_zero, List.getElem_cons_succ, List.setIfInBounds_toArray, List.set_cons_zero, List.set_cons_succ]
          refine wpAnyH_ready (rs := [2]) (by kernel_rfl) (by simp) ?_
          refine AllReadyH.cons (o := _) rfl (fun K hK => ?_) AllReadyH.nil
          go_simp
          (go_at_call 49; refine (toFraction_any a b _).mono ?_; rintro e2 wf ⟨rfl, hb⟩; haveI : Bel _ wf := ⟨hb⟩; clear hb)
          go_wp2_with fail
          refine hK.out _ _ ?hSn2_24 (fun hHeld => ?hRn2_24)
          case hSn2_24 => ((try dsimp only); exact ⟨has1, has2.1, has2.2⟩)
          clear hK K
          try simp only [Act.put, List.getElem_toArray, List.getElem_cons_zero, List.getElem_cons_succ, List.setIfInBounds_toArray, List.set_cons_zero, List.set_cons_succ]
          refine wpAnyH_ready (rs := [4]) (by kernel_rfl) (by simp) ?_
          refine AllReadyH.cons (o := _) rfl (fun K hK => ?_) AllReadyH.nil
          go_simp
          (go_at_call 50; refine (PowerTerms_any x a b n _ _ _ _ (tr _ _) in_).mono ?_; rintro e3 w5 ⟨A5, c5, he, hf, hb⟩; rw [HOO.out] at he hf; subst he; haveI : Bel _ w5 := ⟨hb⟩; haveI := Fs.of hf; clear hf hb)
          go_wp2_with fail
          refine hK.out _ _ ?hSn2_25 (fun hHeld => ?hRn2_25)
          case hSn2_25 => ((try dsimp only); exact ⟨has1, has2.1, has2.2⟩)
          clear hK K
          try simp only [Act.put, List.getElem_toArray, List.getElem_cons_zero, List.getElem_cons_succ, List.setIfInBounds_toArray, List.set_cons_zero, List.set_cons_succ]
          refine wpAnyH_take (i := 5) (oi := _) (v := ?vn2_26) rfl (by kernel_rfl) (by kernel_rfl) (by kernel_rfl) (fun _ _ _ h => h) (Or.inl ⟨by rfl, ?hyn2_26⟩) (by assumption) ?hRn2_26
          case hyn2_26 => (intro w hSw; (try dsimp only at hSw); go_simp; (try with_reducible rfl))
          try simp only [Act.put, List.getElem_toArray, List.getElem_cons_zero, List.getElem_cons_succ, List.setIfInBounds_toArray, List.set_cons_zero, List.set_cons_succ]
          refine wpAnyH_take (i := 6) (oi := _) (v := ?vn2_27) rfl (by kernel_rfl) (by kernel_rfl) (by kernel_rfl) (fun _ _ _ h => h) (Or.inl ⟨by rfl, ?hyn2_27⟩) (by assumption) ?hRn2_27
          case hyn2_27 => (intro w hSw; (try dsimp only at hSw); go_simp; (try with_reducible rfl))
          try simp only [Act.put, List.getElem_toArray, List.getElem_cons_zero, List.getElem_cons_succ, List.setIfInBounds_toArray, List.set_cons_zero, List.set_cons_succ]
          refine wpAnyH_take (i := 7) (oi := _) (v := ?vn2_28) rfl (by kernel_rfl) (by kernel_rfl) (by kernel_rfl) (fun _ _ _ h => h) (Or.inl ⟨by rfl, ?hyn2_28⟩) (by assumption) ?hRn2_28
          case hyn2_28 => (intro w hSw; (try dsimp only at hSw); go_simp; (try with_reducible rfl))
          try simp only [Act.put, List.getElem_toArray, List.getElem_cons_zero, List.getElem_cons_succ, List.setIfInBounds_toArray, List.set_cons_zero, List.set_cons_succ]
          refine wpAnyH_ready (rs := [9]) (by kernel_rfl) (by simp) ?_
          refine AllReadyH.cons (o := _) rfl (fun K hK => ?_) AllReadyH.nil
          go_simp
          refine hK.out _ _ ?hSn2_29 (fun hHeld => ?hRn2_29)
          case hSn2_29 => ((try dsimp only); exact ⟨has1, has2.1, has2.2⟩)
          clear hK K
          try simp only [Act.put, List.getElem_toArray, List.getElem_cons_zero, List.getElem_cons_succ, List.setIfInBounds_toArray, List.set_cons_zero, List.set_cons_succ]
          refine wpAnyH_take (i := 10) (oi := _) (v := ?vn2_30) rfl (by kernel_rfl) (by kernel_rfl) (by kernel_rfl) (fun _ _ _ h => h) (Or.inl ⟨by rfl, ?hyn2_30⟩) (by assumption) ?hRn2_30
          case hyn2_30 => (intro w hSw; (try dsimp only at hSw); go_simp; (try with_reducible rfl))
          try simp only [Act.put, List.getElem_toArray, List.getElem_cons_zero, List.getElem_cons_succ, List.setIfInBounds_toArray, List.set_cons_zero, List.set_cons_succ]
          refine wpAnyH_done (by kernel_rfl) ?_ _
        all_goals
          go_wp2
          go_meet
          exact ⟨rfl, _, _, _, _, _, rfl, inferInstance, inferInstance, ⟨LeB.h⟩, inferInstance, inferInstance, inferInstance, ⟨ext _ _⟩⟩
      case rest =>
        rename World => wx2
        obtain ⟨rfl, g11, A5, c5, U5, v5, rfl, _, _, _, _, _, _, _⟩ := hcut
        go_wp2_with (first | (go_at_call 25; refine (eqSurreal_any _ _ _ _ _ _ _ _ _ (tr _ _) (tr _ _)).mono ?_; rintro e6 we ⟨rfl, hb⟩; haveI : Bel _ we := ⟨hb⟩; clear hb))
        refine wp_region_held_drew (S := (fun w' => w'.cell? ⟨g10, 0, none⟩ = some (.slice A4 x.len c4) ∧ w'.cell? ⟨g3, 0, none⟩ = some (.slice A x.len c))) (by kernel_rfl) ?hSn3_ (fun hHeld => ?hRn3_)
        case hSn3_ => (exact ⟨has1, has1⟩)
        refine wpAnyH_take (i := 0) (oi := _) (v := ?vn3_1) rfl (by kernel_rfl) (by kernel_rfl) (by kernel_rfl) (fun _ _ _ h => h) (Or.inl ⟨by rfl, ?hyn3_1⟩) (by assumption) ?hRn3_1
        case hyn3_1 => (intro w hSw; (try dsimp only at hSw); go_simp; (try with_reducible rfl))
        try simp only [Act.put, List.getElem_toArray, List.getElem_cons_zero, List.getElem_cons_succ, List.setIfInBounds_toArray, List.set_cons_zero, List.set_cons_succ]
        refine wpAnyH_take (i := 1) (oi := _) (v := ?vn3_2) rfl (by kernel_rfl) (by kernel_rfl) (by kernel_rfl) (fun _ _ _ h => h) (Or.inl ⟨by rfl, ?hyn3_2⟩) (by assumption) ?hRn3_2
        case hyn3_2 => (intro w hSw; (try dsimp only at hSw); go_simp; (try with_reducible rfl))
        try simp only [Act.put, List.getElem_toArray, List.getElem_cons_zero, List.getElem_cons_succ, List.setIfInBounds_toArray, List.set_cons_zero, List.set_cons_succ]
        refine wpAnyH_ready (rs := [2]) (by kernel_rfl) (by simp) ?_
        refine AllReadyH.cons (o := _) rfl (fun K hK => ?_) AllReadyH.nil
        go_simp
        (go_at_call 23; refine (toSurreal_any x A c _ (sx.below (ext w _)) htot).mono ?_; rintro e2 w7 ⟨A7, c7, rfl, hf, hb⟩; haveI : Bel _ w7 := ⟨hb⟩; haveI := Fs.of hf; clear hf hb)
        go_wp2_with fail
        refine hK.out _ _ ?hSn3_3 (fun hHeld => ?hRn3_3)
        case hSn3_3 => ((try dsimp only); exact ⟨has1, has1⟩)
        clear hK K
        try simp only [Act.put, List.getElem_toArray, List.getElem_cons_zero, List.getElem_cons_succ, List.setIfInBounds_toArray, List.set_cons_zero, List.set_cons_succ]
        refine wpAnyH_ready (rs := [3]) (by kernel_rfl) (by simp) ?_
        refine AllReadyH.cons (o := _) rfl (fun K hK => ?_) AllReadyH.nil
        go_simp
        (go_at_call 25; refine (eqSurreal_any _ _ _ _ _ _ _ _ _ (tr _ _) (tr _ _)).mono ?_; rintro e6 we ⟨rfl, hb⟩; haveI : Bel _ we := ⟨hb⟩; clear hb)
        go_wp2_with fail
        refine hK.out _ _ ?hSn3_4 (fun hHeld => ?hRn3_4)
        case hSn3_4 => ((try dsimp only); exact ⟨has1, has1⟩)
        clear hK K
        try simp only [Act.put, List.getElem_toArray, List.getElem_cons_zero, List.getElem_cons_succ, List.setIfInBounds_toArray, List.set_cons_zero, List.set_cons_succ]
        refine wpAnyH_take (i := 4) (oi := _) (v := ?vn3_5) rfl (by kernel_rfl) (by kernel_rfl) (by kernel_rfl) (fun _ _ _ h => h) (Or.inl ⟨by rfl, ?hyn3_5⟩) (by assumption) ?hRn3_5
        case hyn3_5 => (intro w hSw; (try dsimp only at hSw); go_simp; (try with_reducible rfl))
        try simp only [Act.put, List.getElem_toArray, List.getElem_cons_zero, List.getElem_cons_succ, List.setIfInBounds_toArray, List.set_cons_zero, List.set_cons_succ]
        refine wpAnyH_done (by kernel_rfl) ?_ _
        go_wp2_with (first | (go_at_call 25; refine (eqSurreal_any _ _ _ _ _ _ _ _ _ (tr _ _) (tr _ _)).mono ?_; rintro e6 we ⟨rfl, hb⟩; haveI : Bel _ we := ⟨hb⟩; clear hb) | (go_at_call 26; refine (mark_lz x A4 c4 1 _ (by omega) (by omega)).mono ?_; rintro e9 w9 ⟨rfl, x9, _, _, _, _⟩; have hmk0 : ¬ (1 + 2 * (x.total : Int)) < 0 := by omega) | (go_at_call 26; refine (mark_lz (oo.getD .nil) A5 c5 1 _ (by omega) (by omega)).mono ?_; rintro e9 w11 ⟨rfl, g9, hl, hm, _, _⟩; have HL := Lib.hid hl; have HM := Lib.hid hm; clear hl hm) | (go_at_call 27; rw [← HL.out]; refine (heldSurreal_any g9 _ A5 c5 1 _ _ (tr _ A5) HM.out (by omega) (by omega)).mono ?_; rintro e12 w12 ⟨rfl, hb⟩; rw [HL.out]; haveI : Bel _ w12 := ⟨hb⟩; clear hb))
        refine wp_region_held_drew (S := (fun w' => w'.cell? ⟨g3, 0, none⟩ = some (.slice A x.len c) ∧ w'.cell? ⟨g4, 0, none⟩ = some (.int .i64 a) ∧ w'.cell? ⟨g4, 1, none⟩ = some (.int .i64 b))) (by kernel_rfl) ?hSn4_ (fun hHeld => ?hRn4_)
        case hSn4_ => (exact ⟨has1, has2.1, has2.2⟩)
        refine wpAnyH_take (i := 0) (oi := _) (v := ?vn4_1) rfl (by kernel_rfl) (by kernel_rfl) (by kernel_rfl) (fun _ _ _ h => h) (Or.inl ⟨by rfl, ?hyn4_1⟩) (by assumption) ?hRn4_1
        case hyn4_1 => (intro w hSw; (try dsimp only at hSw); go_simp; (try with_reducible rfl))
        try simp only [Act.put, List.getElem_toArray, List.getElem_cons_zero, List.getElem_cons_succ, List.setIfInBounds_toArray, List.set_cons_zero, List.set_cons_succ]
        refine wpAnyH_take (i := 2) (oi := _) (v := ?vn4_2) rfl (by kernel_rfl) (by kernel_rfl) (by kernel_rfl) (fun _ _ _ h => h) (Or.inl ⟨by rfl, ?hyn4_2⟩) (by assumption) ?hRn4_2
        case hyn4_2 => (intro w hSw; (try dsimp only at hSw); go_simp; (try with_reducible rfl))
        try simp only [Act.put, List.getElem_toArray, List.getElem_cons_zero, List.getElem_cons_succ, List.setIfInBounds_toArray, List.set_cons_zero, List.set_cons_succ]
        refine wpAnyH_take (i := 4) (oi := _) (v := ?vn4_3) rfl (by kernel_rfl) (by kernel_rfl) (by kernel_rfl) (fun _ _ _ h => h) (Or.inl ⟨by rfl, ?hyn4_3⟩) (by assumption) ?hRn4_3
        case hyn4_3 => (intro w hSw; (try dsimp only at hSw); go_simp; (try with_reducible rfl))
        try simp only [Act.put, List.getElem_toArray, List.getElem_cons_zero, List.getElem_cons_succ, List.setIfInBounds_toArray, List.set_cons_zero, List.set_cons_succ]
        refine wpAnyH_ready (rs := [1, 9]) (by kernel_rfl) (by simp) ?_
        refine AllReadyH.cons (o := _) rfl (fun K hK => ?bn4_4) (AllReadyH.cons (o := _) rfl (fun K hK => ?bn4_5) (AllReadyH.nil))
        case' bn4_4 =>
          go_simp
          (go_at_call 23; refine (toSurreal_any x A c _ (sx.below (ext w _)) htot).mono ?_; rintro e2 w13 ⟨A13, c13, rfl, hf, hb⟩; haveI : Bel _ w13 := ⟨hb⟩; haveI := Fs.of hf; clear hf hb)
          go_wp2_with fail
          refine hK.out _ _ ?hSn4_6 (fun hHeld => ?hRn4_6)
          case hSn4_6 => ((try dsimp only); exact ⟨has1, has2.1, has2.2⟩)
          clear hK K
          try simp only [Act.put, List.getElem_toArray, List.getElem_cons_zero, List.getElem_cons_succ, List.setIfInBounds_toArray, List.set_cons_zero, List.set_cons_succ]
          refine wpAnyH_ready (rs := [3, 9]) (by kernel_rfl) (by simp) ?_
          refine AllReadyH.cons (o := _) rfl (fun K hK => ?bn4_7) (AllReadyH.cons (o := _) rfl (fun K hK => ?bn4_8) (AllReadyH.nil))
          case' bn4_7 =>
            go_simp
            (go_at_call 49; refine (toFraction_any a b _).mono ?_; rintro e2 wf ⟨rfl, hb⟩; haveI : Bel _ wf := ⟨hb⟩; clear hb)
            go_wp2_with fail
            refine hK.out _ _ ?hSn4_9 (fun hHeld => ?hRn4_9)
            case hSn4_9 => ((try dsimp only); exact ⟨has1, has2.1, has2.2⟩)
            clear hK K
            try simp only [Act.put, List.getElem_toArray, List.getElem_cons_zero, List.getElem_cons_succ, List.setIfInBounds_toArray, List.set_cons_zero, List.set_cons_succ]
            refine wpAnyH_ready (rs := [5, 9]) (by kernel_rfl) (by simp) ?_
            refine AllReadyH.cons (o := _) rfl (fun K hK => ?bn4_10) (AllReadyH.cons (o := _) rfl (fun K hK => ?bn4_11) (AllReadyH.nil))
            case' bn4_10 =>
              go_simp
              (go_at_call 50; refine (PowerTerms_any x a b n _ _ _ _ (tr _ _) in_).mono ?_; rintro e3 w14 ⟨A14, c14, he, hf, hb⟩; rw [HOO.out] at he hf; subst he; haveI : Bel _ w14 := ⟨hb⟩; haveI := Fs.of hf; clear hf hb)
              go_wp2_with fail
              refine hK.out _ _ ?hSn4_12 (fun hHeld => ?hRn4_12)
              case hSn4_12 => ((try dsimp only); exact ⟨has1, has2.1, has2.2⟩)
              clear hK K
              try simp only [Act.put, List.getElem_toArray, List.getElem_cons_zero, List.getElem_cons_succ, List.setIfInBounds_toArray, List.set_cons_zero, List.set_cons_succ]
              refine wpAnyH_take (i := 6) (oi := _) (v := ?vn4_13) rfl (by kernel_rfl) (by kernel_rfl) (by kernel_rfl) (fun _ _ _ h => h) (Or.inl ⟨by rfl, ?hyn4_13⟩) (by assumption) ?hRn4_13
              case hyn4_13 => (intro w hSw; (try dsimp only at hSw); go_simp; (try with_reducible rfl))
              try simp only [Act.put, List.getElem_toArray, List.getElem_cons_zero, List.getElem_cons_succ, List.setIfInBounds_toArray, List.set_cons_zero, List.set_cons_succ]
              refine wpAnyH_take (i := 7) (oi := _) (v := ?vn4_14) rfl (by kernel_rfl) (by kernel_rfl) (by kernel_rfl) (fun _ _ _ h => h) (Or.inl ⟨by rfl, ?hyn4_14⟩) (by assumption) ?hRn4_14
              case hyn4_14 => (intro w hSw; (try dsimp only at hSw); go_simp; (try with_reducible rfl))
              try simp only [Act.put, List.getElem_toArray, List.getElem_cons_zero, List.getElem_cons_succ, List.setIfInBounds_toArray, List.set_cons_zero, List.set_cons_succ]
              refine wpAnyH_take (i := 8) (oi := _) (v := ?vn4_15) rfl (by kernel_rfl) (by kernel_rfl) (by kernel_rfl) (fun _ _ _ h => h) (Or.inl ⟨by rfl, ?hyn4_15⟩) (by assumption) ?hRn4_15
              case hyn4_15 => (intro w hSw; (try dsimp only at hSw); go_simp; (try with_reducible rfl))
              try simp only [Act.put, List.getElem_toArray, List.getElem_cons_zero, List.getElem_cons_succ, List.setIfInBounds_toArray, List.set_cons_zero, List.set_cons_succ]
              refine wpAnyH_ready (rs := [9]) (by kernel_rfl) (by simp) ?_
              refine AllReadyH.cons (o := _) rfl (fun K hK => ?_) AllReadyH.nil
              go_simp
              refine hK.out _ _ ?hSn4_16 (fun hHeld => ?hRn4_16)
              case hSn4_16 => ((try dsimp only); exact ⟨has1, has2.1, has2.2⟩)
              clear hK K
              try simp only [Act.put, List.getElem_toArray, List.getElem_cons_zero, List.getElem_cons_succ, List.setIfInBounds_toArray, List.set_cons_zero, List.set_cons_succ]
              refine wpAnyH_ready (rs := [10]) (by kernel_rfl) (by simp) ?_
              refine AllReadyH.cons (o := _) rfl (fun K hK => ?_) AllReadyH.nil
              go_simp
              refine hK.out _ _ ?hSn4_17 (fun hHeld => ?hRn4_17)
              case hSn4_17 => ((try dsimp only); exact ⟨has1, has2.1, has2.2⟩)
              clear hK K
              try simp only [Act.put, List.getElem_toArray, List.getElem_cons_zero, List.getElem_cons_succ, List.setIfInBounds_toArray, List.set_cons_zero, List.set_cons_succ]
              refine wpAnyH_take (i := 11) (oi := _) (v := ?vn4_18) rfl (by kernel_rfl) (by kernel_rfl) (by kernel_rfl) (fun _ _ _ h => h) (Or.inl ⟨by rfl, ?hyn4_18⟩) (by assumption) ?hRn4_18
              case hyn4_18 => (intro w hSw; (try dsimp only at hSw); go_simp; (try with_reducible rfl))
              try simp only [Act.put, List.getElem_toArray, List.getElem_cons_zero, List.getElem_cons_succ, List.setIfInBounds_toArray, List.set_cons_zero, List.set_cons_succ]
              refine wpAnyH_done (by kernel_rfl) ?_ _
            case' bn4_11 =>
              go_simp
              refine hK.out _ _ ?hSn4_19 (fun hHeld => ?hRn4_19)
              case hSn4_19 => ((try dsimp only); exact ⟨has1, has2.1, has2.2⟩)
              clear hK K
              try simp only [Act.put, List.getElem_toArray, List.getElem_cons_zero, List.getElem_cons_succ, List.setIfInBounds_toArray, List.set_cons_zero, List.set_cons_succ]
              refine wpAnyH_ready (rs := [5]) (by kernel_rfl) (by simp) ?_
              refine AllReadyH.cons (o := _) rfl (fun K hK => ?_) AllReadyH.nil
              go_simp
              (go_at_call 50; refine (PowerTerms_any x a b n _ _ _ _ (tr _ _) in_).mono ?_; rintro e3 w14 ⟨A14, c14, he, hf, hb⟩; rw [HOO.out] at he hf; subst he; haveI : Bel _ w14 := ⟨hb⟩; haveI := Fs.of hf; clear hf hb)
              go_wp2_with fail
              refine hK.out _ _ ?hSn4_20 (fun hHeld => ?hRn4_20)
              case hSn4_20 => ((try dsimp only); exact ⟨has1, has2.1, has2.2⟩)
              clear hK K
              try simp only [Act.put, List.getElem_toArray, List.getElem_cons_zero, List.getElem_cons_succ, List.setIfInBounds_toArray, List.set_cons_zero, List.set_cons_succ]
              refine wpAnyH_take (i := 6) (oi := _) (v := ?vn4_21) rfl (by kernel_rfl) (by kernel_rfl) (by kernel_rfl) (fun _ _ _ h => h) (Or.inl ⟨by rfl, ?hyn4_21⟩) (by assumption) ?hRn4_21
              case hyn4_21 => (intro w hSw; (try dsimp only at hSw); go_simp; (try with_reducible rfl))
              try simp only [Act.put, List.getElem_toArray, List.getElem_cons_zero, List.getElem_cons_succ, List.setIfInBounds_toArray, List.set_cons_zero, List.set_cons_succ]
              refine wpAnyH_take (i := 7) (oi := _) (v := ?vn4_22) rfl (by kernel_rfl) (by kernel_rfl) (by kernel_rfl) (fun _ _ _ h => h) (Or.inl ⟨by rfl, ?hyn4_22⟩) (by assumption) ?hRn4_22
              case hyn4_22 => (intro w hSw; (try dsimp only at hSw); go_simp; (try with_reducible rfl))
              try simp only [Act.put, List.getElem_toArray, List.getElem_cons_zero, List.getElem_cons_succ, List.setIfInBounds_toArray, List.set_cons_zero, List.set_cons_succ]
              refine wpAnyH_take (i := 8) (oi := _) (v := ?vn4_23) rfl (by kernel_rfl) (by kernel_rfl) (by kernel_rfl) (fun _ _ _ h => h) (Or.inl ⟨by rfl, ?hyn4_23⟩) (by assumption) ?hRn4_23
              case hyn4_23 => (intro w hSw; (try dsimp only at hSw); go_simp; (try with_reducible rfl))
              try simp only [Act.put, List.getElem_toArray, List.getElem_cons_zero, List.getElem_cons_succ, List.setIfInBounds_toArray, List.set_cons_zero, List.set_cons_succ]
              refine wpAnyH_ready (rs := [10]) (by kernel_rfl) (by simp) ?_
              refine AllReadyH.cons (o := _) rfl (fun K hK => ?_) AllReadyH.nil
              go_simp
              refine hK.out _ _ ?hSn4_24 (fun hHeld => ?hRn4_24)
              case hSn4_24 => ((try dsimp only); exact ⟨has1, has2.1, has2.2⟩)
              clear hK K
              try simp only [Act.put, List.getElem_toArray, List.getElem_cons_zero, List.getElem_cons_succ, List.setIfInBounds_toArray, List.set_cons_zero, List.set_cons_succ]
              refine wpAnyH_take (i := 11) (oi := _) (v := ?vn4_25) rfl (by kernel_rfl) (by kernel_rfl) (by kernel_rfl) (fun _ _ _ h => h) (Or.inl ⟨by rfl, ?hyn4_25⟩) (by assumption) ?hRn4_25
              case hyn4_25 => (intro w hSw; (try dsimp only at hSw); go_simp; (try with_reducible rfl))
              try simp only [Act.put, List.getElem_toArray, List.getElem_cons_zero, List.getElem_cons_succ, List.setIfInBounds_toArray, List.set_cons_zero, List.set_cons_succ]
              refine wpAnyH_done (by kernel_rfl) ?_ _
          case' bn4_8 =>
            go_simp
            refine hK.out _ _ ?hSn4_26 (fun hHeld => ?hRn4_26)
            case hSn4_26 => ((try dsimp only); exact ⟨has1, has2.1, has2.2⟩)
            clear hK K
            try simp only [Act.put, List.getElem_toArray, List.getElem_cons_zero, List.getElem_cons_succ, List.setIfInBounds_toArray, List.set_cons_zero, List.set_cons_succ]
            refine wpAnyH_ready (rs := [3]) (by kernel_rfl) (by simp) ?_
            refine AllReadyH.cons (o := _) rfl (fun K hK => ?_) AllReadyH.nil
            go_simp
            (go_at_call 49; refine (toFraction_any a b _).mono ?_; rintro e2 wf ⟨rfl, hb⟩; haveI : Bel _ wf := ⟨hb⟩; clear hb)
            go_wp2_with fail
            refine hK.out _ _ ?hSn4_27 (fun hHeld => ?hRn4_27)
            case hSn4_27 => ((try dsimp only); exact ⟨has1, has2.1, has2.2⟩)
            clear hK K
            try simp only [Act.put, List.getElem_toArray, List.getElem_cons_zero, List.getElem_cons_succ, List.setIfInBounds_toArray, List.set_cons_zero, List.set_cons_succ]
            refine wpAnyH_ready (rs := [5]) (by kernel_rfl) (by simp) ?_
            refine AllReadyH.cons (o := _) rfl (fun K hK => ?_) AllReadyH.nil
            go_simp
            (go_at_call 50; refine (PowerTerms_any x a b n _ _ _ _ (tr _ _) in_).mono ?_; rintro e3 w14 ⟨A14, c14, he, hf, hb⟩; rw [HOO.out] at he hf; subst he; haveI : Bel _ w14 := ⟨hb⟩; haveI := Fs.of hf; clear hf hb)
            go_wp2_with fail
            refine hK.out _ _ ?hSn4_28 (fun hHeld => ?hRn4_28)
            case hSn4_28 => ((try dsimp only); exact ⟨has1, has2.1, has2.2⟩)
            clear hK K
            try simp only [Act.put, List.getElem_toArray, List.getElem_cons_zero, List.getElem_cons_succ, List.setIfInBounds_toArray, List.set_cons_zero, List.set_cons_succ]
            refine wpAnyH_take (i := 6) (oi := _) (v := ?vn4_29) rfl (by kernel_rfl) (by kernel_rfl) (by kernel_rfl) (fun _ _ _ h => h) (Or.inl ⟨by rfl, ?hyn4_29⟩) (by assumption) ?hRn4_29
            case hyn4_29 => (intro w hSw; (try dsimp only at hSw); go_simp; (try with_reducible rfl))
            try simp only [Act.put, List.getElem_toArray, List.getElem_cons_zero, List.getElem_cons_succ, List.setIfInBounds_toArray, List.set_cons_zero, List.set_cons_succ]
            refine wpAnyH_take (i := 7) (oi := _) (v := ?vn4_30) rfl (by kernel_rfl) (by kernel_rfl) (by kernel_rfl) (fun _ _ _ h => h) (Or.inl ⟨by rfl, ?hyn4_30⟩) (by assumption) ?hRn4_30
            case hyn4_30 => (intro w hSw; (try dsimp only at hSw); go_simp; (try with_reducible rfl))
            try simp only [Act.put, List.getElem_toArray, List.getElem_cons_zero, List.getElem_cons_succ, List.setIfInBounds_toArray, List.set_cons_zero, List.set_cons_succ]
            refine wpAnyH_take (i := 8) (oi := _) (v := ?vn4_31) rfl (by kernel_rfl) (by kernel_rfl) (by kernel_rfl) (fun _ _ _ h => h) (Or.inl ⟨by rfl, ?hyn4_31⟩) (by assumption) ?hRn4_31
            case hyn4_31 => (intro w hSw; (try dsimp only at hSw); go_simp; (try with_reducible rfl))
            try simp only [Act.put, List.getElem_toArray, List.getElem_cons_zero, List.getElem_cons_succ, List.setIfInBounds_toArray, List.set_cons_zero, List.set_cons_succ]
            refine wpAnyH_ready (rs := [10]) (by kernel_rfl) (by simp) ?_
            refine AllReadyH.cons (o := _) rfl (fun K hK => ?_) AllReadyH.nil
            go_simp
            refine hK.out _ _ ?hSn4_32 (fun hHeld => ?hRn4_32)
            case hSn4_32 => ((try dsimp only); exact ⟨has1, has2.1, has2.2⟩)
            clear hK K
            try simp only [Act.put, List.getElem_toArray, List.getElem_cons_zero, List.getElem_cons_succ, List.setIfInBounds_toArray, List.set_cons_zero, List.set_cons_succ]
            refine wpAnyH_take (i := 11) (oi := _) (v := ?vn4_33) rfl (by kernel_rfl) (by kernel_rfl) (by kernel_rfl) (fun _ _ _ h => h) (Or.inl ⟨by rfl, ?hyn4_33⟩) (by assumption) ?hRn4_33
            case hyn4_33 => (intro w hSw; (try dsimp only at hSw); go_simp; (try with_reducible rfl))
            try simp only [Act.put, List.getElem_toArray, List.getElem_cons_zero, List.getElem_cons_succ, List.setIfInBounds_toArray, List.set_cons_zero, List.set_cons_succ]
            refine wpAnyH_done (by kernel_rfl) ?_ _
        case' bn4_5 =>
          go_simp
          refine hK.out _ _ ?hSn4_34 (fun hHeld => ?hRn4_34)
          case hSn4_34 => ((try dsimp only); exact ⟨has1, has2.1, has2.2⟩)
          clear hK K
          try simp only [Act.put, List.getElem_toArray, List.getElem_cons_zero, List.getElem_cons_succ, List.setIfInBounds_toArray, List.set_cons_zero, List.set_cons_succ]
          refine wpAnyH_ready (rs := [1]) (by kernel_rfl) (by simp) ?_
          refine AllReadyH.cons (o := _) rfl (fun K hK => ?_) AllReadyH.nil
          go_simp
          (go_at_call 23; refine (toSurreal_any x A c _ (sx.below (ext w _)) htot).mono ?_; rintro e2 w13 ⟨A13, c13, rfl, hf, hb⟩; haveI : Bel _ w13 := ⟨hb⟩; haveI := Fs.of hf; clear hf hb)
          go_wp2_with fail
          refine hK.out _ _ ?hSn4_35 (fun hHeld => ?hRn4_35)
          case hSn4_35 => ((try dsimp only); exact ⟨has1, has2.1, has2.2⟩)
          clear hK K
          try simp only [Act.put, List.getElem_toArray, List.getElem_cons_zero, List.getElem_cons_succ, List.setIfInBounds_toArray, List.set_cons_zero, List.set_cons_succ]
          refine wpAnyH_ready (rs := [3]) (by kernel_rfl) (by simp) ?_
          refine AllReadyH.cons (o := _) rfl (fun K hK => ?_) AllReadyH.nil
          go_simp
          (go_at_call 49; refine (toFraction_any a b _).mono ?_; rintro e2 wf ⟨rfl, hb⟩; haveI : Bel _ wf := ⟨hb⟩; clear hb)
          go_wp2_with fail
          refine hK.out _ _ ?hSn4_36 (fun hHeld => ?hRn4_36)
          case hSn4_36 => ((try dsimp only); exact ⟨has1, has2.1, has2.2⟩)
          clear hK K
          try simp only [Act.put, List.getElem_toArray, List.getElem_cons_zero, List.getElem_cons_succ, List.setIfInBounds_toArray, List.set_cons_zero, List.set_cons_succ]
          refine wpAnyH_ready (rs := [5]) (by kernel_rfl) (by simp) ?_
          refine AllReadyH.cons (o := _) rfl (fun K hK => ?_) AllReadyH.nil
          go_simp
          (go_at_call 50; refine (PowerTerms_any x a b n _ _ _ _ (tr _ _) in_).mono ?_; rintro e3 w14 ⟨A14, c14, he, hf, hb⟩; rw [HOO.out] at he hf; subst he; haveI : Bel _ w14 := ⟨hb⟩; haveI := Fs.of hf; clear hf hb)
          go_wp2_with fail
          refine hK.out _ _ ?hSn4_37 (fun hHeld => ?hRn4_37)
          case hSn4_37 => ((try dsimp only); exact ⟨has1, has2.1, has2.2⟩)
          clear hK K
          try simp only [Act.put, List.getElem_toArray, List.getElem_cons_zero, List.getElem_cons_succ, List.setIfInBounds_toArray, List.set_cons_zero, List.set_cons_succ]
          refine wpAnyH_take (i := 6) (oi := _) (v := ?vn4_38) rfl (by kernel_rfl) (by kernel_rfl) (by kernel_rfl) (fun _ _ _ h => h) (Or.inl ⟨by rfl, ?hyn4_38⟩) (by assumption) ?hRn4_38
          case hyn4_38 => (intro w hSw; (try dsimp only at hSw); go_simp; (try with_reducible rfl))
          try simp only [Act.put, List.getElem_toArray, List.getElem_cons_zero, List.getElem_cons_succ, List.setIfInBounds_toArray, List.set_cons_zero, List.set_cons_succ]
          refine wpAnyH_take (i := 7) (oi := _) (v := ?vn4_39) rfl (by kernel_rfl) (by kernel_rfl) (by kernel_rfl) (fun _ _ _ h => h) (Or.inl ⟨by rfl, ?hyn4_39⟩) (by assumption) ?hRn4_39
          case hyn4_39 => (intro w hSw; (try dsimp only at hSw); go_simp; (try with_reducible rfl))
          try simp only [Act.put, List.getElem_toArray, List.getElem_cons_zero, List.getElem_cons_succ, List.setIfInBounds_toArray, List.set_cons_zero, List.set_cons_succ]
          refine wpAnyH_take (i := 8) (oi := _) (v := ?vn4_40) rfl (by kernel_rfl) (by kernel_rfl) (by kernel_rfl) (fun _ _ _ h => h) (Or.inl ⟨by rfl, ?hyn4_40⟩) (by assumption) ?hRn4_40
          case hyn4_40 => (intro w hSw; (try dsimp only at hSw); go_simp; (try with_reducible rfl))
          try simp only [Act.put, List.getElem_toArray, List.getElem_cons_zero, List.getElem_cons_succ, List.setIfInBounds_toArray, List.set_cons_zero, List.set_cons_succ]
          refine wpAnyH_ready (rs := [10]) (by kernel_rfl) (by simp) ?_
          refine AllReadyH.cons (o := _) rfl (fun K hK => ?_) AllReadyH.nil
          go_simp
          refine hK.out _ _ ?hSn4_41 (fun hHeld => ?hRn4_41)
          case hSn4_41 => ((try dsimp only); exact ⟨has1, has2.1, has2.2⟩)
          clear hK K
          try simp only [Act.put, List.getElem_toArray, List.getElem_cons_zero, List.getElem_cons_succ, List.setIfInBounds_toArray, List.set_cons_zero, List.set_cons_succ]
          refine wpAnyH_take (i := 11) (oi := _) (v := ?vn4_42) rfl (by kernel_rfl) (by kernel_rfl) (by kernel_rfl) (fun _ _ _ h => h) (Or.inl ⟨by rfl, ?hyn4_42⟩) (by assumption) ?hRn4_42
          case hyn4_42 => (intro w hSw; (try dsimp only at hSw); go_simp; (try with_reducible rfl))
          try simp only [Act.put, List.getElem_toArray, List.getElem_cons_zero, List.getElem_cons_succ, List.setIfInBounds_toArray, List.set_cons_zero, List.set_cons_succ]
          refine wpAnyH_done (by kernel_rfl) ?_ _
        all_goals
          go_wp2_with (first | (go_at_call 25; refine (eqSurreal_any _ _ _ _ _ _ _ _ _ (tr _ _) (tr _ _)).mono ?_; rintro e6 we ⟨rfl, hb⟩; haveI : Bel _ we := ⟨hb⟩; clear hb) | (go_at_call 27; rw [← HL.out]; refine (heldSurreal_any g9 _ A5 c5 1 _ _ (tr _ A5) HM.out (by omega) (by omega)).mono ?_; rintro e12 w15 ⟨rfl, hb⟩; rw [HL.out]; haveI : Bel _ w15 := ⟨hb⟩; clear hb))
          go_ret
          exact ⟨rfl, ext _ _⟩
end Go.Proofs.Ytnkghpdhmdgnmaa
