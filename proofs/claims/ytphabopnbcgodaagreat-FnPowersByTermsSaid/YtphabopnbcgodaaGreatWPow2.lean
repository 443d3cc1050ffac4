/-
  Walks: PowerTerms.
-/
import Derived.Test.YtphabopnbcgodaaGreatWLog
import Derived.Test.YtphabopnbcgodaaGreatBG
import Derived.Test.YtphabopnbcgodaaGreatBL
namespace Go.Proofs.YtphabopnbcgodaaGreat
open Go.RowKit
set_option linter.unusedSimpArgs false
set_option linter.unusedVariables false

set_option maxHeartbeats 400000 in
theorem mcoef_any (n d : Int) (ok bad : Bool) (mb : Nat) (w : World) (hm : w.cell? ⟨mb, 0, none⟩ = some (.bool bad)) (hf : w.frozen? ⟨mb, 0, none⟩ = false) :
    Calls Tryz.prog 54 #[.pointer (some ⟨mb, 0, none⟩), .agg #[.int .i64 n, .int .i64 d], .bool ok] w fun e w' => e = .returned (.agg #[.int .i64 n, .int .i64 d]) ∧ Below w.heap.size (w.setCell ⟨mb, 0, none⟩ (.bool (bad || !ok))) w' := by
  have hlt : mb < w.heap.size := World.block_lt_of_cell? w ⟨mb, 0, none⟩ hm
  have hn1 : ¬ mb = w.heap.size := by omega
  have hn2 : ¬ mb = w.heap.size + 1 := by omega
  cases bad <;> cases ok
  all_goals
    go_enter Tryz.func54, Tryz.ntmps54
    go_wp2
    refine bodyPost_ret (v := .agg #[.int .i64 n, .int .i64 d]) (by simp [results, Tryz.results54, go_sem]) rfl ?_
    refine ⟨rfl, ?_⟩
    refine Below.alloc (Below.alloc (Below.refl _ _) ?_ _) ?_ _
    · simp only [World.size_setCell]; exact Nat.le_refl _
    · simp only [World.size_alloc, World.size_setCell]; omega

theorem optF_eq (o : Option (Int × Int)) : optF o = .tuple #[.agg #[.int .i64 (o.getD (0, 0)).1, .int .i64 (o.getD (0, 0)).2], .bool o.isSome] := by rcases o with _ | ⟨_, _⟩ <;> rfl
theorem cfS_any (a b i : Int) (w : World) : Calls Tryz.prog 56 #[.agg #[.int .i64 a, .int .i64 b], .agg #[.int .i64 (i - 1), .int .i64 1]] w fun e w' => e = .returned (.tuple #[.agg #[.int .i64 ((cfS a b i).getD (0, 0)).1, .int .i64 ((cfS a b i).getD (0, 0)).2], .bool (cfS a b i).isSome]) ∧ Below w.heap.size w w' := by
  rw [← optF_eq]; exact SubtractFractions_any _ _ _ _ _
theorem cfQ_any (a b i : Int) (w : World) : Calls Tryz.prog 55 #[.agg #[.int .i64 ((cfS a b i).getD (0, 0)).1, .int .i64 ((cfS a b i).getD (0, 0)).2], .agg #[.int .i64 i, .int .i64 1]] w fun e w' => e = .returned (.tuple #[.agg #[.int .i64 ((cfQ a b i).getD (0, 0)).1, .int .i64 ((cfQ a b i).getD (0, 0)).2], .bool (cfQ a b i).isSome]) ∧ Below w.heap.size w w' := by
  rw [← optF_eq]; exact DivideFractions_any _ _ _ _ _
theorem cfM_any (a b i : Int) (c : Int × Int) (w : World) : Calls Tryz.prog 57 #[.agg #[.int .i64 c.1, .int .i64 c.2], .agg #[.int .i64 ((cfQ a b i).getD (0, 0)).1, .int .i64 ((cfQ a b i).getD (0, 0)).2]] w fun e w' => e = .returned (.tuple #[.agg #[.int .i64 ((cfM a b i c).getD (0, 0)).1, .int .i64 ((cfM a b i c).getD (0, 0)).2], .bool (cfM a b i c).isSome]) ∧ Below w.heap.size w w' := by
  rw [← optF_eq]; exact MultiplyFractions_any _ _ _ _ _

attribute [local go_sem high] has_cell has_frozen
set_option synthInstance.maxHeartbeats 2000000 in
set_option synthInstance.maxSize 4000 in
set_option maxHeartbeats 8000000 in
set_option maxRecDepth 100000 in
theorem PowerTerms_any (x : Sur) (a b n : Int) (X : Nat → Prop) (A : Option Addr) (c : Nat) (w : World) (sx : SSl X w x A c) (in_ : I64 n) :
    Calls Tryz.prog 9 #[.agg #[.slice A x.len c], .agg #[.int .i64 a, .int .i64 b], .int .i64 n] w (RetFreshB w (powT x a b n)) := by
  haveI := Tr.arg sx
  clear sx
  by_cases hall : (sGood x && (fracOk a b && stepsB n)) = true
  · have H := Lib.hid (show powT x a b n = if (powGo ((lessOne x).getD .nil) n a b 13 0 (nearBad false x) .nil oneS (1, 1)).1 = true then none else some (powGo ((lessOne x).getD .nil) n a b 13 0 (nearBad false x) .nil oneS (1, 1)).2 by simp only [powT, hall]; rfl)
    simp only [Bool.and_eq_true] at hall
    obtain ⟨hg, hfr, hn⟩ := hall
    obtain ⟨hn0, hn1⟩ := stepsB_true hn
    go_enter Tryz.func9, Tryz.ntmps9
    go_wp2_with (first | ((with_reducible refine at_dst (N := 3) rfl ?_); refine ev_box (cs := #[.slice A x.len c]) (t := 26) rfl ?hr3 ?_; (case hr3 => first | (go_simp; done) | (go_simp; rfl)); intro g3 v3 _ _ _ _) | ((with_reducible refine at_dst (N := 4) rfl ?_); refine ev_box (cs := #[.int .i64 a, .int .i64 b]) (t := 28) rfl ?hr4 ?_; (case hr4 => first | (go_simp; done) | (go_simp; rfl)); intro g4 v4 _ _ _ _) | ((with_reducible refine at_dst (N := 6) rfl ?_); refine ev_box (cs := #[.slice none 0 0]) (t := 26) rfl ?hr6 ?_; (case hr6 => first | (go_simp; done) | (go_simp; rfl)); intro g6 v6 _ _ _ _) | (go_at_call 47; refine (IsSurreal_any x _ _ _ _ (tr _ A)).mono ?_; rintro e1 w1 ⟨rfl, hb⟩; haveI : Bel _ w1 := ⟨hb⟩; clear hb) | (go_at_call 48; refine (IsFraction_any a b _).mono ?_; rintro e2 w2 ⟨rfl, hb⟩; haveI : Bel _ w2 := ⟨hb⟩; clear hb) | (go_at_call 49; refine (stepsOk_any n _).mono ?_; rintro e3 w3 ⟨rfl, rfl⟩) | ((with_reducible refine at_dst (N := 8) rfl ?_); refine ev_box (cs := #[.bool false]) (t := 77) rfl ?hr8 ?_; (case hr8 => first | (go_simp; done) | (go_simp; rfl)); intro g8 v8 _ _ _ _) | ((with_reducible refine at_dst (N := 9) rfl ?_); refine ev_box (cs := #[.slice none 0 0]) (t := 26) rfl ?hr9 ?_; (case hr9 => first | (go_simp; done) | (go_simp; rfl)); intro g9 v9 _ _ _ _) | ((with_reducible refine at_dst (N := 10) rfl ?_); refine ev_box (cs := #[.slice none 0 0]) (t := 26) rfl ?hr10 ?_; (case hr10 => first | (go_simp; done) | (go_simp; rfl)); intro g10 v10 _ _ _ _) | ((with_reducible refine at_dst (N := 11) rfl ?_); refine ev_box (cs := #[.slice none 0 0]) (t := 26) rfl ?hr11 ?_; (case hr11 => first | (go_simp; done) | (go_simp; rfl)); intro g11 v11 _ _ _ _) | ((with_reducible refine at_dst (N := 12) rfl ?_); refine ev_box (cs := #[.int .i64 0, .int .i64 0]) (t := 28) rfl ?hr12 ?_; (case hr12 => first | (go_simp; done) | (go_simp; rfl)); intro g12 v12 _ _ _ _) | (go_at_call 50; refine (nearOne_any x false g8 _ _ _ _ (tr _ A) has1 has_frozen).mono ?_; rintro e4 w4 ⟨Az, cz, rfl, hf, hb⟩; haveI := belM hb; haveI := Fs.of hf; clear hf hb) | (go_at_call 52; refine (whole_any 1 _).mono ?_; rintro e5 w5 ⟨rfl, hb⟩; haveI : Bel _ w5 := ⟨hb⟩; clear hb) | (go_at_call 51; refine (real_any 1 1 (XL _) _ (fun k hk => hk) ⟨by decide, by decide⟩ ⟨by decide, by decide⟩).mono ?_; rintro e6 w6 ⟨Ap, cp, rfl, hs, hb⟩; haveI : Bel _ w6 := ⟨hb⟩; haveI := Tr.arg hs; clear hs hb))
    generalize (lessOne x).getD .nil = z at *
    generalize nearBad false x = nb at *
    have hone : termP .nil 1 1 = oneS := rfl
    simp only [hone] at *
    clear hone
    go_loopw [13] (fun s wr => ∃ (i : Nat) (bad : Bool) (Ao : Option Addr) (co : Nat) (out : Sur) (Ap : Option Addr) (cp : Nat) (p : Sur) (cc : Int × Int), s = .int .i64 i ∧ (i : Int) ≤ n ∧
        Has wr g8 (.cells #[.bool bad] 77) ∧ Has wr g9 (.cells #[.slice Ao out.len co] 26) ∧ Has wr g11 (.cells #[.slice Ap p.len cp] 26) ∧ Has wr g12 (.cells #[.int .i64 cc.1, .int .i64 cc.2] 28) ∧
        Tr wr Ap (XV wr (XU (XE g8) (XU (XE g9) (XU (XE g11) (XE g12))))) p cp ∧ Fs wr Ao v12 wr out co ∧ Kp v12 (XU (XE g8) (XU (XE g9) (XU (XE g11) (XE g12)))) wr ∧ Hid (powGo z n a b 13 0 nb .nil oneS (1, 1) = powGo z n a b (13 - i) i bad out p cc)) (fun s _ => 20 - (intOf s).toNat)
    case atStart => exact ⟨0, nb, none, 0, .nil, Ap, cp, oneS, (1, 1), rfl, by omega, inferInstance, inferInstance, inferInstance, inferInstance, Tr.lp (XU (XE g8) (XU (XE g9) (XU (XE g11) (XE g12)))), Fs.nil, kp _ _ _, rfl⟩
    case round =>
      obtain ⟨i, bad, Ao, co, out, Ap, cp, p, cc, rfl, hin, _, _, _, _, _, _, _, HS⟩ := hrel
      by_cases hgo : (i : Int) < n ∧ bad = false
      · obtain ⟨hgi, rfl⟩ := hgo
        have HN := Lib.hid (HS.out.trans (powGo_step z n a b i out p cc hgi (by omega)))
        clear HS
        by_cases h1 : (0 : Int) < (i : Int)
        · have HP : Hid (powP z p i = (mulS p z).getD .nil ∧ powC a b i cc = (cfM a b i cc).getD (0, 0) ∧ powB z p a b i cc = ((((false || !(mulS p z).isSome) || !(cfS a b i).isSome) || !(cfQ a b i).isSome) || !(cfM a b i cc).isSome)) := Lib.hid ⟨if_pos h1, if_pos h1, if_pos h1⟩
          go_wp2_with (first | (go_at_call 53; refine (mmul_any p z false g8 _ _ _ _ _ _ _ (tr _ Ap) (tr _ Az) has1 has_frozen).mono ?_; rintro e7 w7 ⟨A7, c7, rfl, hf, hb⟩; haveI := belM hb; haveI := Fs.of hf; clear hf hb))
          go_cut [13, 14] (fun s13 s14 wx => s13 = .int .i64 i ∧ ∃ g14, s14 = .pointer (some ⟨g14, 0, none⟩) ∧ Has wx g8 (.cells #[.bool (((false || !(mulS p z).isSome) || !(cfS a b i).isSome) || !(cfQ a b i).isSome)] 77) ∧
            Has wx g14 (.cells #[.int .i64 ((cfQ a b i).getD (0, 0)).1, .int .i64 ((cfQ a b i).getD (0, 0)).2] 28) ∧ GeB w7 g14 ∧ Kp (w7.setCell ⟨g11, 0, none⟩ (.slice A7 ((mulS p z).getD .nil).len c7)) (XE g8) wx)
          case first =>
            have hw1 : IntKind.i64.wrap ((i : Int) - 1) = (i : Int) - 1 := IntWalk.i64_in _ (by omega)
            refine wp_region_held_drew (S := (fun w' => w'.cell? ⟨g4, 0, none⟩ = some (.int .i64 a) ∧ w'.cell? ⟨g4, 1, none⟩ = some (.int .i64 b))) (by kernel_rfl) ?hSn1_ (fun hHeld => ?hRn1_)
            case hSn1_ => (exact has2)
            refine wpAnyH_take (i := 0) (oi := _) (v := ?vn1_1) rfl (by kernel_rfl) (by kernel_rfl) (by kernel_rfl) (fun _ _ _ h => h) (Or.inl ⟨by rfl, ?hyn1_1⟩) (by assumption) ?hRn1_1
            case hyn1_1 => (intro w hSw; (try dsimp only at hSw); go_simp; (try with_reducible rfl))
            try simp only [Act.put, List.getElem_toArray, List.getElem_cons_zero, List.getElem_cons_succ, List.setIfInBounds_toArray, List.set_cons_zero, List.set_cons_succ]
            refine wpAnyH_take (i := 1) (oi := _) (v := ?vn1_2) rfl (by kernel_rfl) (by kernel_rfl) (by kernel_rfl) (fun _ _ _ h => h) (Or.inl ⟨by rfl, ?hyn1_2⟩) (by assumption) ?hRn1_2
            case hyn1_2 => (intro w hSw; (try dsimp only at hSw); go_simp; (try with_reducible rfl))
            try simp only [Act.put, List.getElem_toArray, List.getElem_cons_zero, List.getElem_cons_succ, List.setIfInBounds_toArray, List.set_cons_zero, List.set_cons_succ]
            refine wpAnyH_take (i := 2) (oi := _) (v := ?vn1_3) rfl (by kernel_rfl) (by kernel_rfl) (by kernel_rfl) (fun _ _ _ h => h) (Or.inl ⟨by rfl, ?hyn1_3⟩) (by assumption) ?hRn1_3
            case hyn1_3 => (intro w hSw; (try dsimp only at hSw); go_simp; (try with_reducible rfl))
            try simp only [Act.put, List.getElem_toArray, List.getElem_cons_zero, List.getElem_cons_succ, List.setIfInBounds_toArray, List.set_cons_zero, List.set_cons_succ]
            refine wpAnyH_take (i := 8) (oi := _) (v := ?vn1_4) rfl (by kernel_rfl) (by kernel_rfl) (by kernel_rfl) (fun _ _ _ h => h) (Or.inl ⟨by rfl, ?hyn1_4⟩) (by assumption) ?hRn1_4
            case hyn1_4 => (intro w hSw; (try dsimp only at hSw); go_simp; (try with_reducible rfl))
            try simp only [Act.put, List.getElem_toArray, List.getElem_cons_zero, List.getElem_cons_succ, List.setIfInBounds_toArray, List.set_cons_zero, List.set_cons_succ]
            refine wpAnyH_ready (rs := [3, 14]) (by kernel_rfl) (by simp) ?_
            refine AllReadyH.cons (o := _) rfl (fun K hK => ?bn1_5) (AllReadyH.cons (o := _) rfl (fun K hK => ?bn1_6) (AllReadyH.nil))
            case' bn1_5 =>
              go_simp
              (go_at_call 52; refine (whole_any ((i : Int) - 1) _).mono ?_; rintro e8 w8 ⟨rfl, hb⟩; haveI : Bel _ w8 := ⟨hb⟩; clear hb)
              go_wp2_with fail
              refine hK.out _ _ ?hSn1_7 (fun hHeld => ?hRn1_7)
              case hSn1_7 => ((try dsimp only); exact has2)
              clear hK K
              try simp only [Act.put, List.getElem_toArray, List.getElem_cons_zero, List.getElem_cons_succ, List.setIfInBounds_toArray, List.set_cons_zero, List.set_cons_succ]
              refine wpAnyH_ready (rs := [4, 14]) (by kernel_rfl) (by simp) ?_
              refine AllReadyH.cons (o := _) rfl (fun K hK => ?bn1_8) (AllReadyH.cons (o := _) rfl (fun K hK => ?bn1_9) (AllReadyH.nil))
              case' bn1_8 =>
                go_simp
                (go_at_call 56; refine (cfS_any a b i _).mono ?_; rintro e8 w8 ⟨rfl, hb⟩; haveI : Bel _ w8 := ⟨hb⟩; clear hb)
                go_wp2_with fail
                refine hK.out _ _ ?hSn1_10 (fun hHeld => ?hRn1_10)
                case hSn1_10 => ((try dsimp only); exact has2)
                clear hK K
                try simp only [Act.put, List.getElem_toArray, List.getElem_cons_zero, List.getElem_cons_succ, List.setIfInBounds_toArray, List.set_cons_zero, List.set_cons_succ]
                refine wpAnyH_take (i := 5) (oi := _) (v := ?vn1_11) rfl (by kernel_rfl) (by kernel_rfl) (by kernel_rfl) (fun _ _ _ h => h) (Or.inl ⟨by rfl, ?hyn1_11⟩) (by assumption) ?hRn1_11
                case hyn1_11 => (intro w hSw; (try dsimp only at hSw); go_simp; (try with_reducible rfl))
                try simp only [Act.put, List.getElem_toArray, List.getElem_cons_zero, List.getElem_cons_succ, List.setIfInBounds_toArray, List.set_cons_zero, List.set_cons_succ]
                refine wpAnyH_take (i := 6) (oi := _) (v := ?vn1_12) rfl (by kernel_rfl) (by kernel_rfl) (by kernel_rfl) (fun _ _ _ h => h) (Or.inl ⟨by rfl, ?hyn1_12⟩) (by assumption) ?hRn1_12
                case hyn1_12 => (intro w hSw; (try dsimp only at hSw); go_simp; (try with_reducible rfl))
                try simp only [Act.put, List.getElem_toArray, List.getElem_cons_zero, List.getElem_cons_succ, List.setIfInBounds_toArray, List.set_cons_zero, List.set_cons_succ]
                refine wpAnyH_ready (rs := [7, 14]) (by kernel_rfl) (by simp) ?_
                refine AllReadyH.cons (o := _) rfl (fun K hK => ?bn1_13) (AllReadyH.cons (o := _) rfl (fun K hK => ?bn1_14) (AllReadyH.nil))
                case' bn1_13 =>
                  go_simp
                  ((go_at_call 54; refine (mcoef_any _ _ _ _ g8 _ has1 has_frozen).mono ?_; rintro e8 w8 ⟨rfl, hb⟩; haveI := belM hb; clear hb))
                  go_wp2_with fail
                  refine hK.out _ _ ?hSn1_15 (fun hHeld => ?hRn1_15)
                  case hSn1_15 => ((try dsimp only); exact has2)
                  clear hK K
                  try simp only [Act.put, List.getElem_toArray, List.getElem_cons_zero, List.getElem_cons_succ, List.setIfInBounds_toArray, List.set_cons_zero, List.set_cons_succ]
                  refine wpAnyH_ready (rs := [9, 14]) (by kernel_rfl) (by simp) ?_
                  refine AllReadyH.cons (o := _) rfl (fun K hK => ?bn1_16) (AllReadyH.cons (o := _) rfl (fun K hK => ?bn1_17) (AllReadyH.nil))
                  case' bn1_16 =>
                    go_simp
                    (go_at_call 52; refine (whole_any ((i : Int)) _).mono ?_; rintro e8 w8 ⟨rfl, hb⟩; haveI : Bel _ w8 := ⟨hb⟩; clear hb)
                    go_wp2_with fail
                    refine hK.out _ _ ?hSn1_18 (fun hHeld => ?hRn1_18)
                    case hSn1_18 => ((try dsimp only); exact has2)
                    clear hK K
                    try simp only [Act.put, List.getElem_toArray, List.getElem_cons_zero, List.getElem_cons_succ, List.setIfInBounds_toArray, List.set_cons_zero, List.set_cons_succ]
                    refine wpAnyH_ready (rs := [10, 14]) (by kernel_rfl) (by simp) ?_
                    refine AllReadyH.cons (o := _) rfl (fun K hK => ?bn1_19) (AllReadyH.cons (o := _) rfl (fun K hK => ?bn1_20) (AllReadyH.nil))
                    case' bn1_19 =>
                      go_simp
                      (go_at_call 55; refine (cfQ_any a b i _).mono ?_; rintro e8 w8 ⟨rfl, hb⟩; haveI : Bel _ w8 := ⟨hb⟩; clear hb)
                      go_wp2_with fail
                      refine hK.out _ _ ?hSn1_21 (fun hHeld => ?hRn1_21)
                      case hSn1_21 => ((try dsimp only); exact has2)
                      clear hK K
                      try simp only [Act.put, List.getElem_toArray, List.getElem_cons_zero, List.getElem_cons_succ, List.setIfInBounds_toArray, List.set_cons_zero, List.set_cons_succ]
                      refine wpAnyH_take (i := 11) (oi := _) (v := ?vn1_22) rfl (by kernel_rfl) (by kernel_rfl) (by kernel_rfl) (fun _ _ _ h => h) (Or.inl ⟨by rfl, ?hyn1_22⟩) (by assumption) ?hRn1_22
                      case hyn1_22 => (intro w hSw; (try dsimp only at hSw); go_simp; (try with_reducible rfl))
                      try simp only [Act.put, List.getElem_toArray, List.getElem_cons_zero, List.getElem_cons_succ, List.setIfInBounds_toArray, List.set_cons_zero, List.set_cons_succ]
                      refine wpAnyH_take (i := 12) (oi := _) (v := ?vn1_23) rfl (by kernel_rfl) (by kernel_rfl) (by kernel_rfl) (fun _ _ _ h => h) (Or.inl ⟨by rfl, ?hyn1_23⟩) (by assumption) ?hRn1_23
                      case hyn1_23 => (intro w hSw; (try dsimp only at hSw); go_simp; (try with_reducible rfl))
                      try simp only [Act.put, List.getElem_toArray, List.getElem_cons_zero, List.getElem_cons_succ, List.setIfInBounds_toArray, List.set_cons_zero, List.set_cons_succ]
                      refine wpAnyH_ready (rs := [13, 14]) (by kernel_rfl) (by simp) ?_
                      refine AllReadyH.cons (o := _) rfl (fun K hK => ?bn1_24) (AllReadyH.cons (o := _) rfl (fun K hK => ?bn1_25) (AllReadyH.nil))
                      case' bn1_24 =>
                        go_simp
                        ((go_at_call 54; refine (mcoef_any _ _ _ _ g8 _ has1 has_frozen).mono ?_; rintro e8 w8 ⟨rfl, hb⟩; haveI := belM hb; clear hb))
                        go_wp2_with fail
                        refine hK.out _ _ ?hSn1_26 (fun hHeld => ?hRn1_26)
                        case hSn1_26 => ((try dsimp only); exact has2)
                        clear hK K
                        try simp only [Act.put, List.getElem_toArray, List.getElem_cons_zero, List.getElem_cons_succ, List.setIfInBounds_toArray, List.set_cons_zero, List.set_cons_succ]
                        refine wpAnyH_ready (rs := [14]) (by kernel_rfl) (by simp) ?_
                        refine AllReadyH.cons (o := _) rfl (fun K hK => ?_) AllReadyH.nil
                        go_simp
                        refine hK.out _ _ ?hSn1_27 (fun hHeld => ?hRn1_27)
                        case hSn1_27 => ((try dsimp only); exact has2)
                        clear hK K
                        try simp only [Act.put, List.getElem_toArray, List.getElem_cons_zero, List.getElem_cons_succ, List.setIfInBounds_toArray, List.set_cons_zero, List.set_cons_succ]
                        refine wpAnyH_ready (rs := [15]) (by kernel_rfl) (by simp) ?_
                        refine AllReadyH.cons (o := _) rfl (fun K hK => ?_) AllReadyH.nil
                        go_simp
                        refine hK.out _ _ ?hSn1_28 (fun hHeld => ?hRn1_28)
                        case hSn1_28 => ((try dsimp only); exact has2)
                        clear hK K
                        try simp only [Act.put, List.getElem_toArray, List.getElem_cons_zero, List.getElem_cons_succ, List.setIfInBounds_toArray, List.set_cons_zero, List.set_cons_succ]
                        refine wpAnyH_done (by kernel_rfl) ?_ _
                      case' bn1_25 =>
                        go_simp
                        refine hK.out _ _ ?hSn1_29 (fun hHeld => ?hRn1_29)
                        case hSn1_29 => ((try dsimp only); exact has2)
                        clear hK K
                        try simp only [Act.put, List.getElem_toArray, List.getElem_cons_zero, List.getElem_cons_succ, List.setIfInBounds_toArray, List.set_cons_zero, List.set_cons_succ]
                        refine wpAnyH_ready (rs := [13]) (by kernel_rfl) (by simp) ?_
                        refine AllReadyH.cons (o := _) rfl (fun K hK => ?_) AllReadyH.nil
                        go_simp
                        ((go_at_call 54; refine (mcoef_any _ _ _ _ g8 _ has1 has_frozen).mono ?_; rintro e8 w8 ⟨rfl, hb⟩; haveI := belM hb; clear hb))
                        go_wp2_with fail
                        refine hK.out _ _ ?hSn1_30 (fun hHeld => ?hRn1_30)
                        case hSn1_30 => ((try dsimp only); exact has2)
                        clear hK K
                        try simp only [Act.put, List.getElem_toArray, List.getElem_cons_zero, List.getElem_cons_succ, List.setIfInBounds_toArray, List.set_cons_zero, List.set_cons_succ]
                        refine wpAnyH_ready (rs := [15]) (by kernel_rfl) (by simp) ?_
                        refine AllReadyH.cons (o := _) rfl (fun K hK => ?_) AllReadyH.nil
                        go_simp
                        refine hK.out _ _ ?hSn1_31 (fun hHeld => ?hRn1_31)
                        case hSn1_31 => ((try dsimp only); exact has2)
                        clear hK K
                        try simp only [Act.put, List.getElem_toArray, List.getElem_cons_zero, List.getElem_cons_succ, List.setIfInBounds_toArray, List.set_cons_zero, List.set_cons_succ]
                        refine wpAnyH_done (by kernel_rfl) ?_ _
                    case' bn1_20 =>
                      go_simp
                      refine hK.out _ _ ?hSn1_32 (fun hHeld => ?hRn1_32)
                      case hSn1_32 => ((try dsimp only); exact has2)
                      clear hK K
                      try simp only [Act.put, List.getElem_toArray, List.getElem_cons_zero, List.getElem_cons_succ, List.setIfInBounds_toArray, List.set_cons_zero, List.set_cons_succ]
                      refine wpAnyH_ready (rs := [10]) (by kernel_rfl) (by simp) ?_
                      refine AllReadyH.cons (o := _) rfl (fun K hK => ?_) AllReadyH.nil
                      go_simp
                      (go_at_call 55; refine (cfQ_any a b i _).mono ?_; rintro e8 w8 ⟨rfl, hb⟩; haveI : Bel _ w8 := ⟨hb⟩; clear hb)
                      go_wp2_with fail
                      refine hK.out _ _ ?hSn1_33 (fun hHeld => ?hRn1_33)
                      case hSn1_33 => ((try dsimp only); exact has2)
                      clear hK K
                      try simp only [Act.put, List.getElem_toArray, List.getElem_cons_zero, List.getElem_cons_succ, List.setIfInBounds_toArray, List.set_cons_zero, List.set_cons_succ]
                      refine wpAnyH_take (i := 11) (oi := _) (v := ?vn1_34) rfl (by kernel_rfl) (by kernel_rfl) (by kernel_rfl) (fun _ _ _ h => h) (Or.inl ⟨by rfl, ?hyn1_34⟩) (by assumption) ?hRn1_34
                      case hyn1_34 => (intro w hSw; (try dsimp only at hSw); go_simp; (try with_reducible rfl))
                      try simp only [Act.put, List.getElem_toArray, List.getElem_cons_zero, List.getElem_cons_succ, List.setIfInBounds_toArray, List.set_cons_zero, List.set_cons_succ]
                      refine wpAnyH_take (i := 12) (oi := _) (v := ?vn1_35) rfl (by kernel_rfl) (by kernel_rfl) (by kernel_rfl) (fun _ _ _ h => h) (Or.inl ⟨by rfl, ?hyn1_35⟩) (by assumption) ?hRn1_35
                      case hyn1_35 => (intro w hSw; (try dsimp only at hSw); go_simp; (try with_reducible rfl))
                      try simp only [Act.put, List.getElem_toArray, List.getElem_cons_zero, List.getElem_cons_succ, List.setIfInBounds_toArray, List.set_cons_zero, List.set_cons_succ]
                      refine wpAnyH_ready (rs := [13]) (by kernel_rfl) (by simp) ?_
                      refine AllReadyH.cons (o := _) rfl (fun K hK => ?_) AllReadyH.nil
                      go_simp
                      ((go_at_call 54; refine (mcoef_any _ _ _ _ g8 _ has1 has_frozen).mono ?_; rintro e8 w8 ⟨rfl, hb⟩; haveI := belM hb; clear hb))
                      go_wp2_with fail
                      refine hK.out _ _ ?hSn1_36 (fun hHeld => ?hRn1_36)
                      case hSn1_36 => ((try dsimp only); exact has2)
                      clear hK K
                      try simp only [Act.put, List.getElem_toArray, List.getElem_cons_zero, List.getElem_cons_succ, List.setIfInBounds_toArray, List.set_cons_zero, List.set_cons_succ]
                      refine wpAnyH_ready (rs := [15]) (by kernel_rfl) (by simp) ?_
                      refine AllReadyH.cons (o := _) rfl (fun K hK => ?_) AllReadyH.nil
                      go_simp
                      refine hK.out _ _ ?hSn1_37 (fun hHeld => ?hRn1_37)
                      case hSn1_37 => ((try dsimp only); exact has2)
                      clear hK K
                      try simp only [Act.put, List.getElem_toArray, List.getElem_cons_zero, List.getElem_cons_succ, List.setIfInBounds_toArray, List.set_cons_zero, List.set_cons_succ]
                      refine wpAnyH_done (by kernel_rfl) ?_ _
                  case' bn1_17 =>
                    go_simp
                    refine hK.out _ _ ?hSn1_38 (fun hHeld => ?hRn1_38)
                    case hSn1_38 => ((try dsimp only); exact has2)
                    clear hK K
                    try simp only [Act.put, List.getElem_toArray, List.getElem_cons_zero, List.getElem_cons_succ, List.setIfInBounds_toArray, List.set_cons_zero, List.set_cons_succ]
                    refine wpAnyH_ready (rs := [9]) (by kernel_rfl) (by simp) ?_
                    refine AllReadyH.cons (o := _) rfl (fun K hK => ?_) AllReadyH.nil
                    go_simp
                    (go_at_call 52; refine (whole_any ((i : Int)) _).mono ?_; rintro e8 w8 ⟨rfl, hb⟩; haveI : Bel _ w8 := ⟨hb⟩; clear hb)
                    go_wp2_with fail
                    refine hK.out _ _ ?hSn1_39 (fun hHeld => ?hRn1_39)
                    case hSn1_39 => ((try dsimp only); exact has2)
                    clear hK K
                    try simp only [Act.put, List.getElem_toArray, List.getElem_cons_zero, List.getElem_cons_succ, List.setIfInBounds_toArray, List.set_cons_zero, List.set_cons_succ]
                    refine wpAnyH_ready (rs := [10]) (by kernel_rfl) (by simp) ?_
                    refine AllReadyH.cons (o := _) rfl (fun K hK => ?_) AllReadyH.nil
                    go_simp
                    (go_at_call 55; refine (cfQ_any a b i _).mono ?_; rintro e8 w8 ⟨rfl, hb⟩; haveI : Bel _ w8 := ⟨hb⟩; clear hb)
                    go_wp2_with fail
                    refine hK.out _ _ ?hSn1_40 (fun hHeld => ?hRn1_40)
                    case hSn1_40 => ((try dsimp only); exact has2)
                    clear hK K
                    try simp only [Act.put, List.getElem_toArray, List.getElem_cons_zero, List.getElem_cons_succ, List.setIfInBounds_toArray, List.set_cons_zero, List.set_cons_succ]
                    refine wpAnyH_take (i := 11) (oi := _) (v := ?vn1_41) rfl (by kernel_rfl) (by kernel_rfl) (by kernel_rfl) (fun _ _ _ h => h) (Or.inl ⟨by rfl, ?hyn1_41⟩) (by assumption) ?hRn1_41
                    case hyn1_41 => (intro w hSw; (try dsimp only at hSw); go_simp; (try with_reducible rfl))
                    try simp only [Act.put, List.getElem_toArray, List.getElem_cons_zero, List.getElem_cons_succ, List.setIfInBounds_toArray, List.set_cons_zero, List.set_cons_succ]
                    refine wpAnyH_take (i := 12) (oi := _) (v := ?vn1_42) rfl (by kernel_rfl) (by kernel_rfl) (by kernel_rfl) (fun _ _ _ h => h) (Or.inl ⟨by rfl, ?hyn1_42⟩) (by assumption) ?hRn1_42
                    case hyn1_42 => (intro w hSw; (try dsimp only at hSw); go_simp; (try with_reducible rfl))
                    try simp only [Act.put, List.getElem_toArray, List.getElem_cons_zero, List.getElem_cons_succ, List.setIfInBounds_toArray, List.set_cons_zero, List.set_cons_succ]
                    refine wpAnyH_ready (rs := [13]) (by kernel_rfl) (by simp) ?_
                    refine AllReadyH.cons (o := _) rfl (fun K hK => ?_) AllReadyH.nil
                    go_simp
                    ((go_at_call 54; refine (mcoef_any _ _ _ _ g8 _ has1 has_frozen).mono ?_; rintro e8 w8 ⟨rfl, hb⟩; haveI := belM hb; clear hb))
                    go_wp2_with fail
                    refine hK.out _ _ ?hSn1_43 (fun hHeld => ?hRn1_43)
                    case hSn1_43 => ((try dsimp only); exact has2)
                    clear hK K
                    try simp only [Act.put, List.getElem_toArray, List.getElem_cons_zero, List.getElem_cons_succ, List.setIfInBounds_toArray, List.set_cons_zero, List.set_cons_succ]
                    refine wpAnyH_ready (rs := [15]) (by kernel_rfl) (by simp) ?_
                    refine AllReadyH.cons (o := _) rfl (fun K hK => ?_) AllReadyH.nil
                    go_simp
                    refine hK.out _ _ ?hSn1_44 (fun hHeld => ?hRn1_44)
                    case hSn1_44 => ((try dsimp only); exact has2)
                    clear hK K
                    try simp only [Act.put, List.getElem_toArray, List.getElem_cons_zero, List.getElem_cons_succ, List.setIfInBounds_toArray, List.set_cons_zero, List.set_cons_succ]
                    refine wpAnyH_done (by kernel_rfl) ?_ _
                case' bn1_14 =>
                  go_simp
                  refine hK.out _ _ ?hSn1_45 (fun hHeld => ?hRn1_45)
                  case hSn1_45 => ((try dsimp only); exact has2)
                  clear hK K
                  try simp only [Act.put, List.getElem_toArray, List.getElem_cons_zero, List.getElem_cons_succ, List.setIfInBounds_toArray, List.set_cons_zero, List.set_cons_succ]
                  refine wpAnyH_ready (rs := [7]) (by kernel_rfl) (by simp) ?_
                  refine AllReadyH.cons (o := _) rfl (fun K hK => ?_) AllReadyH.nil
                  go_simp
                  ((go_at_call 54; refine (mcoef_any _ _ _ _ g8 _ has1 has_frozen).mono ?_; rintro e8 w8 ⟨rfl, hb⟩; haveI := belM hb; clear hb))
                  go_wp2_with fail
                  refine hK.out _ _ ?hSn1_46 (fun hHeld => ?hRn1_46)
                  case hSn1_46 => ((try dsimp only); exact has2)
                  clear hK K
                  try simp only [Act.put, List.getElem_toArray, List.getElem_cons_zero, List.getElem_cons_succ, List.setIfInBounds_toArray, List.set_cons_zero, List.set_cons_succ]
                  refine wpAnyH_ready (rs := [9]) (by kernel_rfl) (by simp) ?_
                  refine AllReadyH.cons (o := _) rfl (fun K hK => ?_) AllReadyH.nil
                  go_simp
                  (go_at_call 52; refine (whole_any ((i : Int)) _).mono ?_; rintro e8 w8 ⟨rfl, hb⟩; haveI : Bel _ w8 := ⟨hb⟩; clear hb)
                  go_wp2_with fail
                  refine hK.out _ _ ?hSn1_47 (fun hHeld => ?hRn1_47)
                  case hSn1_47 => ((try dsimp only); exact has2)
                  clear hK K
                  try simp only [Act.put, List.getElem_toArray, List.getElem_cons_zero, List.getElem_cons_succ, List.setIfInBounds_toArray, List.set_cons_zero, List.set_cons_succ]
                  refine wpAnyH_ready (rs := [10]) (by kernel_rfl) (by simp) ?_
                  refine AllReadyH.cons (o := _) rfl (fun K hK => ?_) AllReadyH.nil
                  go_simp
                  (go_at_call 55; refine (cfQ_any a b i _).mono ?_; rintro e8 w8 ⟨rfl, hb⟩; haveI : Bel _ w8 := ⟨hb⟩; clear hb)
                  go_wp2_with fail
                  refine hK.out _ _ ?hSn1_48 (fun hHeld => ?hRn1_48)
                  case hSn1_48 => ((try dsimp only); exact has2)
                  clear hK K
                  try simp only [Act.put, List.getElem_toArray, List.getElem_cons_zero, List.getElem_cons_succ, List.setIfInBounds_toArray, List.set_cons_zero, List.set_cons_succ]
                  refine wpAnyH_take (i := 11) (oi := _) (v := ?vn1_49) rfl (by kernel_rfl) (by kernel_rfl) (by kernel_rfl) (fun _ _ _ h => h) (Or.inl ⟨by rfl, ?hyn1_49⟩) (by assumption) ?hRn1_49
                  case hyn1_49 => (intro w hSw; (try dsimp only at hSw); go_simp; (try with_reducible rfl))
                  try simp only [Act.put, List.getElem_toArray, List.getElem_cons_zero, List.getElem_cons_succ, List.setIfInBounds_toArray, List.set_cons_zero, List.set_cons_succ]
                  refine wpAnyH_take (i := 12) (oi := _) (v := ?vn1_50) rfl (by kernel_rfl) (by kernel_rfl) (by kernel_rfl) (fun _ _ _ h => h) (Or.inl ⟨by rfl, ?hyn1_50⟩) (by assumption) ?hRn1_50
                  case hyn1_50 => (intro w hSw; (try dsimp only at hSw); go_simp; (try with_reducible rfl))
                  try simp only [Act.put, List.getElem_toArray, List.getElem_cons_zero, List.getElem_cons_succ, List.setIfInBounds_toArray, List.set_cons_zero, List.set_cons_succ]
                  refine wpAnyH_ready (rs := [13]) (by kernel_rfl) (by simp) ?_
                  refine AllReadyH.cons (o := _) rfl (fun K hK => ?_) AllReadyH.nil
                  go_simp
                  ((go_at_call 54; refine (mcoef_any _ _ _ _ g8 _ has1 has_frozen).mono ?_; rintro e8 w8 ⟨rfl, hb⟩; haveI := belM hb; clear hb))
                  go_wp2_with fail
                  refine hK.out _ _ ?hSn1_51 (fun hHeld => ?hRn1_51)
                  case hSn1_51 => ((try dsimp only); exact has2)
                  clear hK K
                  try simp only [Act.put, List.getElem_toArray, List.getElem_cons_zero, List.getElem_cons_succ, List.setIfInBounds_toArray, List.set_cons_zero, List.set_cons_succ]
                  refine wpAnyH_ready (rs := [15]) (by kernel_rfl) (by simp) ?_
                  refine AllReadyH.cons (o := _) rfl (fun K hK => ?_) AllReadyH.nil
                  go_simp
                  refine hK.out _ _ ?hSn1_52 (fun hHeld => ?hRn1_52)
                  case hSn1_52 => ((try dsimp only); exact has2)
                  clear hK K
                  try simp only [Act.put, List.getElem_toArray, List.getElem_cons_zero, List.getElem_cons_succ, List.setIfInBounds_toArray, List.set_cons_zero, List.set_cons_succ]
                  refine wpAnyH_done (by kernel_rfl) ?_ _
              case' bn1_9 =>
                go_simp
                refine hK.out _ _ ?hSn1_53 (fun hHeld => ?hRn1_53)
                case hSn1_53 => ((try dsimp only); exact has2)
                clear hK K
                try simp only [Act.put, List.getElem_toArray, List.getElem_cons_zero, List.getElem_cons_succ, List.setIfInBounds_toArray, List.set_cons_zero, List.set_cons_succ]
                refine wpAnyH_ready (rs := [4]) (by kernel_rfl) (by simp) ?_
                refine AllReadyH.cons (o := _) rfl (fun K hK => ?_) AllReadyH.nil
                go_simp
                (go_at_call 56; refine (cfS_any a b i _).mono ?_; rintro e8 w8 ⟨rfl, hb⟩; haveI : Bel _ w8 := ⟨hb⟩; clear hb)
                go_wp2_with fail
                refine hK.out _ _ ?hSn1_54 (fun hHeld => ?hRn1_54)
                case hSn1_54 => ((try dsimp only); exact has2)
                clear hK K
                try simp only [Act.put, List.getElem_toArray, List.getElem_cons_zero, List.getElem_cons_succ, List.setIfInBounds_toArray, List.set_cons_zero, List.set_cons_succ]
                refine wpAnyH_take (i := 5) (oi := _) (v := ?vn1_55) rfl (by kernel_rfl) (by kernel_rfl) (by kernel_rfl) (fun _ _ _ h => h) (Or.inl ⟨by rfl, ?hyn1_55⟩) (by assumption) ?hRn1_55
                case hyn1_55 => (intro w hSw; (try dsimp only at hSw); go_simp; (try with_reducible rfl))
                try simp only [Act.put, List.getElem_toArray, List.getElem_cons_zero, List.getElem_cons_succ, List.setIfInBounds_toArray, List.set_cons_zero, List.set_cons_succ]
                refine wpAnyH_take (i := 6) (oi := _) (v := ?vn1_56) rfl (by kernel_rfl) (by kernel_rfl) (by kernel_rfl) (fun _ _ _ h => h) (Or.inl ⟨by rfl, ?hyn1_56⟩) (by assumption) ?hRn1_56
                case hyn1_56 => (intro w hSw; (try dsimp only at hSw); go_simp; (try with_reducible rfl))
                try simp only [Act.put, List.getElem_toArray, List.getElem_cons_zero, List.getElem_cons_succ, List.setIfInBounds_toArray, List.set_cons_zero, List.set_cons_succ]
                refine wpAnyH_ready (rs := [7]) (by kernel_rfl) (by simp) ?_
                refine AllReadyH.cons (o := _) rfl (fun K hK => ?_) AllReadyH.nil
                go_simp
                ((go_at_call 54; refine (mcoef_any _ _ _ _ g8 _ has1 has_frozen).mono ?_; rintro e8 w8 ⟨rfl, hb⟩; haveI := belM hb; clear hb))
                go_wp2_with fail
                refine hK.out _ _ ?hSn1_57 (fun hHeld => ?hRn1_57)
                case hSn1_57 => ((try dsimp only); exact has2)
                clear hK K
                try simp only [Act.put, List.getElem_toArray, List.getElem_cons_zero, List.getElem_cons_succ, List.setIfInBounds_toArray, List.set_cons_zero, List.set_cons_succ]
                refine wpAnyH_ready (rs := [9]) (by kernel_rfl) (by simp) ?_
                refine AllReadyH.cons (o := _) rfl (fun K hK => ?_) AllReadyH.nil
                go_simp
                (go_at_call 52; refine (whole_any ((i : Int)) _).mono ?_; rintro e8 w8 ⟨rfl, hb⟩; haveI : Bel _ w8 := ⟨hb⟩; clear hb)
                go_wp2_with fail
                refine hK.out _ _ ?hSn1_58 (fun hHeld => ?hRn1_58)
                case hSn1_58 => ((try dsimp only); exact has2)
                clear hK K
                try simp only [Act.put, List.getElem_toArray, List.getElem_cons_zero, List.getElem_cons_succ, List.setIfInBounds_toArray, List.set_cons_zero, List.set_cons_succ]
                refine wpAnyH_ready (rs := [10]) (by kernel_rfl) (by simp) ?_
                refine AllReadyH.cons (o := _) rfl (fun K hK => ?_) AllReadyH.nil
                go_simp
                (go_at_call 55; refine (cfQ_any a b i _).mono ?_; rintro e8 w8 ⟨rfl, hb⟩; haveI : Bel _ w8 := ⟨hb⟩; clear hb)
                go_wp2_with fail
                refine hK.out _ _ ?hSn1_59 (fun hHeld => ?hRn1_59)
                case hSn1_59 => ((try dsimp only); exact has2)
                clear hK K
                try simp only [Act.put, List.getElem_toArray, List.getElem_cons_zero, List.getElem_cons_succ, List.setIfInBounds_toArray, List.set_cons_zero, List.set_cons_succ]
                refine wpAnyH_take (i := 11) (oi := _) (v := ?vn1_60) rfl (by kernel_rfl) (by kernel_rfl) (by kernel_rfl) (fun _ _ _ h => h) (Or.inl ⟨by rfl, ?hyn1_60⟩) (by assumption) ?hRn1_60
                case hyn1_60 => (intro w hSw; (try dsimp only at hSw); go_simp; (try with_reducible rfl))
                try simp only [Act.put, List.getElem_toArray, List.getElem_cons_zero, List.getElem_cons_succ, List.setIfInBounds_toArray, List.set_cons_zero, List.set_cons_succ]
                refine wpAnyH_take (i := 12) (oi := _) (v := ?vn1_61) rfl (by kernel_rfl) (by kernel_rfl) (by kernel_rfl) (fun _ _ _ h => h) (Or.inl ⟨by rfl, ?hyn1_61⟩) (by assumption) ?hRn1_61
                case hyn1_61 => (intro w hSw; (try dsimp only at hSw); go_simp; (try with_reducible rfl))
                try simp only [Act.put, List.getElem_toArray, List.getElem_cons_zero, List.getElem_cons_succ, List.setIfInBounds_toArray, List.set_cons_zero, List.set_cons_succ]
                refine wpAnyH_ready (rs := [13]) (by kernel_rfl) (by simp) ?_
                refine AllReadyH.cons (o := _) rfl (fun K hK => ?_) AllReadyH.nil
                go_simp
                ((go_at_call 54; refine (mcoef_any _ _ _ _ g8 _ has1 has_frozen).mono ?_; rintro e8 w8 ⟨rfl, hb⟩; haveI := belM hb; clear hb))
                go_wp2_with fail
                refine hK.out _ _ ?hSn1_62 (fun hHeld => ?hRn1_62)
                case hSn1_62 => ((try dsimp only); exact has2)
                clear hK K
                try simp only [Act.put, List.getElem_toArray, List.getElem_cons_zero, List.getElem_cons_succ, List.setIfInBounds_toArray, List.set_cons_zero, List.set_cons_succ]
                refine wpAnyH_ready (rs := [15]) (by kernel_rfl) (by simp) ?_
                refine AllReadyH.cons (o := _) rfl (fun K hK => ?_) AllReadyH.nil
                go_simp
                refine hK.out _ _ ?hSn1_63 (fun hHeld => ?hRn1_63)
                case hSn1_63 => ((try dsimp only); exact has2)
                clear hK K
                try simp only [Act.put, List.getElem_toArray, List.getElem_cons_zero, List.getElem_cons_succ, List.setIfInBounds_toArray, List.set_cons_zero, List.set_cons_succ]
                refine wpAnyH_done (by kernel_rfl) ?_ _
            case' bn1_6 =>
              go_simp
              refine hK.out _ _ ?hSn1_64 (fun hHeld => ?hRn1_64)
              case hSn1_64 => ((try dsimp only); exact has2)
              clear hK K
              try simp only [Act.put, List.getElem_toArray, List.getElem_cons_zero, List.getElem_cons_succ, List.setIfInBounds_toArray, List.set_cons_zero, List.set_cons_succ]
              refine wpAnyH_ready (rs := [3]) (by kernel_rfl) (by simp) ?_
              refine AllReadyH.cons (o := _) rfl (fun K hK => ?_) AllReadyH.nil
              go_simp
              (go_at_call 52; refine (whole_any ((i : Int) - 1) _).mono ?_; rintro e8 w8 ⟨rfl, hb⟩; haveI : Bel _ w8 := ⟨hb⟩; clear hb)
              go_wp2_with fail
              refine hK.out _ _ ?hSn1_65 (fun hHeld => ?hRn1_65)
              case hSn1_65 => ((try dsimp only); exact has2)
              clear hK K
              try simp only [Act.put, List.getElem_toArray, List.getElem_cons_zero, List.getElem_cons_succ, List.setIfInBounds_toArray, List.set_cons_zero, List.set_cons_succ]
              refine wpAnyH_ready (rs := [4]) (by kernel_rfl) (by simp) ?_
              refine AllReadyH.cons (o := _) rfl (fun K hK => ?_) AllReadyH.nil
              go_simp
              (go_at_call 56; refine (cfS_any a b i _).mono ?_; rintro e8 w8 ⟨rfl, hb⟩; haveI : Bel _ w8 := ⟨hb⟩; clear hb)
              go_wp2_with fail
              refine hK.out _ _ ?hSn1_66 (fun hHeld => ?hRn1_66)
              case hSn1_66 => ((try dsimp only); exact has2)
              clear hK K
              try simp only [Act.put, List.getElem_toArray, List.getElem_cons_zero, List.getElem_cons_succ, List.setIfInBounds_toArray, List.set_cons_zero, List.set_cons_succ]
              refine wpAnyH_take (i := 5) (oi := _) (v := ?vn1_67) rfl (by kernel_rfl) (by kernel_rfl) (by kernel_rfl) (fun _ _ _ h => h) (Or.inl ⟨by rfl, ?hyn1_67⟩) (by assumption) ?hRn1_67
              case hyn1_67 => (intro w hSw; (try dsimp only at hSw); go_simp; (try with_reducible rfl))
              try simp only [Act.put, List.getElem_toArray, List.getElem_cons_zero, List.getElem_cons_succ, List.setIfInBounds_toArray, List.set_cons_zero, List.set_cons_succ]
              refine wpAnyH_take (i := 6) (oi := _) (v := ?vn1_68) rfl (by kernel_rfl) (by kernel_rfl) (by kernel_rfl) (fun _ _ _ h => h) (Or.inl ⟨by rfl, ?hyn1_68⟩) (by assumption) ?hRn1_68
              case hyn1_68 => (intro w hSw; (try dsimp only at hSw); go_simp; (try with_reducible rfl))
              try simp only [Act.put, List.getElem_toArray, List.getElem_cons_zero, List.getElem_cons_succ, List.setIfInBounds_toArray, List.set_cons_zero, List.set_cons_succ]
              refine wpAnyH_ready (rs := [7]) (by kernel_rfl) (by simp) ?_
              refine AllReadyH.cons (o := _) rfl (fun K hK => ?_) AllReadyH.nil
              go_simp
              ((go_at_call 54; refine (mcoef_any _ _ _ _ g8 _ has1 has_frozen).mono ?_; rintro e8 w8 ⟨rfl, hb⟩; haveI := belM hb; clear hb))
              go_wp2_with fail
              refine hK.out _ _ ?hSn1_69 (fun hHeld => ?hRn1_69)
              case hSn1_69 => ((try dsimp only); exact has2)
              clear hK K
              try simp only [Act.put, List.getElem_toArray, List.getElem_cons_zero, List.getElem_cons_succ, List.setIfInBounds_toArray, List.set_cons_zero, List.set_cons_succ]
              refine wpAnyH_ready (rs := [9]) (by kernel_rfl) (by simp) ?_
              refine AllReadyH.cons (o := _) rfl (fun K hK => ?_) AllReadyH.nil
              go_simp
              (go_at_call 52; refine (whole_any ((i : Int)) _).mono ?_; rintro e8 w8 ⟨rfl, hb⟩; haveI : Bel _ w8 := ⟨hb⟩; clear hb)
              go_wp2_with fail
              refine hK.out _ _ ?hSn1_70 (fun hHeld => ?hRn1_70)
              case hSn1_70 => ((try dsimp only); exact has2)
              clear hK K
              try simp only [Act.put, List.getElem_toArray, List.getElem_cons_zero, List.getElem_cons_succ, List.setIfInBounds_toArray, List.set_cons_zero, List.set_cons_succ]
              refine wpAnyH_ready (rs := [10]) (by kernel_rfl) (by simp) ?_
              refine AllReadyH.cons (o := _) rfl (fun K hK => ?_) AllReadyH.nil
              go_simp
              (go_at_call 55; refine (cfQ_any a b i _).mono ?_; rintro e8 w8 ⟨rfl, hb⟩; haveI : Bel _ w8 := ⟨hb⟩; clear hb)
              go_wp2_with fail
              refine hK.out _ _ ?hSn1_71 (fun hHeld => ?hRn1_71)
              case hSn1_71 => ((try dsimp only); exact has2)
              clear hK K
              try simp only [Act.put, List.getElem_toArray, List.getElem_cons_zero, List.getElem_cons_succ, List.setIfInBounds_toArray, List.set_cons_zero, List.set_cons_succ]
              refine wpAnyH_take (i := 11) (oi := _) (v := ?vn1_72) rfl (by kernel_rfl) (by kernel_rfl) (by kernel_rfl) (fun _ _ _ h => h) (Or.inl ⟨by rfl, ?hyn1_72⟩) (by assumption) ?hRn1_72
              case hyn1_72 => (intro w hSw; (try dsimp only at hSw); go_simp; (try with_reducible rfl))
              try simp only [Act.put, List.getElem_toArray, List.getElem_cons_zero, List.getElem_cons_succ, List.setIfInBounds_toArray, List.set_cons_zero, List.set_cons_succ]
              refine wpAnyH_take (i := 12) (oi := _) (v := ?vn1_73) rfl (by kernel_rfl) (by kernel_rfl) (by kernel_rfl) (fun _ _ _ h => h) (Or.inl ⟨by rfl, ?hyn1_73⟩) (by assumption) ?hRn1_73
              case hyn1_73 => (intro w hSw; (try dsimp only at hSw); go_simp; (try with_reducible rfl))
              try simp only [Act.put, List.getElem_toArray, List.getElem_cons_zero, List.getElem_cons_succ, List.setIfInBounds_toArray, List.set_cons_zero, List.set_cons_succ]
              refine wpAnyH_ready (rs := [13]) (by kernel_rfl) (by simp) ?_
              refine AllReadyH.cons (o := _) rfl (fun K hK => ?_) AllReadyH.nil
              go_simp
              ((go_at_call 54; refine (mcoef_any _ _ _ _ g8 _ has1 has_frozen).mono ?_; rintro e8 w8 ⟨rfl, hb⟩; haveI := belM hb; clear hb))
              go_wp2_with fail
              refine hK.out _ _ ?hSn1_74 (fun hHeld => ?hRn1_74)
              case hSn1_74 => ((try dsimp only); exact has2)
              clear hK K
              try simp only [Act.put, List.getElem_toArray, List.getElem_cons_zero, List.getElem_cons_succ, List.setIfInBounds_toArray, List.set_cons_zero, List.set_cons_succ]
              refine wpAnyH_ready (rs := [15]) (by kernel_rfl) (by simp) ?_
              refine AllReadyH.cons (o := _) rfl (fun K hK => ?_) AllReadyH.nil
              go_simp
              refine hK.out _ _ ?hSn1_75 (fun hHeld => ?hRn1_75)
              case hSn1_75 => ((try dsimp only); exact has2)
              clear hK K
              try simp only [Act.put, List.getElem_toArray, List.getElem_cons_zero, List.getElem_cons_succ, List.setIfInBounds_toArray, List.set_cons_zero, List.set_cons_succ]
              refine wpAnyH_done (by kernel_rfl) ?_ _
            all_goals
              go_wp2
              go_meet
              exact ⟨rfl, _, rfl, inferInstance, inferInstance, inferInstance, kp _ _ _⟩
          case rest =>
            obtain ⟨rfl, g14, rfl, _, _, _, _⟩ := hcut
            go_wp2_with (first | (go_at_call 57; refine (cfM_any a b i cc _).mono ?_; rintro e8 w8 ⟨rfl, hb⟩; haveI : Bel _ w8 := ⟨hb⟩; clear hb) | (go_at_call 54; refine (mcoef_any _ _ _ _ g8 _ has1 has_frozen).mono ?_; rintro e8 w8 ⟨rfl, hb⟩; haveI := belM hb; clear hb))
            generalize (mulS p z).getD .nil = p1 at *
            generalize (cfM a b i cc).getD (0, 0) = c1 at *
            generalize ((((false || !(mulS p z).isSome) || !(cfS a b i).isSome) || !(cfQ a b i).isSome) || !(cfM a b i cc).isSome) = b1 at *
            refine wp_region_held_drew (S := (fun w' => w'.cell? ⟨g11, 0, none⟩ = some (.slice A7 p1.len c7) ∧ w'.cell? ⟨g12, 0, none⟩ = some (.int .i64 c1.1) ∧ w'.cell? ⟨g12, 1, none⟩ = some (.int .i64 c1.2))) (by kernel_rfl) ?hSn2_ (fun hHeld => ?hRn2_)
            case hSn2_ => (exact ⟨has1, has2.1, has2.2⟩)
            refine wpAnyH_take (i := 1) (oi := _) (v := ?vn2_1) rfl (by kernel_rfl) (by kernel_rfl) (by kernel_rfl) (fun _ _ _ h => h) (Or.inl ⟨by rfl, ?hyn2_1⟩) (by assumption) ?hRn2_1
            case hyn2_1 => (intro w hSw; (try dsimp only at hSw); go_simp; (try with_reducible rfl))
            try simp only [Act.put, List.getElem_toArray, List.getElem_cons_zero, List.getElem_cons_succ, List.setIfInBounds_toArray, List.set_cons_zero, List.set_cons_succ]
            refine wpAnyH_take (i := 2) (oi := _) (v := ?vn2_2) rfl (by kernel_rfl) (by kernel_rfl) (by kernel_rfl) (fun _ _ _ h => h) (Or.inl ⟨by rfl, ?hyn2_2⟩) (by assumption) ?hRn2_2
            case hyn2_2 => (intro w hSw; (try dsimp only at hSw); go_simp; (try with_reducible rfl))
            try simp only [Act.put, List.getElem_toArray, List.getElem_cons_zero, List.getElem_cons_succ, List.setIfInBounds_toArray, List.set_cons_zero, List.set_cons_succ]
            refine wpAnyH_ready (rs := [0, 3]) (by kernel_rfl) (by simp) ?_
            refine AllReadyH.cons (o := _) rfl (fun K hK => ?bn2_3) (AllReadyH.cons (o := _) rfl (fun K hK => ?bn2_4) (AllReadyH.nil))
            case' bn2_3 =>
              go_simp
              refine hK.out _ _ ?hSn2_5 (fun hHeld => ?hRn2_5)
              case hSn2_5 => ((try dsimp only); exact ⟨has1, has2.1, has2.2⟩)
              clear hK K
              try simp only [Act.put, List.getElem_toArray, List.getElem_cons_zero, List.getElem_cons_succ, List.setIfInBounds_toArray, List.set_cons_zero, List.set_cons_succ]
              refine wpAnyH_ready (rs := [3]) (by kernel_rfl) (by simp) ?_
              refine AllReadyH.cons (o := _) rfl (fun K hK => ?_) AllReadyH.nil
              go_simp
              (go_at_call 59; refine (mscale_any p1 c1.1 c1.2 _ g8 _ _ _ _ (tr _ A7) has1 has_frozen).mono ?_; rintro e9 w9 ⟨A9, c9, rfl, hf, hb⟩; haveI := belM hb; haveI := Fs.of hf; clear hf hb)
              go_wp2_with fail
              refine hK.out _ _ ?hSn2_6 (fun hHeld => ?hRn2_6)
              case hSn2_6 => ((try dsimp only); exact ⟨has1, has2.1, has2.2⟩)
              clear hK K
              try simp only [Act.put, List.getElem_toArray, List.getElem_cons_zero, List.getElem_cons_succ, List.setIfInBounds_toArray, List.set_cons_zero, List.set_cons_succ]
              refine wpAnyH_ready (rs := [4]) (by kernel_rfl) (by simp) ?_
              refine AllReadyH.cons (o := _) rfl (fun K hK => ?_) AllReadyH.nil
              go_simp
              (go_at_call 58; refine (madd_any out ((scaleS p1 c1.1 c1.2).getD .nil) _ g8 _ _ _ _ _ _ _ (tr _ Ao) (tr _ A9) has1 has_frozen).mono ?_; rintro e5 w10 ⟨A5, c5, rfl, hf, hb⟩; haveI := belM hb; haveI := Fs.of hf; clear hf hb)
              go_wp2_with fail
              refine hK.out _ _ ?hSn2_7 (fun hHeld => ?hRn2_7)
              case hSn2_7 => ((try dsimp only); exact ⟨has1, has2.1, has2.2⟩)
              clear hK K
              try simp only [Act.put, List.getElem_toArray, List.getElem_cons_zero, List.getElem_cons_succ, List.setIfInBounds_toArray, List.set_cons_zero, List.set_cons_succ]
              refine wpAnyH_ready (rs := [5]) (by kernel_rfl) (by simp) ?_
              refine AllReadyH.cons (o := _) rfl (fun K hK => ?_) AllReadyH.nil
              go_simp
              refine hK.out _ _ ?hSn2_8 (fun hHeld => ?hRn2_8)
              case hSn2_8 => ((try dsimp only); exact ⟨has1, has2.1, has2.2⟩)
              clear hK K
              try simp only [Act.put, List.getElem_toArray, List.getElem_cons_zero, List.getElem_cons_succ, List.setIfInBounds_toArray, List.set_cons_zero, List.set_cons_succ]
              refine wpAnyH_done (by kernel_rfl) ?_ _
            case' bn2_4 =>
              go_simp
              (go_at_call 59; refine (mscale_any p1 c1.1 c1.2 _ g8 _ _ _ _ (tr _ A7) has1 has_frozen).mono ?_; rintro e9 w9 ⟨A9, c9, rfl, hf, hb⟩; haveI := belM hb; haveI := Fs.of hf; clear hf hb)
              go_wp2_with fail
              refine hK.out _ _ ?hSn2_9 (fun hHeld => ?hRn2_9)
              case hSn2_9 => ((try dsimp only); exact ⟨has1, has2.1, has2.2⟩)
              clear hK K
              try simp only [Act.put, List.getElem_toArray, List.getElem_cons_zero, List.getElem_cons_succ, List.setIfInBounds_toArray, List.set_cons_zero, List.set_cons_succ]
              refine wpAnyH_ready (rs := [0]) (by kernel_rfl) (by simp) ?_
              refine AllReadyH.cons (o := _) rfl (fun K hK => ?_) AllReadyH.nil
              go_simp
              refine hK.out _ _ ?hSn2_10 (fun hHeld => ?hRn2_10)
              case hSn2_10 => ((try dsimp only); exact ⟨has1, has2.1, has2.2⟩)
              clear hK K
              try simp only [Act.put, List.getElem_toArray, List.getElem_cons_zero, List.getElem_cons_succ, List.setIfInBounds_toArray, List.set_cons_zero, List.set_cons_succ]
              refine wpAnyH_ready (rs := [4]) (by kernel_rfl) (by simp) ?_
              refine AllReadyH.cons (o := _) rfl (fun K hK => ?_) AllReadyH.nil
              go_simp
              (go_at_call 58; refine (madd_any out ((scaleS p1 c1.1 c1.2).getD .nil) _ g8 _ _ _ _ _ _ _ (tr _ Ao) (tr _ A9) has1 has_frozen).mono ?_; rintro e5 w10 ⟨A5, c5, rfl, hf, hb⟩; haveI := belM hb; haveI := Fs.of hf; clear hf hb)
              go_wp2_with fail
              refine hK.out _ _ ?hSn2_11 (fun hHeld => ?hRn2_11)
              case hSn2_11 => ((try dsimp only); exact ⟨has1, has2.1, has2.2⟩)
              clear hK K
              try simp only [Act.put, List.getElem_toArray, List.getElem_cons_zero, List.getElem_cons_succ, List.setIfInBounds_toArray, List.set_cons_zero, List.set_cons_succ]
              refine wpAnyH_ready (rs := [5]) (by kernel_rfl) (by simp) ?_
              refine AllReadyH.cons (o := _) rfl (fun K hK => ?_) AllReadyH.nil
              go_simp
              refine hK.out _ _ ?hSn2_12 (fun hHeld => ?hRn2_12)
              case hSn2_12 => ((try dsimp only); exact ⟨has1, has2.1, has2.2⟩)
              clear hK K
              try simp only [Act.put, List.getElem_toArray, List.getElem_cons_zero, List.getElem_cons_succ, List.setIfInBounds_toArray, List.set_cons_zero, List.set_cons_succ]
              refine wpAnyH_done (by kernel_rfl) ?_ _
            all_goals
              go_wp2
              exact ⟨⟨i + 1, _, A5, c5, _, A7, c7, p1, c1, by go_num, by omega, inferInstance, inferInstance, inferInstance, inferInstance, Tr.lp (XU (XE g8) (XU (XE g9) (XU (XE g11) (XE g12)))), Fs.lp, kp _ _ _, by rw [HN.out, HP.out.1, HP.out.2.1, HP.out.2.2]; rfl⟩, by simp [intOf]; omega⟩
        · have HP : Hid (powP z p i = p ∧ powC a b i cc = cc ∧ powB z p a b i cc = false) := Lib.hid ⟨if_neg h1, if_neg h1, if_neg h1⟩
          go_wp2
          refine wp_region_held_drew (S := (fun w' => w'.cell? ⟨g11, 0, none⟩ = some (.slice Ap p.len cp) ∧ w'.cell? ⟨g12, 0, none⟩ = some (.int .i64 cc.1) ∧ w'.cell? ⟨g12, 1, none⟩ = some (.int .i64 cc.2))) (by kernel_rfl) ?hSn3_ (fun hHeld => ?hRn3_)
          case hSn3_ => (exact ⟨has1, has2.1, has2.2⟩)
          refine wpAnyH_take (i := 1) (oi := _) (v := ?vn3_1) rfl (by kernel_rfl) (by kernel_rfl) (by kernel_rfl) (fun _ _ _ h => h) (Or.inl ⟨by rfl, ?hyn3_1⟩) (by assumption) ?hRn3_1
          case hyn3_1 => (intro w hSw; (try dsimp only at hSw); go_simp; (try with_reducible rfl))
          try simp only [Act.put, List.getElem_toArray, List.getElem_cons_zero, List.getElem_cons_succ, List.setIfInBounds_toArray, List.set_cons_zero, List.set_cons_succ]
          refine wpAnyH_take (i := 2) (oi := _) (v := ?vn3_2) rfl (by kernel_rfl) (by kernel_rfl) (by kernel_rfl) (fun _ _ _ h => h) (Or.inl ⟨by rfl, ?hyn3_2⟩) (by assumption) ?hRn3_2
          case hyn3_2 => (intro w hSw; (try dsimp only at hSw); go_simp; (try with_reducible rfl))
          try simp only [Act.put, List.getElem_toArray, List.getElem_cons_zero, List.getElem_cons_succ, List.setIfInBounds_toArray, List.set_cons_zero, List.set_cons_succ]
          refine wpAnyH_ready (rs := [0, 3]) (by kernel_rfl) (by simp) ?_
          refine AllReadyH.cons (o := _) rfl (fun K hK => ?bn3_3) (AllReadyH.cons (o := _) rfl (fun K hK => ?bn3_4) (AllReadyH.nil))
          case' bn3_3 =>
            go_simp
            refine hK.out _ _ ?hSn3_5 (fun hHeld => ?hRn3_5)
            case hSn3_5 => ((try dsimp only); exact ⟨has1, has2.1, has2.2⟩)
            clear hK K
            try simp only [Act.put, List.getElem_toArray, List.getElem_cons_zero, List.getElem_cons_succ, List.setIfInBounds_toArray, List.set_cons_zero, List.set_cons_succ]
            refine wpAnyH_ready (rs := [3]) (by kernel_rfl) (by simp) ?_
            refine AllReadyH.cons (o := _) rfl (fun K hK => ?_) AllReadyH.nil
            go_simp
            (go_at_call 59; refine (mscale_any p cc.1 cc.2 _ g8 _ _ _ _ (tr _ Ap) has1 has_frozen).mono ?_; rintro e9 w9 ⟨A9, c9, rfl, hf, hb⟩; haveI := belM hb; haveI := Fs.of hf; clear hf hb)
            go_wp2_with fail
            refine hK.out _ _ ?hSn3_6 (fun hHeld => ?hRn3_6)
            case hSn3_6 => ((try dsimp only); exact ⟨has1, has2.1, has2.2⟩)
            clear hK K
            try simp only [Act.put, List.getElem_toArray, List.getElem_cons_zero, List.getElem_cons_succ, List.setIfInBounds_toArray, List.set_cons_zero, List.set_cons_succ]
            refine wpAnyH_ready (rs := [4]) (by kernel_rfl) (by simp) ?_
            refine AllReadyH.cons (o := _) rfl (fun K hK => ?_) AllReadyH.nil
            go_simp
            (go_at_call 58; refine (madd_any out ((scaleS p cc.1 cc.2).getD .nil) _ g8 _ _ _ _ _ _ _ (tr _ Ao) (tr _ A9) has1 has_frozen).mono ?_; rintro e5 w10 ⟨A5, c5, rfl, hf, hb⟩; haveI := belM hb; haveI := Fs.of hf; clear hf hb)
            go_wp2_with fail
            refine hK.out _ _ ?hSn3_7 (fun hHeld => ?hRn3_7)
            case hSn3_7 => ((try dsimp only); exact ⟨has1, has2.1, has2.2⟩)
            clear hK K
            try simp only [Act.put, List.getElem_toArray, List.getElem_cons_zero, List.getElem_cons_succ, List.setIfInBounds_toArray, List.set_cons_zero, List.set_cons_succ]
            refine wpAnyH_ready (rs := [5]) (by kernel_rfl) (by simp) ?_
            refine AllReadyH.cons (o := _) rfl (fun K hK => ?_) AllReadyH.nil
            go_simp
            refine hK.out _ _ ?hSn3_8 (fun hHeld => ?hRn3_8)
            case hSn3_8 => ((try dsimp only); exact ⟨has1, has2.1, has2.2⟩)
            clear hK K
            try simp only [Act.put, List.getElem_toArray, List.getElem_cons_zero, List.getElem_cons_succ, List.setIfInBounds_toArray, List.set_cons_zero, List.set_cons_succ]
            refine wpAnyH_done (by kernel_rfl) ?_ _
          case' bn3_4 =>
            go_simp
            (go_at_call 59; refine (mscale_any p cc.1 cc.2 _ g8 _ _ _ _ (tr _ Ap) has1 has_frozen).mono ?_; rintro e9 w9 ⟨A9, c9, rfl, hf, hb⟩; haveI := belM hb; haveI := Fs.of hf; clear hf hb)
            go_wp2_with fail
            refine hK.out _ _ ?hSn3_9 (fun hHeld => ?hRn3_9)
            case hSn3_9 => ((try dsimp only); exact ⟨has1, has2.1, has2.2⟩)
            clear hK K
            try simp only [Act.put, List.getElem_toArray, List.getElem_cons_zero, List.getElem_cons_succ, List.setIfInBounds_toArray, List.set_cons_zero, List.set_cons_succ]
            refine wpAnyH_ready (rs := [0]) (by kernel_rfl) (by simp) ?_
            refine AllReadyH.cons (o := _) rfl (fun K hK => ?_) AllReadyH.nil
            go_simp
            refine hK.out _ _ ?hSn3_10 (fun hHeld => ?hRn3_10)
            case hSn3_10 => ((try dsimp only); exact ⟨has1, has2.1, has2.2⟩)
            clear hK K
            try simp only [Act.put, List.getElem_toArray, List.getElem_cons_zero, List.getElem_cons_succ, List.setIfInBounds_toArray, List.set_cons_zero, List.set_cons_succ]
            refine wpAnyH_ready (rs := [4]) (by kernel_rfl) (by simp) ?_
            refine AllReadyH.cons (o := _) rfl (fun K hK => ?_) AllReadyH.nil
            go_simp
            (go_at_call 58; refine (madd_any out ((scaleS p cc.1 cc.2).getD .nil) _ g8 _ _ _ _ _ _ _ (tr _ Ao) (tr _ A9) has1 has_frozen).mono ?_; rintro e5 w10 ⟨A5, c5, rfl, hf, hb⟩; haveI := belM hb; haveI := Fs.of hf; clear hf hb)
            go_wp2_with fail
            refine hK.out _ _ ?hSn3_11 (fun hHeld => ?hRn3_11)
            case hSn3_11 => ((try dsimp only); exact ⟨has1, has2.1, has2.2⟩)
            clear hK K
            try simp only [Act.put, List.getElem_toArray, List.getElem_cons_zero, List.getElem_cons_succ, List.setIfInBounds_toArray, List.set_cons_zero, List.set_cons_succ]
            refine wpAnyH_ready (rs := [5]) (by kernel_rfl) (by simp) ?_
            refine AllReadyH.cons (o := _) rfl (fun K hK => ?_) AllReadyH.nil
            go_simp
            refine hK.out _ _ ?hSn3_12 (fun hHeld => ?hRn3_12)
            case hSn3_12 => ((try dsimp only); exact ⟨has1, has2.1, has2.2⟩)
            clear hK K
            try simp only [Act.put, List.getElem_toArray, List.getElem_cons_zero, List.getElem_cons_succ, List.setIfInBounds_toArray, List.set_cons_zero, List.set_cons_succ]
            refine wpAnyH_done (by kernel_rfl) ?_ _
          all_goals
            go_wp2
            exact ⟨⟨i + 1, _, A5, c5, _, Ap, cp, p, cc, by go_num, by omega, inferInstance, inferInstance, inferInstance, inferInstance, Tr.lp (XU (XE g8) (XU (XE g9) (XU (XE g11) (XE g12)))), Fs.lp, kp _ _ _, by rw [HN.out, HP.out.1, HP.out.2.1, HP.out.2.2]; rfl⟩, by simp [intOf]; omega⟩
      · have HE := Lib.hid (HS.out.trans (powGo_stop z n a b _ _ _ _ _ _ hgo))
        clear HS
        cases bad
        · have hni : ¬ (i : Int) < n := fun h => hgo ⟨h, rfl⟩
          clear hgo
          go_wp2_with (first | (go_at_call 60; refine (mtold_any out _ g8 _ _ _ has1 v12.heap.size (LeB.h) (fs _ Ao v12)).mono ?_; rintro e7 w7 ⟨A7, c7, rfl, hf, hb⟩; haveI : Bel _ w7 := ⟨hb⟩; haveI := Fs.of hf; clear hf hb))
          refine bodyPost_ret (v := .tuple #[.agg #[.slice A7 out.len c7], .bool true]) (by simp [results, Tryz.results9, go_sem]) rfl ?_
          rw [H.out, HE.out]
          exact ⟨A7, c7, rfl, fs _ A7 w, ext _ _⟩
        · clear hgo
          by_cases hle : (i : Int) < n
          all_goals
            go_wp2_with (first | (go_at_call 60; refine (mtold_any out _ g8 _ _ _ has1 v12.heap.size (LeB.h) (fs _ Ao v12)).mono ?_; rintro e7 w7 ⟨A7, c7, rfl, hf, hb⟩; haveI : Bel _ w7 := ⟨hb⟩; haveI := Fs.of hf; clear hf hb))
            refine bodyPost_ret (v := .tuple #[.agg #[.slice A7 0 c7], .bool false]) (by simp [results, Tryz.results9, go_sem, Sur.len]) rfl ?_
            rw [H.out, HE.out]
            exact ⟨A7, c7, rfl, fs _ A7 w, ext _ _⟩
  · have H := Lib.hid (show powT x a b n = none by simp only [powT, hall]; rfl)
    go_enter Tryz.func9, Tryz.ntmps9
    cases hg : sGood x <;> cases hfr : fracOk a b <;> cases hn : stepsB n
    all_goals
      first
      | (simp [hg, hfr, hn] at hall; done)
      | (clear hall
         go_wp2_with (first | ((with_reducible refine at_dst (N := 3) rfl ?_); refine ev_box (cs := #[.slice A x.len c]) (t := 26) rfl ?hr3 ?_; (case hr3 => first | (go_simp; done) | (go_simp; rfl)); intro g3 v3 _ _ _ _) | ((with_reducible refine at_dst (N := 4) rfl ?_); refine ev_box (cs := #[.int .i64 a, .int .i64 b]) (t := 28) rfl ?hr4 ?_; (case hr4 => first | (go_simp; done) | (go_simp; rfl)); intro g4 v4 _ _ _ _) | ((with_reducible refine at_dst (N := 6) rfl ?_); refine ev_box (cs := #[.slice none 0 0]) (t := 26) rfl ?hr6 ?_; (case hr6 => first | (go_simp; done) | (go_simp; rfl)); intro g6 v6 _ _ _ _) | (go_at_call 47; refine (IsSurreal_any x _ _ _ _ (tr _ A)).mono ?_; rintro e1 w1 ⟨rfl, hb⟩; haveI : Bel _ w1 := ⟨hb⟩; clear hb) | (go_at_call 48; refine (IsFraction_any a b _).mono ?_; rintro e2 w2 ⟨rfl, hb⟩; haveI : Bel _ w2 := ⟨hb⟩; clear hb) | (go_at_call 49; refine (stepsOk_any n _).mono ?_; rintro e3 w3 ⟨rfl, rfl⟩))
         refine bodyPost_ret (v := .tuple #[.agg #[.slice none 0 0], .bool false]) (by simp [results, Tryz.results9, go_sem]) rfl ?_
         rw [H.out]
         exact ⟨none, 0, rfl, SFresh.nil _ _, ext _ _⟩)
end Go.Proofs.YtphabopnbcgodaaGreat
