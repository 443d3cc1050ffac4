/-
  Walks, the reference's side: PowerTerms.
-/
import Derived.Test.YtphabopnbcgodaaGreatSLog
import Derived.Test.YtphabopnbcgodaaGreatBJ
import Derived.Test.YtphabopnbcgodaaGreatBG
import Derived.Test.YtphabopnbcgodaaGreatSPowFn
namespace Go.Proofs.YtphabopnbcgodaaGreat
open Go.RowKit
set_option linter.unusedSimpArgs false
set_option linter.unusedVariables false

theorem spowGo_stop (z : Sur) (n a b : Int) (k : Nat) (i : Int) (bad : Bool) (out p : Sur) (c : Int × Int) (h : ¬ i < n) : spowGo z n a b k i bad out p c = (bad, out) := by
  cases k with
  | zero => rfl
  | succ k => simp only [spowGo]; rw [if_neg h]
theorem spowGo_step (z : Sur) (n a b : Int) (i : Nat) (bad : Bool) (out p : Sur) (c : Int × Int) (h : (i : Int) < n) (hi : i ≤ 12) : spowGo z n a b (13 - i) i bad out p c =
    spowGo z n a b (13 - (i + 1)) ((i + 1 : Nat) : Int) (spB3 (spB z a b bad p i c) out (spP z bad p i) (spC z a b bad p i c)) (spOut (spB z a b bad p i c) out (spP z bad p i) (spC z a b bad p i c)) (spP z bad p i) (spC z a b bad p i c) := by
  rw [show 13 - i = (13 - (i + 1)) + 1 from by omega]
  simp only [spowGo]
  rw [if_pos h]
  rfl
theorem spOut_nil (bad : Bool) (out p : Sur) (c : Int × Int) (h : spB3 bad out p c = true) : spOut bad out p c = .nil := by unfold spB3 at h; unfold spOut keepS; rw [h]; rfl
theorem spOut_good (bad : Bool) (out p : Sur) (c : Int × Int) : sGood (spOut bad out p c) = true := keepS_good fun _ h => sumS_good h
theorem spC_ok {z p : Sur} {a b i : Int} {bad : Bool} {c : Int × Int} (h : FOk c.1 c.2) : FOk (spC z a b bad p i c).1 (spC z a b bad p i c).2 := by
  unfold spC
  split
  · exact frV_ok _ _ _
  · exact h
theorem spP_good {z p : Sur} {bad : Bool} {i : Int} (h : sGood p = true) : sGood (spP z bad p i) = true := by
  unfold spP
  split
  · exact slogP_good z bad p
  · exact h

def spT (bad : Bool) (p : Sur) (c : Int × Int) : Sur := keepS bad (spS p c)
attribute [local go_sem high] has_cell has_frozen
set_option synthInstance.maxHeartbeats 2000000 in
set_option synthInstance.maxSize 4000 in
set_option maxHeartbeats 8000000 in
set_option maxRecDepth 100000 in
theorem sPowerTerms_any (x : Sur) (a b n : Int) (X : Nat → Prop) (A : Option Addr) (c : Nat) (w : World) (sx : SSl X w x A c) :
    Calls Tryz.prog 10 #[.agg #[.slice A x.len c], .agg #[.int .i64 a, .int .i64 b], .int .i64 n] w (RetFreshB w (spowTerms x a b n)) := by
  haveI := Tr.arg sx
  clear sx
  by_cases hall : (sGood x && (fracOk a b && stepsB n)) = true
  · simp only [Bool.and_eq_true] at hall
    obtain ⟨hg, hfr, hn⟩ := hall
    obtain ⟨hn0, hn1⟩ := stepsB_true hn
    cases hne : nearOk x
    · have H := Lib.hid (show spowTerms x a b n = none by simp only [spowTerms, hg, hfr, hn, hne]; rfl)
      go_enter Tryz.func10, Tryz.ntmps10
      go_wp2_with (first | ((with_reducible refine at_dst (N := 3) rfl ?_); refine ev_box (cs := #[.slice A x.len c]) (t := 26) rfl ?hr3 ?_; (case hr3 => first | (go_simp; done) | (go_simp; rfl)); intro g3 v3 _ _ _ _) | ((with_reducible refine at_dst (N := 4) rfl ?_); refine ev_box (cs := #[.int .i64 a, .int .i64 b]) (t := 28) rfl ?hr4 ?_; (case hr4 => first | (go_simp; done) | (go_simp; rfl)); intro g4 v4 _ _ _ _) | ((with_reducible refine at_dst (N := 6) rfl ?_); refine ev_box (cs := #[.slice none 0 0]) (t := 26) rfl ?hr6 ?_; (case hr6 => first | (go_simp; done) | (go_simp; rfl)); intro g6 v6 _ _ _ _) | (go_at_call 61; refine (suGood_any x _ _ _ _ (tr _ A)).mono ?_; rintro e1 w1 ⟨rfl, hb⟩; haveI : Bel _ w1 := ⟨hb⟩; clear hb) | (go_at_call 62; refine (shGood_any a b _).mono ?_; rintro e2 w2 ⟨rfl, hb⟩; haveI : Bel _ w2 := ⟨hb⟩; clear hb) | (go_at_call 63; refine (seSteps_any n _).mono ?_; rintro e3 w3 ⟨rfl, rfl⟩) | ((with_reducible refine at_dst (N := 8) rfl ?_); refine ev_box (cs := #[.slice none 0 0]) (t := 26) rfl ?hr8 ?_; (case hr8 => first | (go_simp; done) | (go_simp; rfl)); intro g8 v8 _ _ _ _) | ((with_reducible refine at_dst (N := 38) rfl ?_); refine ev_box (cs := #[.bool false]) (t := 87) rfl ?hr38 ?_; (case hr38 => first | (go_simp; done) | (go_simp; rfl)); intro g10 v10 _ _ _ _) | ((with_reducible refine at_dst (N := 11) rfl ?_); refine ev_box (cs := #[.slice none 0 0]) (t := 26) rfl ?hr11 ?_; (case hr11 => first | (go_simp; done) | (go_simp; rfl)); intro g11 v11 _ _ _ _) | ((with_reducible refine at_dst (N := 12) rfl ?_); refine ev_box (cs := #[.slice none 0 0]) (t := 26) rfl ?hr12 ?_; (case hr12 => first | (go_simp; done) | (go_simp; rfl)); intro g12 v12 _ _ _ _) | ((with_reducible refine at_dst (N := 13) rfl ?_); refine ev_box (cs := #[.int .i64 0, .int .i64 0]) (t := 28) rfl ?hr13 ?_; (case hr13 => first | (go_simp; done) | (go_simp; rfl)); intro g13 v13 _ _ _ _) | (go_at_call 64; refine (seNear_any x _ _ _ _ (tr _ A) hg).mono ?_; rintro e4 w4 ⟨Az, cz, rfl, hf, hb⟩; haveI : Bel _ w4 := ⟨hb⟩; haveI := Fs.of hf; clear hf hb))
      refine bodyPost_ret (v := .tuple #[.agg #[.slice none 0 0], .bool false]) (by simp [results, Tryz.results10, go_sem]) rfl ?_
      rw [H.out]
      exact ⟨none, 0, rfl, SFresh.nil _ _, ext _ _⟩
    · have H := Lib.hid (show spowTerms x a b n = if (spowGo ((nearS x).getD .nil) n a b 13 0 false .nil (termP .nil 1 1) (1, 1)).1 = true then none else some (spowGo ((nearS x).getD .nil) n a b 13 0 false .nil (termP .nil 1 1) (1, 1)).2 by simp only [spowTerms, hg, hfr, hn, hne]; rfl)
      have GZ : Hid (sGood ((nearS x).getD .nil) = true) := Lib.hid (by
        rw [nearS_lessOne hg]
        rcases h : lessOne x with _ | z
        · exact sGood_nil
        · exact addS_good h)
      go_enter Tryz.func10, Tryz.ntmps10
      go_wp2_with (first | ((with_reducible refine at_dst (N := 3) rfl ?_); refine ev_box (cs := #[.slice A x.len c]) (t := 26) rfl ?hr3 ?_; (case hr3 => first | (go_simp; done) | (go_simp; rfl)); intro g3 v3 _ _ _ _) | ((with_reducible refine at_dst (N := 4) rfl ?_); refine ev_box (cs := #[.int .i64 a, .int .i64 b]) (t := 28) rfl ?hr4 ?_; (case hr4 => first | (go_simp; done) | (go_simp; rfl)); intro g4 v4 _ _ _ _) | ((with_reducible refine at_dst (N := 6) rfl ?_); refine ev_box (cs := #[.slice none 0 0]) (t := 26) rfl ?hr6 ?_; (case hr6 => first | (go_simp; done) | (go_simp; rfl)); intro g6 v6 _ _ _ _) | (go_at_call 61; refine (suGood_any x _ _ _ _ (tr _ A)).mono ?_; rintro e1 w1 ⟨rfl, hb⟩; haveI : Bel _ w1 := ⟨hb⟩; clear hb) | (go_at_call 62; refine (shGood_any a b _).mono ?_; rintro e2 w2 ⟨rfl, hb⟩; haveI : Bel _ w2 := ⟨hb⟩; clear hb) | (go_at_call 63; refine (seSteps_any n _).mono ?_; rintro e3 w3 ⟨rfl, rfl⟩) | ((with_reducible refine at_dst (N := 8) rfl ?_); refine ev_box (cs := #[.slice none 0 0]) (t := 26) rfl ?hr8 ?_; (case hr8 => first | (go_simp; done) | (go_simp; rfl)); intro g8 v8 _ _ _ _) | ((with_reducible refine at_dst (N := 38) rfl ?_); refine ev_box (cs := #[.bool false]) (t := 87) rfl ?hr38 ?_; (case hr38 => first | (go_simp; done) | (go_simp; rfl)); intro g10 v10 _ _ _ _) | ((with_reducible refine at_dst (N := 11) rfl ?_); refine ev_box (cs := #[.slice none 0 0]) (t := 26) rfl ?hr11 ?_; (case hr11 => first | (go_simp; done) | (go_simp; rfl)); intro g11 v11 _ _ _ _) | ((with_reducible refine at_dst (N := 12) rfl ?_); refine ev_box (cs := #[.slice none 0 0]) (t := 26) rfl ?hr12 ?_; (case hr12 => first | (go_simp; done) | (go_simp; rfl)); intro g12 v12 _ _ _ _) | ((with_reducible refine at_dst (N := 13) rfl ?_); refine ev_box (cs := #[.int .i64 0, .int .i64 0]) (t := 28) rfl ?hr13 ?_; (case hr13 => first | (go_simp; done) | (go_simp; rfl)); intro g13 v13 _ _ _ _) | (go_at_call 64; refine (seNear_any x _ _ _ _ (tr _ A) hg).mono ?_; rintro e4 w4 ⟨Az, cz, rfl, hf, hb⟩; haveI : Bel _ w4 := ⟨hb⟩; haveI := Fs.of hf; clear hf hb) | (go_at_call 42; refine (suInt_any 1 (XL _) _ (fun k hk => hk) ⟨by decide, by decide⟩).mono ?_; rintro e6 w6 ⟨Ap, cp, rfl, hs, hb⟩; haveI : Bel _ w6 := ⟨hb⟩; haveI := Tr.arg hs; clear hs hb) | (go_at_call 65; refine (shInt_any (1) _).mono ?_; rintro e8 w8 ⟨rfl, hb⟩; haveI : Bel _ w8 := ⟨hb⟩; clear hb))
      generalize (nearS x).getD .nil = z at *
      go_loopw [14] (fun s wr => ∃ (i : Nat) (bad : Bool) (Ao : Option Addr) (co : Nat) (out : Sur) (Ap : Option Addr) (cp : Nat) (p : Sur) (cc : Int × Int), s = .int .i64 i ∧ (i : Int) ≤ n ∧
          Has wr g10 (.cells #[.bool bad] 87) ∧ Has wr g11 (.cells #[.slice Ao out.len co] 26) ∧ Has wr g12 (.cells #[.slice Ap p.len cp] 26) ∧ Has wr g13 (.cells #[.int .i64 cc.1, .int .i64 cc.2] 28) ∧
          Tr wr Ap (XV wr (XU (XE g10) (XU (XE g11) (XU (XE g12) (XE g13))))) p cp ∧ Fs wr Ao v13 wr out co ∧ Kp v13 (XU (XE g10) (XU (XE g11) (XU (XE g12) (XE g13)))) wr ∧ Hid (sGood p = true) ∧ Hid (FOk cc.1 cc.2) ∧ Hid (sGood out = true) ∧ Hid (bad = true → out = .nil) ∧ Hid (spowGo z n a b 13 0 false .nil (termP .nil 1 1) (1, 1) = spowGo z n a b (13 - i) i bad out p cc)) (fun s _ => 20 - (intOf s).toNat)
      case atStart => exact ⟨0, false, none, 0, .nil, Ap, cp, termP .nil 1 1, (1, 1), rfl, by omega, inferInstance, inferInstance, inferInstance, inferInstance, Tr.lp (XU (XE g10) (XU (XE g11) (XU (XE g12) (XE g13)))), Fs.nil, kp _ _ _, sGood_real (by decide), (by decide : fracOk 1 1 = true), sGood_nil, fun _ => rfl, rfl⟩
      case round =>
        obtain ⟨i, bad, Ao, co, out, Ap, cp, p, cc, rfl, hin, _, _, _, _, _, _, _, GP, GC, GO, HNB, HS⟩ := hrel
        by_cases hgo : (i : Int) < n
        · have HN := Lib.hid (HS.out.trans (spowGo_step z n a b i bad out p cc hgo (by omega)))
          clear HS
          by_cases h1 : (0 : Int) < (i : Int)
          · have HP : Hid (spP z bad p i = slogP z bad p ∧ spC z a b bad p i cc = spV3 a b i (slogB1 z bad p) cc ∧ spB z a b bad p i cc = spE3 a b i (slogB1 z bad p) cc) := Lib.hid ⟨if_pos h1, if_pos h1, if_pos h1⟩
            go_wp2_with (first | (go_at_call 66; refine (kmul_any p z bad g10 _ _ _ _ _ _ _ (tr _ Ap) (tr _ Az) GP.out GZ.out has1 has_frozen).mono ?_; rintro e7 w7 ⟨A7, c7, he, hf, hb⟩; replace hb : Below _ (World.setCell _ _ (.bool (slogB1 z bad p))) w7 := hb; replace he : e7 = .returned (.agg #[.slice A7 (slogP z bad p).len c7]) := he; replace hf : SFresh _ w7 (slogP z bad p) A7 c7 := hf; subst he; haveI := belM hb; haveI := Fs.of hf; clear hf hb))
            have hi1 : 1 ≤ (i : Int) := by omega
            have hi2 : (i : Int) ≤ 12 := by omega
            have F0 : Hid (FOk a b ∧ FOk (1 - (i : Int)) 1 ∧ FOk (i : Int) 1 ∧ (i : Int) ≠ 0) := Lib.hid ⟨hfr, fracOk_iff.2 ⟨by omega, by omega, by omega, by omega, by simp [Int.gcd]⟩, fracOk_iff.2 ⟨by omega, by omega, by omega, by omega, by simp [Int.gcd]⟩, by omega⟩
            have F1 : Hid (FOk (spV1 a b i (slogB1 z bad p)).1 (spV1 a b i (slogB1 z bad p)).2 ∧ FOk (spV2 a b i (slogB1 z bad p)).1 (spV2 a b i (slogB1 z bad p)).2) := Lib.hid ⟨frV_ok _ _ _, frV_ok _ _ _⟩
            go_cut [14] (fun s14 wx => s14 = .int .i64 i ∧ Has wx g10 (.cells #[.bool (spE3 a b i (slogB1 z bad p) cc)] 87) ∧
              Has wx g13 (.cells #[.int .i64 (spV3 a b i (slogB1 z bad p) cc).1, .int .i64 (spV3 a b i (slogB1 z bad p) cc).2] 28) ∧ Kp (w7.setCell ⟨g12, 0, none⟩ (.slice A7 (slogP z bad p).len c7)) (XU (XE g10) (XE g13)) wx)
            case first =>
              have hw1 : IntKind.i64.wrap (1 - (i : Int)) = 1 - (i : Int) := IntWalk.i64_in _ (by omega)
              refine wp_region_held_drew (S := (fun w' => w'.cell? ⟨g4, 0, none⟩ = some (.int .i64 a) ∧ w'.cell? ⟨g4, 1, none⟩ = some (.int .i64 b))) (by kernel_rfl) ?hSn1_ (fun hHeld => ?hRn1_)
              case hSn1_ => (exact has2)
              refine wpAnyH_take (i := 0) (oi := _) (v := ?vn1_1) rfl (by kernel_rfl) (by kernel_rfl) (by kernel_rfl) (fun _ _ _ h => h) (Or.inl ⟨by rfl, ?hyn1_1⟩) (by assumption) ?hRn1_1
              case hyn1_1 => (intro w hSw; (try dsimp only at hSw); go_simp; (try with_reducible rfl))
              try simp only [Act.put, List.getElem_toArray, List.getElem_cons_zero, List.getElem_cons_succ, List.setIfInBounds_toArray, List.set_cons_zero, List.set_cons_succ]
              refine wpAnyH_take (i := 2) (oi := _) (v := ?vn1_2) rfl (by kernel_rfl) (by kernel_rfl) (by kernel_rfl) (fun _ _ _ h => h) (Or.inl ⟨by rfl, ?hyn1_2⟩) (by assumption) ?hRn1_2
              case hyn1_2 => (intro w hSw; (try dsimp only at hSw); go_simp; (try with_reducible rfl))
              try simp only [Act.put, List.getElem_toArray, List.getElem_cons_zero, List.getElem_cons_succ, List.setIfInBounds_toArray, List.set_cons_zero, List.set_cons_succ]
              refine wpAnyH_take (i := 3) (oi := _) (v := ?vn1_3) rfl (by kernel_rfl) (by kernel_rfl) (by kernel_rfl) (fun _ _ _ h => h) (Or.inl ⟨by rfl, ?hyn1_3⟩) (by assumption) ?hRn1_3
              case hyn1_3 => (intro w hSw; (try dsimp only at hSw); go_simp; (try with_reducible rfl))
              try simp only [Act.put, List.getElem_toArray, List.getElem_cons_zero, List.getElem_cons_succ, List.setIfInBounds_toArray, List.set_cons_zero, List.set_cons_succ]
              refine wpAnyH_take (i := 4) (oi := _) (v := ?vn1_4) rfl (by kernel_rfl) (by kernel_rfl) (by kernel_rfl) (fun _ _ _ h => h) (Or.inl ⟨by rfl, ?hyn1_4⟩) (by assumption) ?hRn1_4
              case hyn1_4 => (intro w hSw; (try dsimp only at hSw); go_simp; (try with_reducible rfl))
              try simp only [Act.put, List.getElem_toArray, List.getElem_cons_zero, List.getElem_cons_succ, List.setIfInBounds_toArray, List.set_cons_zero, List.set_cons_succ]
              refine wpAnyH_take (i := 5) (oi := _) (v := ?vn1_5) rfl (by kernel_rfl) (by kernel_rfl) (by kernel_rfl) (fun _ _ _ h => h) (Or.inl ⟨by rfl, ?hyn1_5⟩) (by assumption) ?hRn1_5
              case hyn1_5 => (intro w hSw; (try dsimp only at hSw); go_simp; (try with_reducible rfl))
              try simp only [Act.put, List.getElem_toArray, List.getElem_cons_zero, List.getElem_cons_succ, List.setIfInBounds_toArray, List.set_cons_zero, List.set_cons_succ]
              refine wpAnyH_take (i := 6) (oi := _) (v := ?vn1_6) rfl (by kernel_rfl) (by kernel_rfl) (by kernel_rfl) (fun _ _ _ h => h) (Or.inl ⟨by rfl, ?hyn1_6⟩) (by assumption) ?hRn1_6
              case hyn1_6 => (intro w hSw; (try dsimp only at hSw); go_simp; (try with_reducible rfl))
              try simp only [Act.put, List.getElem_toArray, List.getElem_cons_zero, List.getElem_cons_succ, List.setIfInBounds_toArray, List.set_cons_zero, List.set_cons_succ]
              refine wpAnyH_take (i := 10) (oi := _) (v := ?vn1_7) rfl (by kernel_rfl) (by kernel_rfl) (by kernel_rfl) (fun _ _ _ h => h) (Or.inl ⟨by rfl, ?hyn1_7⟩) (by assumption) ?hRn1_7
              case hyn1_7 => (intro w hSw; (try dsimp only at hSw); go_simp; (try with_reducible rfl))
              try simp only [Act.put, List.getElem_toArray, List.getElem_cons_zero, List.getElem_cons_succ, List.setIfInBounds_toArray, List.set_cons_zero, List.set_cons_succ]
              refine wpAnyH_ready (rs := [1, 7]) (by kernel_rfl) (by simp) ?_
              refine AllReadyH.cons (o := _) rfl (fun K hK => ?bn1_8) (AllReadyH.cons (o := _) rfl (fun K hK => ?bn1_9) (AllReadyH.nil))
              case' bn1_8 =>
                go_simp
                refine hK.out _ _ ?hSn1_10 (fun hHeld => ?hRn1_10)
                case hSn1_10 => ((try dsimp only); exact has2)
                clear hK K
                try simp only [Act.put, List.getElem_toArray, List.getElem_cons_zero, List.getElem_cons_succ, List.setIfInBounds_toArray, List.set_cons_zero, List.set_cons_succ]
                refine wpAnyH_ready (rs := [7]) (by kernel_rfl) (by simp) ?_
                refine AllReadyH.cons (o := _) rfl (fun K hK => ?_) AllReadyH.nil
                go_simp
                (go_at_call 65; refine (shInt_any (1 - (i : Int)) _).mono ?_; rintro e8 w8 ⟨rfl, hb⟩; haveI : Bel _ w8 := ⟨hb⟩; clear hb)
                go_wp2_with fail
                refine hK.out _ _ ?hSn1_11 (fun hHeld => ?hRn1_11)
                case hSn1_11 => ((try dsimp only); exact has2)
                clear hK K
                try simp only [Act.put, List.getElem_toArray, List.getElem_cons_zero, List.getElem_cons_succ, List.setIfInBounds_toArray, List.set_cons_zero, List.set_cons_succ]
                refine wpAnyH_ready (rs := [8]) (by kernel_rfl) (by simp) ?_
                refine AllReadyH.cons (o := _) rfl (fun K hK => ?_) AllReadyH.nil
                go_simp
                (go_at_call 70; refine (shAdd_any a b (1 - (i : Int)) 1 F0.out.1 F0.out.2.1 _).mono ?_; rintro e8 w8 ⟨rfl, hb⟩; haveI : Bel _ w8 := ⟨hb⟩; clear hb)
                go_wp2_with fail
                refine hK.out _ _ ?hSn1_12 (fun hHeld => ?hRn1_12)
                case hSn1_12 => ((try dsimp only); exact has2)
                clear hK K
                try simp only [Act.put, List.getElem_toArray, List.getElem_cons_zero, List.getElem_cons_succ, List.setIfInBounds_toArray, List.set_cons_zero, List.set_cons_succ]
                refine wpAnyH_ready (rs := [9]) (by kernel_rfl) (by simp) ?_
                refine AllReadyH.cons (o := _) rfl (fun K hK => ?_) AllReadyH.nil
                go_simp
                (go_at_call 69; refine (fraction_any (adN a b (1 - (i : Int)) 1) (adD a b (1 - (i : Int)) 1) (slogB1 z bad p) g10 _ has1 has_frozen).mono ?_; rintro e8 w8 ⟨he, hb⟩; replace hb : Below _ (World.setCell _ _ (.bool (spE1 a b i (slogB1 z bad p)))) w8 := hb; replace he : e8 = .returned (.agg #[.int .i64 (spV1 a b i (slogB1 z bad p)).1, .int .i64 (spV1 a b i (slogB1 z bad p)).2]) := he; subst he; haveI := belM hb; clear hb)
                go_wp2_with fail
                refine hK.out _ _ ?hSn1_13 (fun hHeld => ?hRn1_13)
                case hSn1_13 => ((try dsimp only); exact has2)
                clear hK K
                try simp only [Act.put, List.getElem_toArray, List.getElem_cons_zero, List.getElem_cons_succ, List.setIfInBounds_toArray, List.set_cons_zero, List.set_cons_succ]
                refine wpAnyH_ready (rs := [11]) (by kernel_rfl) (by simp) ?_
                refine AllReadyH.cons (o := _) rfl (fun K hK => ?_) AllReadyH.nil
                go_simp
                (go_at_call 65; refine (shInt_any ((i : Int)) _).mono ?_; rintro e8 w8 ⟨rfl, hb⟩; haveI : Bel _ w8 := ⟨hb⟩; clear hb)
                go_wp2_with fail
                refine hK.out _ _ ?hSn1_14 (fun hHeld => ?hRn1_14)
                case hSn1_14 => ((try dsimp only); exact has2)
                clear hK K
                try simp only [Act.put, List.getElem_toArray, List.getElem_cons_zero, List.getElem_cons_succ, List.setIfInBounds_toArray, List.set_cons_zero, List.set_cons_succ]
                refine wpAnyH_ready (rs := [12]) (by kernel_rfl) (by simp) ?_
                refine AllReadyH.cons (o := _) rfl (fun K hK => ?_) AllReadyH.nil
                go_simp
                (go_at_call 68; refine (over_any (spV1 a b i (slogB1 z bad p)).1 (spV1 a b i (slogB1 z bad p)).2 (i : Int) 1 (spE1 a b i (slogB1 z bad p)) g10 _ F1.out.1 F0.out.2.2.1 F0.out.2.2.2 has1 has_frozen).mono ?_; rintro e8 w8 ⟨he, hb⟩; replace hb : Below _ (World.setCell _ _ (.bool (spE2 a b i (slogB1 z bad p)))) w8 := hb; replace he : e8 = .returned (.agg #[.int .i64 (spV2 a b i (slogB1 z bad p)).1, .int .i64 (spV2 a b i (slogB1 z bad p)).2]) := he; subst he; haveI := belM hb; clear hb)
                go_wp2_with fail
                refine hK.out _ _ ?hSn1_15 (fun hHeld => ?hRn1_15)
                case hSn1_15 => ((try dsimp only); exact has2)
                clear hK K
                try simp only [Act.put, List.getElem_toArray, List.getElem_cons_zero, List.getElem_cons_succ, List.setIfInBounds_toArray, List.set_cons_zero, List.set_cons_succ]
                refine wpAnyH_ready (rs := [13]) (by kernel_rfl) (by simp) ?_
                refine AllReadyH.cons (o := _) rfl (fun K hK => ?_) AllReadyH.nil
                go_simp
                (go_at_call 67; refine (times_any cc.1 cc.2 (spV2 a b i (slogB1 z bad p)).1 (spV2 a b i (slogB1 z bad p)).2 (spE2 a b i (slogB1 z bad p)) g10 _ GC.out F1.out.2 has1 has_frozen).mono ?_; rintro e8 w8 ⟨he, hb⟩; replace hb : Below _ (World.setCell _ _ (.bool (spE3 a b i (slogB1 z bad p) cc))) w8 := hb; replace he : e8 = .returned (.agg #[.int .i64 (spV3 a b i (slogB1 z bad p) cc).1, .int .i64 (spV3 a b i (slogB1 z bad p) cc).2]) := he; subst he; haveI := belM hb; clear hb)
                go_wp2_with fail
                refine hK.out _ _ ?hSn1_16 (fun hHeld => ?hRn1_16)
                case hSn1_16 => ((try dsimp only); exact has2)
                clear hK K
                try simp only [Act.put, List.getElem_toArray, List.getElem_cons_zero, List.getElem_cons_succ, List.setIfInBounds_toArray, List.set_cons_zero, List.set_cons_succ]
                refine wpAnyH_ready (rs := [14]) (by kernel_rfl) (by simp) ?_
                refine AllReadyH.cons (o := _) rfl (fun K hK => ?_) AllReadyH.nil
                go_simp
                refine hK.out _ _ ?hSn1_17 (fun hHeld => ?hRn1_17)
                case hSn1_17 => ((try dsimp only); exact has2)
                clear hK K
                try simp only [Act.put, List.getElem_toArray, List.getElem_cons_zero, List.getElem_cons_succ, List.setIfInBounds_toArray, List.set_cons_zero, List.set_cons_succ]
                refine wpAnyH_done (by kernel_rfl) ?_ _
              case' bn1_9 =>
                go_simp
                (go_at_call 65; refine (shInt_any (1 - (i : Int)) _).mono ?_; rintro e8 w8 ⟨rfl, hb⟩; haveI : Bel _ w8 := ⟨hb⟩; clear hb)
                go_wp2_with fail
                refine hK.out _ _ ?hSn1_18 (fun hHeld => ?hRn1_18)
                case hSn1_18 => ((try dsimp only); exact has2)
                clear hK K
                try simp only [Act.put, List.getElem_toArray, List.getElem_cons_zero, List.getElem_cons_succ, List.setIfInBounds_toArray, List.set_cons_zero, List.set_cons_succ]
                refine wpAnyH_ready (rs := [1, 8]) (by kernel_rfl) (by simp) ?_
                refine AllReadyH.cons (o := _) rfl (fun K hK => ?bn1_19) (AllReadyH.cons (o := _) rfl (fun K hK => ?bn1_20) (AllReadyH.nil))
                case' bn1_19 =>
                  go_simp
                  refine hK.out _ _ ?hSn1_21 (fun hHeld => ?hRn1_21)
                  case hSn1_21 => ((try dsimp only); exact has2)
                  clear hK K
                  try simp only [Act.put, List.getElem_toArray, List.getElem_cons_zero, List.getElem_cons_succ, List.setIfInBounds_toArray, List.set_cons_zero, List.set_cons_succ]
                  refine wpAnyH_ready (rs := [8]) (by kernel_rfl) (by simp) ?_
                  refine AllReadyH.cons (o := _) rfl (fun K hK => ?_) AllReadyH.nil
                  go_simp
                  (go_at_call 70; refine (shAdd_any a b (1 - (i : Int)) 1 F0.out.1 F0.out.2.1 _).mono ?_; rintro e8 w8 ⟨rfl, hb⟩; haveI : Bel _ w8 := ⟨hb⟩; clear hb)
                  go_wp2_with fail
                  refine hK.out _ _ ?hSn1_22 (fun hHeld => ?hRn1_22)
                  case hSn1_22 => ((try dsimp only); exact has2)
                  clear hK K
                  try simp only [Act.put, List.getElem_toArray, List.getElem_cons_zero, List.getElem_cons_succ, List.setIfInBounds_toArray, List.set_cons_zero, List.set_cons_succ]
                  refine wpAnyH_ready (rs := [9]) (by kernel_rfl) (by simp) ?_
                  refine AllReadyH.cons (o := _) rfl (fun K hK => ?_) AllReadyH.nil
                  go_simp
                  (go_at_call 69; refine (fraction_any (adN a b (1 - (i : Int)) 1) (adD a b (1 - (i : Int)) 1) (slogB1 z bad p) g10 _ has1 has_frozen).mono ?_; rintro e8 w8 ⟨he, hb⟩; replace hb : Below _ (World.setCell _ _ (.bool (spE1 a b i (slogB1 z bad p)))) w8 := hb; replace he : e8 = .returned (.agg #[.int .i64 (spV1 a b i (slogB1 z bad p)).1, .int .i64 (spV1 a b i (slogB1 z bad p)).2]) := he; subst he; haveI := belM hb; clear hb)
                  go_wp2_with fail
                  refine hK.out _ _ ?hSn1_23 (fun hHeld => ?hRn1_23)
                  case hSn1_23 => ((try dsimp only); exact has2)
                  clear hK K
                  try simp only [Act.put, List.getElem_toArray, List.getElem_cons_zero, List.getElem_cons_succ, List.setIfInBounds_toArray, List.set_cons_zero, List.set_cons_succ]
                  refine wpAnyH_ready (rs := [11]) (by kernel_rfl) (by simp) ?_
                  refine AllReadyH.cons (o := _) rfl (fun K hK => ?_) AllReadyH.nil
                  go_simp
                  (go_at_call 65; refine (shInt_any ((i : Int)) _).mono ?_; rintro e8 w8 ⟨rfl, hb⟩; haveI : Bel _ w8 := ⟨hb⟩; clear hb)
                  go_wp2_with fail
                  refine hK.out _ _ ?hSn1_24 (fun hHeld => ?hRn1_24)
                  case hSn1_24 => ((try dsimp only); exact has2)
                  clear hK K
                  try simp only [Act.put, List.getElem_toArray, List.getElem_cons_zero, List.getElem_cons_succ, List.setIfInBounds_toArray, List.set_cons_zero, List.set_cons_succ]
                  refine wpAnyH_ready (rs := [12]) (by kernel_rfl) (by simp) ?_
                  refine AllReadyH.cons (o := _) rfl (fun K hK => ?_) AllReadyH.nil
                  go_simp
                  (go_at_call 68; refine (over_any (spV1 a b i (slogB1 z bad p)).1 (spV1 a b i (slogB1 z bad p)).2 (i : Int) 1 (spE1 a b i (slogB1 z bad p)) g10 _ F1.out.1 F0.out.2.2.1 F0.out.2.2.2 has1 has_frozen).mono ?_; rintro e8 w8 ⟨he, hb⟩; replace hb : Below _ (World.setCell _ _ (.bool (spE2 a b i (slogB1 z bad p)))) w8 := hb; replace he : e8 = .returned (.agg #[.int .i64 (spV2 a b i (slogB1 z bad p)).1, .int .i64 (spV2 a b i (slogB1 z bad p)).2]) := he; subst he; haveI := belM hb; clear hb)
                  go_wp2_with fail
                  refine hK.out _ _ ?hSn1_25 (fun hHeld => ?hRn1_25)
                  case hSn1_25 => ((try dsimp only); exact has2)
                  clear hK K
                  try simp only [Act.put, List.getElem_toArray, List.getElem_cons_zero, List.getElem_cons_succ, List.setIfInBounds_toArray, List.set_cons_zero, List.set_cons_succ]
                  refine wpAnyH_ready (rs := [13]) (by kernel_rfl) (by simp) ?_
                  refine AllReadyH.cons (o := _) rfl (fun K hK => ?_) AllReadyH.nil
                  go_simp
                  (go_at_call 67; refine (times_any cc.1 cc.2 (spV2 a b i (slogB1 z bad p)).1 (spV2 a b i (slogB1 z bad p)).2 (spE2 a b i (slogB1 z bad p)) g10 _ GC.out F1.out.2 has1 has_frozen).mono ?_; rintro e8 w8 ⟨he, hb⟩; replace hb : Below _ (World.setCell _ _ (.bool (spE3 a b i (slogB1 z bad p) cc))) w8 := hb; replace he : e8 = .returned (.agg #[.int .i64 (spV3 a b i (slogB1 z bad p) cc).1, .int .i64 (spV3 a b i (slogB1 z bad p) cc).2]) := he; subst he; haveI := belM hb; clear hb)
                  go_wp2_with fail
                  refine hK.out _ _ ?hSn1_26 (fun hHeld => ?hRn1_26)
                  case hSn1_26 => ((try dsimp only); exact has2)
                  clear hK K
                  try simp only [Act.put, List.getElem_toArray, List.getElem_cons_zero, List.getElem_cons_succ, List.setIfInBounds_toArray, List.set_cons_zero, List.set_cons_succ]
                  refine wpAnyH_ready (rs := [14]) (by kernel_rfl) (by simp) ?_
                  refine AllReadyH.cons (o := _) rfl (fun K hK => ?_) AllReadyH.nil
                  go_simp
                  refine hK.out _ _ ?hSn1_27 (fun hHeld => ?hRn1_27)
                  case hSn1_27 => ((try dsimp only); exact has2)
                  clear hK K
                  try simp only [Act.put, List.getElem_toArray, List.getElem_cons_zero, List.getElem_cons_succ, List.setIfInBounds_toArray, List.set_cons_zero, List.set_cons_succ]
                  refine wpAnyH_done (by kernel_rfl) ?_ _
                case' bn1_20 =>
                  go_simp
                  (go_at_call 70; refine (shAdd_any a b (1 - (i : Int)) 1 F0.out.1 F0.out.2.1 _).mono ?_; rintro e8 w8 ⟨rfl, hb⟩; haveI : Bel _ w8 := ⟨hb⟩; clear hb)
                  go_wp2_with fail
                  refine hK.out _ _ ?hSn1_28 (fun hHeld => ?hRn1_28)
                  case hSn1_28 => ((try dsimp only); exact has2)
                  clear hK K
                  try simp only [Act.put, List.getElem_toArray, List.getElem_cons_zero, List.getElem_cons_succ, List.setIfInBounds_toArray, List.set_cons_zero, List.set_cons_succ]
                  refine wpAnyH_ready (rs := [1, 9]) (by kernel_rfl) (by simp) ?_
                  refine AllReadyH.cons (o := _) rfl (fun K hK => ?bn1_29) (AllReadyH.cons (o := _) rfl (fun K hK => ?bn1_30) (AllReadyH.nil))
                  case' bn1_29 =>
                    go_simp
                    refine hK.out _ _ ?hSn1_31 (fun hHeld => ?hRn1_31)
                    case hSn1_31 => ((try dsimp only); exact has2)
                    clear hK K
                    try simp only [Act.put, List.getElem_toArray, List.getElem_cons_zero, List.getElem_cons_succ, List.setIfInBounds_toArray, List.set_cons_zero, List.set_cons_succ]
                    refine wpAnyH_ready (rs := [9]) (by kernel_rfl) (by simp) ?_
                    refine AllReadyH.cons (o := _) rfl (fun K hK => ?_) AllReadyH.nil
                    go_simp
                    (go_at_call 69; refine (fraction_any (adN a b (1 - (i : Int)) 1) (adD a b (1 - (i : Int)) 1) (slogB1 z bad p) g10 _ has1 has_frozen).mono ?_; rintro e8 w8 ⟨he, hb⟩; replace hb : Below _ (World.setCell _ _ (.bool (spE1 a b i (slogB1 z bad p)))) w8 := hb; replace he : e8 = .returned (.agg #[.int .i64 (spV1 a b i (slogB1 z bad p)).1, .int .i64 (spV1 a b i (slogB1 z bad p)).2]) := he; subst he; haveI := belM hb; clear hb)
                    go_wp2_with fail
                    refine hK.out _ _ ?hSn1_32 (fun hHeld => ?hRn1_32)
                    case hSn1_32 => ((try dsimp only); exact has2)
                    clear hK K
                    try simp only [Act.put, List.getElem_toArray, List.getElem_cons_zero, List.getElem_cons_succ, List.setIfInBounds_toArray, List.set_cons_zero, List.set_cons_succ]
                    refine wpAnyH_ready (rs := [11]) (by kernel_rfl) (by simp) ?_
                    refine AllReadyH.cons (o := _) rfl (fun K hK => ?_) AllReadyH.nil
                    go_simp
                    (go_at_call 65; refine (shInt_any ((i : Int)) _).mono ?_; rintro e8 w8 ⟨rfl, hb⟩; haveI : Bel _ w8 := ⟨hb⟩; clear hb)
                    go_wp2_with fail
                    refine hK.out _ _ ?hSn1_33 (fun hHeld => ?hRn1_33)
                    case hSn1_33 => ((try dsimp only); exact has2)
                    clear hK K
                    try simp only [Act.put, List.getElem_toArray, List.getElem_cons_zero, List.getElem_cons_succ, List.setIfInBounds_toArray, List.set_cons_zero, List.set_cons_succ]
                    refine wpAnyH_ready (rs := [12]) (by kernel_rfl) (by simp) ?_
                    refine AllReadyH.cons (o := _) rfl (fun K hK => ?_) AllReadyH.nil
                    go_simp
                    (go_at_call 68; refine (over_any (spV1 a b i (slogB1 z bad p)).1 (spV1 a b i (slogB1 z bad p)).2 (i : Int) 1 (spE1 a b i (slogB1 z bad p)) g10 _ F1.out.1 F0.out.2.2.1 F0.out.2.2.2 has1 has_frozen).mono ?_; rintro e8 w8 ⟨he, hb⟩; replace hb : Below _ (World.setCell _ _ (.bool (spE2 a b i (slogB1 z bad p)))) w8 := hb; replace he : e8 = .returned (.agg #[.int .i64 (spV2 a b i (slogB1 z bad p)).1, .int .i64 (spV2 a b i (slogB1 z bad p)).2]) := he; subst he; haveI := belM hb; clear hb)
                    go_wp2_with fail
                    refine hK.out _ _ ?hSn1_34 (fun hHeld => ?hRn1_34)
                    case hSn1_34 => ((try dsimp only); exact has2)
                    clear hK K
                    try simp only [Act.put, List.getElem_toArray, List.getElem_cons_zero, List.getElem_cons_succ, List.setIfInBounds_toArray, List.set_cons_zero, List.set_cons_succ]
                    refine wpAnyH_ready (rs := [13]) (by kernel_rfl) (by simp) ?_
                    refine AllReadyH.cons (o := _) rfl (fun K hK => ?_) AllReadyH.nil
                    go_simp
                    (go_at_call 67; refine (times_any cc.1 cc.2 (spV2 a b i (slogB1 z bad p)).1 (spV2 a b i (slogB1 z bad p)).2 (spE2 a b i (slogB1 z bad p)) g10 _ GC.out F1.out.2 has1 has_frozen).mono ?_; rintro e8 w8 ⟨he, hb⟩; replace hb : Below _ (World.setCell _ _ (.bool (spE3 a b i (slogB1 z bad p) cc))) w8 := hb; replace he : e8 = .returned (.agg #[.int .i64 (spV3 a b i (slogB1 z bad p) cc).1, .int .i64 (spV3 a b i (slogB1 z bad p) cc).2]) := he; subst he; haveI := belM hb; clear hb)
                    go_wp2_with fail
                    refine hK.out _ _ ?hSn1_35 (fun hHeld => ?hRn1_35)
                    case hSn1_35 => ((try dsimp only); exact has2)
                    clear hK K
                    try simp only [Act.put, List.getElem_toArray, List.getElem_cons_zero, List.getElem_cons_succ, List.setIfInBounds_toArray, List.set_cons_zero, List.set_cons_succ]
                    refine wpAnyH_ready (rs := [14]) (by kernel_rfl) (by simp) ?_
                    refine AllReadyH.cons (o := _) rfl (fun K hK => ?_) AllReadyH.nil
                    go_simp
                    refine hK.out _ _ ?hSn1_36 (fun hHeld => ?hRn1_36)
                    case hSn1_36 => ((try dsimp only); exact has2)
                    clear hK K
                    try simp only [Act.put, List.getElem_toArray, List.getElem_cons_zero, List.getElem_cons_succ, List.setIfInBounds_toArray, List.set_cons_zero, List.set_cons_succ]
                    refine wpAnyH_done (by kernel_rfl) ?_ _
                  case' bn1_30 =>
                    go_simp
                    (go_at_call 69; refine (fraction_any (adN a b (1 - (i : Int)) 1) (adD a b (1 - (i : Int)) 1) (slogB1 z bad p) g10 _ has1 has_frozen).mono ?_; rintro e8 w8 ⟨he, hb⟩; replace hb : Below _ (World.setCell _ _ (.bool (spE1 a b i (slogB1 z bad p)))) w8 := hb; replace he : e8 = .returned (.agg #[.int .i64 (spV1 a b i (slogB1 z bad p)).1, .int .i64 (spV1 a b i (slogB1 z bad p)).2]) := he; subst he; haveI := belM hb; clear hb)
                    go_wp2_with fail
                    refine hK.out _ _ ?hSn1_37 (fun hHeld => ?hRn1_37)
                    case hSn1_37 => ((try dsimp only); exact has2)
                    clear hK K
                    try simp only [Act.put, List.getElem_toArray, List.getElem_cons_zero, List.getElem_cons_succ, List.setIfInBounds_toArray, List.set_cons_zero, List.set_cons_succ]
                    refine wpAnyH_ready (rs := [1, 11]) (by kernel_rfl) (by simp) ?_
                    refine AllReadyH.cons (o := _) rfl (fun K hK => ?bn1_38) (AllReadyH.cons (o := _) rfl (fun K hK => ?bn1_39) (AllReadyH.nil))
                    case' bn1_38 =>
                      go_simp
                      refine hK.out _ _ ?hSn1_40 (fun hHeld => ?hRn1_40)
                      case hSn1_40 => ((try dsimp only); exact has2)
                      clear hK K
                      try simp only [Act.put, List.getElem_toArray, List.getElem_cons_zero, List.getElem_cons_succ, List.setIfInBounds_toArray, List.set_cons_zero, List.set_cons_succ]
                      refine wpAnyH_ready (rs := [11]) (by kernel_rfl) (by simp) ?_
                      refine AllReadyH.cons (o := _) rfl (fun K hK => ?_) AllReadyH.nil
                      go_simp
                      (go_at_call 65; refine (shInt_any ((i : Int)) _).mono ?_; rintro e8 w8 ⟨rfl, hb⟩; haveI : Bel _ w8 := ⟨hb⟩; clear hb)
                      go_wp2_with fail
                      refine hK.out _ _ ?hSn1_41 (fun hHeld => ?hRn1_41)
                      case hSn1_41 => ((try dsimp only); exact has2)
                      clear hK K
                      try simp only [Act.put, List.getElem_toArray, List.getElem_cons_zero, List.getElem_cons_succ, List.setIfInBounds_toArray, List.set_cons_zero, List.set_cons_succ]
                      refine wpAnyH_ready (rs := [12]) (by kernel_rfl) (by simp) ?_
                      refine AllReadyH.cons (o := _) rfl (fun K hK => ?_) AllReadyH.nil
                      go_simp
                      (go_at_call 68; refine (over_any (spV1 a b i (slogB1 z bad p)).1 (spV1 a b i (slogB1 z bad p)).2 (i : Int) 1 (spE1 a b i (slogB1 z bad p)) g10 _ F1.out.1 F0.out.2.2.1 F0.out.2.2.2 has1 has_frozen).mono ?_; rintro e8 w8 ⟨he, hb⟩; replace hb : Below _ (World.setCell _ _ (.bool (spE2 a b i (slogB1 z bad p)))) w8 := hb; replace he : e8 = .returned (.agg #[.int .i64 (spV2 a b i (slogB1 z bad p)).1, .int .i64 (spV2 a b i (slogB1 z bad p)).2]) := he; subst he; haveI := belM hb; clear hb)
                      go_wp2_with fail
                      refine hK.out _ _ ?hSn1_42 (fun hHeld => ?hRn1_42)
                      case hSn1_42 => ((try dsimp only); exact has2)
                      clear hK K
                      try simp only [Act.put, List.getElem_toArray, List.getElem_cons_zero, List.getElem_cons_succ, List.setIfInBounds_toArray, List.set_cons_zero, List.set_cons_succ]
                      refine wpAnyH_ready (rs := [13]) (by kernel_rfl) (by simp) ?_
                      refine AllReadyH.cons (o := _) rfl (fun K hK => ?_) AllReadyH.nil
                      go_simp
                      (go_at_call 67; refine (times_any cc.1 cc.2 (spV2 a b i (slogB1 z bad p)).1 (spV2 a b i (slogB1 z bad p)).2 (spE2 a b i (slogB1 z bad p)) g10 _ GC.out F1.out.2 has1 has_frozen).mono ?_; rintro e8 w8 ⟨he, hb⟩; replace hb : Below _ (World.setCell _ _ (.bool (spE3 a b i (slogB1 z bad p) cc))) w8 := hb; replace he : e8 = .returned (.agg #[.int .i64 (spV3 a b i (slogB1 z bad p) cc).1, .int .i64 (spV3 a b i (slogB1 z bad p) cc).2]) := he; subst he; haveI := belM hb; clear hb)
                      go_wp2_with fail
                      refine hK.out _ _ ?hSn1_43 (fun hHeld => ?hRn1_43)
                      case hSn1_43 => ((try dsimp only); exact has2)
                      clear hK K
                      try simp only [Act.put, List.getElem_toArray, List.getElem_cons_zero, List.getElem_cons_succ, List.setIfInBounds_toArray, List.set_cons_zero, List.set_cons_succ]
                      refine wpAnyH_ready (rs := [14]) (by kernel_rfl) (by simp) ?_
                      refine AllReadyH.cons (o := _) rfl (fun K hK => ?_) AllReadyH.nil
                      go_simp
                      refine hK.out _ _ ?hSn1_44 (fun hHeld => ?hRn1_44)
                      case hSn1_44 => ((try dsimp only); exact has2)
                      clear hK K
                      try simp only [Act.put, List.getElem_toArray, List.getElem_cons_zero, List.getElem_cons_succ, List.setIfInBounds_toArray, List.set_cons_zero, List.set_cons_succ]
                      refine wpAnyH_done (by kernel_rfl) ?_ _
                    case' bn1_39 =>
                      go_simp
                      (go_at_call 65; refine (shInt_any ((i : Int)) _).mono ?_; rintro e8 w8 ⟨rfl, hb⟩; haveI : Bel _ w8 := ⟨hb⟩; clear hb)
                      go_wp2_with fail
                      refine hK.out _ _ ?hSn1_45 (fun hHeld => ?hRn1_45)
                      case hSn1_45 => ((try dsimp only); exact has2)
                      clear hK K
                      try simp only [Act.put, List.getElem_toArray, List.getElem_cons_zero, List.getElem_cons_succ, List.setIfInBounds_toArray, List.set_cons_zero, List.set_cons_succ]
                      refine wpAnyH_ready (rs := [1, 12]) (by kernel_rfl) (by simp) ?_
                      refine AllReadyH.cons (o := _) rfl (fun K hK => ?bn1_46) (AllReadyH.cons (o := _) rfl (fun K hK => ?bn1_47) (AllReadyH.nil))
                      case' bn1_46 =>
                        go_simp
                        refine hK.out _ _ ?hSn1_48 (fun hHeld => ?hRn1_48)
                        case hSn1_48 => ((try dsimp only); exact has2)
                        clear hK K
                        try simp only [Act.put, List.getElem_toArray, List.getElem_cons_zero, List.getElem_cons_succ, List.setIfInBounds_toArray, List.set_cons_zero, List.set_cons_succ]
                        refine wpAnyH_ready (rs := [12]) (by kernel_rfl) (by simp) ?_
                        refine AllReadyH.cons (o := _) rfl (fun K hK => ?_) AllReadyH.nil
                        go_simp
                        (go_at_call 68; refine (over_any (spV1 a b i (slogB1 z bad p)).1 (spV1 a b i (slogB1 z bad p)).2 (i : Int) 1 (spE1 a b i (slogB1 z bad p)) g10 _ F1.out.1 F0.out.2.2.1 F0.out.2.2.2 has1 has_frozen).mono ?_; rintro e8 w8 ⟨he, hb⟩; replace hb : Below _ (World.setCell _ _ (.bool (spE2 a b i (slogB1 z bad p)))) w8 := hb; replace he : e8 = .returned (.agg #[.int .i64 (spV2 a b i (slogB1 z bad p)).1, .int .i64 (spV2 a b i (slogB1 z bad p)).2]) := he; subst he; haveI := belM hb; clear hb)
                        go_wp2_with fail
                        refine hK.out _ _ ?hSn1_49 (fun hHeld => ?hRn1_49)
                        case hSn1_49 => ((try dsimp only); exact has2)
                        clear hK K
                        try simp only [Act.put, List.getElem_toArray, List.getElem_cons_zero, List.getElem_cons_succ, List.setIfInBounds_toArray, List.set_cons_zero, List.set_cons_succ]
                        refine wpAnyH_ready (rs := [13]) (by kernel_rfl) (by simp) ?_
                        refine AllReadyH.cons (o := _) rfl (fun K hK => ?_) AllReadyH.nil
                        go_simp
                        (go_at_call 67; refine (times_any cc.1 cc.2 (spV2 a b i (slogB1 z bad p)).1 (spV2 a b i (slogB1 z bad p)).2 (spE2 a b i (slogB1 z bad p)) g10 _ GC.out F1.out.2 has1 has_frozen).mono ?_; rintro e8 w8 ⟨he, hb⟩; replace hb : Below _ (World.setCell _ _ (.bool (spE3 a b i (slogB1 z bad p) cc))) w8 := hb; replace he : e8 = .returned (.agg #[.int .i64 (spV3 a b i (slogB1 z bad p) cc).1, .int .i64 (spV3 a b i (slogB1 z bad p) cc).2]) := he; subst he; haveI := belM hb; clear hb)
                        go_wp2_with fail
                        refine hK.out _ _ ?hSn1_50 (fun hHeld => ?hRn1_50)
                        case hSn1_50 => ((try dsimp only); exact has2)
                        clear hK K
                        try simp only [Act.put, List.getElem_toArray, List.getElem_cons_zero, List.getElem_cons_succ, List.setIfInBounds_toArray, List.set_cons_zero, List.set_cons_succ]
                        refine wpAnyH_ready (rs := [14]) (by kernel_rfl) (by simp) ?_
                        refine AllReadyH.cons (o := _) rfl (fun K hK => ?_) AllReadyH.nil
                        go_simp
                        refine hK.out _ _ ?hSn1_51 (fun hHeld => ?hRn1_51)
                        case hSn1_51 => ((try dsimp only); exact has2)
                        clear hK K
                        try simp only [Act.put, List.getElem_toArray, List.getElem_cons_zero, List.getElem_cons_succ, List.setIfInBounds_toArray, List.set_cons_zero, List.set_cons_succ]
                        refine wpAnyH_done (by kernel_rfl) ?_ _
                      case' bn1_47 =>
                        go_simp
                        (go_at_call 68; refine (over_any (spV1 a b i (slogB1 z bad p)).1 (spV1 a b i (slogB1 z bad p)).2 (i : Int) 1 (spE1 a b i (slogB1 z bad p)) g10 _ F1.out.1 F0.out.2.2.1 F0.out.2.2.2 has1 has_frozen).mono ?_; rintro e8 w8 ⟨he, hb⟩; replace hb : Below _ (World.setCell _ _ (.bool (spE2 a b i (slogB1 z bad p)))) w8 := hb; replace he : e8 = .returned (.agg #[.int .i64 (spV2 a b i (slogB1 z bad p)).1, .int .i64 (spV2 a b i (slogB1 z bad p)).2]) := he; subst he; haveI := belM hb; clear hb)
                        go_wp2_with fail
                        refine hK.out _ _ ?hSn1_52 (fun hHeld => ?hRn1_52)
                        case hSn1_52 => ((try dsimp only); exact has2)
                        clear hK K
                        try simp only [Act.put, List.getElem_toArray, List.getElem_cons_zero, List.getElem_cons_succ, List.setIfInBounds_toArray, List.set_cons_zero, List.set_cons_succ]
                        refine wpAnyH_ready (rs := [1]) (by kernel_rfl) (by simp) ?_
                        refine AllReadyH.cons (o := _) rfl (fun K hK => ?_) AllReadyH.nil
                        go_simp
                        refine hK.out _ _ ?hSn1_53 (fun hHeld => ?hRn1_53)
                        case hSn1_53 => ((try dsimp only); exact has2)
                        clear hK K
                        try simp only [Act.put, List.getElem_toArray, List.getElem_cons_zero, List.getElem_cons_succ, List.setIfInBounds_toArray, List.set_cons_zero, List.set_cons_succ]
                        refine wpAnyH_ready (rs := [13]) (by kernel_rfl) (by simp) ?_
                        refine AllReadyH.cons (o := _) rfl (fun K hK => ?_) AllReadyH.nil
                        go_simp
                        (go_at_call 67; refine (times_any cc.1 cc.2 (spV2 a b i (slogB1 z bad p)).1 (spV2 a b i (slogB1 z bad p)).2 (spE2 a b i (slogB1 z bad p)) g10 _ GC.out F1.out.2 has1 has_frozen).mono ?_; rintro e8 w8 ⟨he, hb⟩; replace hb : Below _ (World.setCell _ _ (.bool (spE3 a b i (slogB1 z bad p) cc))) w8 := hb; replace he : e8 = .returned (.agg #[.int .i64 (spV3 a b i (slogB1 z bad p) cc).1, .int .i64 (spV3 a b i (slogB1 z bad p) cc).2]) := he; subst he; haveI := belM hb; clear hb)
                        go_wp2_with fail
                        refine hK.out _ _ ?hSn1_54 (fun hHeld => ?hRn1_54)
                        case hSn1_54 => ((try dsimp only); exact has2)
                        clear hK K
                        try simp only [Act.put, List.getElem_toArray, List.getElem_cons_zero, List.getElem_cons_succ, List.setIfInBounds_toArray, List.set_cons_zero, List.set_cons_succ]
                        refine wpAnyH_ready (rs := [14]) (by kernel_rfl) (by simp) ?_
                        refine AllReadyH.cons (o := _) rfl (fun K hK => ?_) AllReadyH.nil
                        go_simp
                        refine hK.out _ _ ?hSn1_55 (fun hHeld => ?hRn1_55)
                        case hSn1_55 => ((try dsimp only); exact has2)
                        clear hK K
                        try simp only [Act.put, List.getElem_toArray, List.getElem_cons_zero, List.getElem_cons_succ, List.setIfInBounds_toArray, List.set_cons_zero, List.set_cons_succ]
                        refine wpAnyH_done (by kernel_rfl) ?_ _
              all_goals
                go_wp2
                go_meet
                exact ⟨rfl, inferInstance, inferInstance, kp _ _ _⟩
            case rest =>
              obtain ⟨rfl, _, _, _⟩ := hcut
              have GP1 : Hid (sGood (slogP z bad p) = true) := slogP_good z bad p
              have GC1 : Hid (FOk (spV3 a b i (slogB1 z bad p) cc).1 (spV3 a b i (slogB1 z bad p) cc).2) := frV_ok _ _ _
              generalize slogP z bad p = p1 at *
              generalize spV3 a b i (slogB1 z bad p) cc = c1 at *
              generalize spE3 a b i (slogB1 z bad p) cc = b1 at *
              go_wp2
              refine wp_region_held_drew (S := (fun w' => w'.cell? ⟨g12, 0, none⟩ = some (.slice A7 p1.len c7) ∧ w'.cell? ⟨g13, 0, none⟩ = some (.int .i64 c1.1) ∧ w'.cell? ⟨g13, 1, none⟩ = some (.int .i64 c1.2))) (by kernel_rfl) ?hSn2_ (fun hHeld => ?hRn2_)
              case hSn2_ => (exact ⟨has1, has2.1, has2.2⟩)
              refine wpAnyH_take (i := 0) (oi := _) (v := ?vn2_1) rfl (by kernel_rfl) (by kernel_rfl) (by kernel_rfl) (fun _ _ _ h => h) (Or.inl ⟨by rfl, ?hyn2_1⟩) (by assumption) ?hRn2_1
              case hyn2_1 => (intro w hSw; (try dsimp only at hSw); go_simp; (try with_reducible rfl))
              try simp only [Act.put, List.getElem_toArray, List.getElem_cons_zero, List.getElem_cons_succ, List.setIfInBounds_toArray, List.set_cons_zero, List.set_cons_succ]
              refine wpAnyH_take (i := 2) (oi := _) (v := ?vn2_2) rfl (by kernel_rfl) (by kernel_rfl) (by kernel_rfl) (fun _ _ _ h => h) (Or.inl ⟨by rfl, ?hyn2_2⟩) (by assumption) ?hRn2_2
              case hyn2_2 => (intro w hSw; (try dsimp only at hSw); go_simp; (try with_reducible rfl))
              try simp only [Act.put, List.getElem_toArray, List.getElem_cons_zero, List.getElem_cons_succ, List.setIfInBounds_toArray, List.set_cons_zero, List.set_cons_succ]
              refine wpAnyH_take (i := 3) (oi := _) (v := ?vn2_3) rfl (by kernel_rfl) (by kernel_rfl) (by kernel_rfl) (fun _ _ _ h => h) (Or.inl ⟨by rfl, ?hyn2_3⟩) (by assumption) ?hRn2_3
              case hyn2_3 => (intro w hSw; (try dsimp only at hSw); go_simp; (try with_reducible rfl))
              try simp only [Act.put, List.getElem_toArray, List.getElem_cons_zero, List.getElem_cons_succ, List.setIfInBounds_toArray, List.set_cons_zero, List.set_cons_succ]
              refine wpAnyH_take (i := 4) (oi := _) (v := ?vn2_4) rfl (by kernel_rfl) (by kernel_rfl) (by kernel_rfl) (fun _ _ _ h => h) (Or.inl ⟨by rfl, ?hyn2_4⟩) (by assumption) ?hRn2_4
              case hyn2_4 => (intro w hSw; (try dsimp only at hSw); go_simp; (try with_reducible rfl))
              try simp only [Act.put, List.getElem_toArray, List.getElem_cons_zero, List.getElem_cons_succ, List.setIfInBounds_toArray, List.set_cons_zero, List.set_cons_succ]
              refine wpAnyH_ready (rs := [1, 5]) (by kernel_rfl) (by simp) ?_
              refine AllReadyH.cons (o := _) rfl (fun K hK => ?bn2_5) (AllReadyH.cons (o := _) rfl (fun K hK => ?bn2_6) (AllReadyH.nil))
              case' bn2_5 =>
                go_simp
                refine hK.out _ _ ?hSn2_7 (fun hHeld => ?hRn2_7)
                case hSn2_7 => ((try dsimp only); exact ⟨has1, has2.1, has2.2⟩)
                clear hK K
                try simp only [Act.put, List.getElem_toArray, List.getElem_cons_zero, List.getElem_cons_succ, List.setIfInBounds_toArray, List.set_cons_zero, List.set_cons_succ]
                refine wpAnyH_ready (rs := [5]) (by kernel_rfl) (by simp) ?_
                refine AllReadyH.cons (o := _) rfl (fun K hK => ?_) AllReadyH.nil
                go_simp
                (go_at_call 72; refine (kscale_any p1 c1.1 c1.2 b1 g10 _ _ _ _ (tr _ A7) GP1.out GC1.out has1 has_frozen).mono ?_; rintro e9 w9 ⟨A9, c9, he, hf, hb⟩; replace hb : Below _ (World.setCell _ _ (.bool (spB2 b1 p1 c1))) w9 := hb; replace he : e9 = .returned (.agg #[.slice A9 (spT b1 p1 c1).len c9]) := he; replace hf : SFresh _ w9 (spT b1 p1 c1) A9 c9 := hf; subst he; haveI := belM hb; haveI := Fs.of hf; clear hf hb)
                go_wp2_with fail
                refine hK.out _ _ ?hSn2_8 (fun hHeld => ?hRn2_8)
                case hSn2_8 => ((try dsimp only); exact ⟨has1, has2.1, has2.2⟩)
                clear hK K
                try simp only [Act.put, List.getElem_toArray, List.getElem_cons_zero, List.getElem_cons_succ, List.setIfInBounds_toArray, List.set_cons_zero, List.set_cons_succ]
                refine wpAnyH_ready (rs := [6]) (by kernel_rfl) (by simp) ?_
                refine AllReadyH.cons (o := _) rfl (fun K hK => ?_) AllReadyH.nil
                go_simp
                (go_at_call 71; refine (kadd_any out (spT b1 p1 c1) _ g10 _ _ _ _ _ _ _ (tr _ Ao) (tr _ A9) GO.out (keepS_good fun _ h => prodS_good h) has1 has_frozen).mono ?_; rintro e5 w10 ⟨A5, c5, he, hf, hb⟩; replace hb : Below _ (World.setCell _ _ (.bool (spB3 b1 out p1 c1))) w10 := hb; replace he : e5 = .returned (.agg #[.slice A5 (spOut b1 out p1 c1).len c5]) := he; replace hf : SFresh _ w10 (spOut b1 out p1 c1) A5 c5 := hf; subst he; haveI := belM hb; haveI := Fs.of hf; clear hf hb)
                go_wp2_with fail
                refine hK.out _ _ ?hSn2_9 (fun hHeld => ?hRn2_9)
                case hSn2_9 => ((try dsimp only); exact ⟨has1, has2.1, has2.2⟩)
                clear hK K
                try simp only [Act.put, List.getElem_toArray, List.getElem_cons_zero, List.getElem_cons_succ, List.setIfInBounds_toArray, List.set_cons_zero, List.set_cons_succ]
                refine wpAnyH_ready (rs := [7]) (by kernel_rfl) (by simp) ?_
                refine AllReadyH.cons (o := _) rfl (fun K hK => ?_) AllReadyH.nil
                go_simp
                refine hK.out _ _ ?hSn2_10 (fun hHeld => ?hRn2_10)
                case hSn2_10 => ((try dsimp only); exact ⟨has1, has2.1, has2.2⟩)
                clear hK K
                try simp only [Act.put, List.getElem_toArray, List.getElem_cons_zero, List.getElem_cons_succ, List.setIfInBounds_toArray, List.set_cons_zero, List.set_cons_succ]
                refine wpAnyH_done (by kernel_rfl) ?_ _
              case' bn2_6 =>
                go_simp
                (go_at_call 72; refine (kscale_any p1 c1.1 c1.2 b1 g10 _ _ _ _ (tr _ A7) GP1.out GC1.out has1 has_frozen).mono ?_; rintro e9 w9 ⟨A9, c9, he, hf, hb⟩; replace hb : Below _ (World.setCell _ _ (.bool (spB2 b1 p1 c1))) w9 := hb; replace he : e9 = .returned (.agg #[.slice A9 (spT b1 p1 c1).len c9]) := he; replace hf : SFresh _ w9 (spT b1 p1 c1) A9 c9 := hf; subst he; haveI := belM hb; haveI := Fs.of hf; clear hf hb)
                go_wp2_with fail
                refine hK.out _ _ ?hSn2_11 (fun hHeld => ?hRn2_11)
                case hSn2_11 => ((try dsimp only); exact ⟨has1, has2.1, has2.2⟩)
                clear hK K
                try simp only [Act.put, List.getElem_toArray, List.getElem_cons_zero, List.getElem_cons_succ, List.setIfInBounds_toArray, List.set_cons_zero, List.set_cons_succ]
                refine wpAnyH_ready (rs := [1]) (by kernel_rfl) (by simp) ?_
                refine AllReadyH.cons (o := _) rfl (fun K hK => ?_) AllReadyH.nil
                go_simp
                refine hK.out _ _ ?hSn2_12 (fun hHeld => ?hRn2_12)
                case hSn2_12 => ((try dsimp only); exact ⟨has1, has2.1, has2.2⟩)
                clear hK K
                try simp only [Act.put, List.getElem_toArray, List.getElem_cons_zero, List.getElem_cons_succ, List.setIfInBounds_toArray, List.set_cons_zero, List.set_cons_succ]
                refine wpAnyH_ready (rs := [6]) (by kernel_rfl) (by simp) ?_
                refine AllReadyH.cons (o := _) rfl (fun K hK => ?_) AllReadyH.nil
                go_simp
                (go_at_call 71; refine (kadd_any out (spT b1 p1 c1) _ g10 _ _ _ _ _ _ _ (tr _ Ao) (tr _ A9) GO.out (keepS_good fun _ h => prodS_good h) has1 has_frozen).mono ?_; rintro e5 w10 ⟨A5, c5, he, hf, hb⟩; replace hb : Below _ (World.setCell _ _ (.bool (spB3 b1 out p1 c1))) w10 := hb; replace he : e5 = .returned (.agg #[.slice A5 (spOut b1 out p1 c1).len c5]) := he; replace hf : SFresh _ w10 (spOut b1 out p1 c1) A5 c5 := hf; subst he; haveI := belM hb; haveI := Fs.of hf; clear hf hb)
                go_wp2_with fail
                refine hK.out _ _ ?hSn2_13 (fun hHeld => ?hRn2_13)
                case hSn2_13 => ((try dsimp only); exact ⟨has1, has2.1, has2.2⟩)
                clear hK K
                try simp only [Act.put, List.getElem_toArray, List.getElem_cons_zero, List.getElem_cons_succ, List.setIfInBounds_toArray, List.set_cons_zero, List.set_cons_succ]
                refine wpAnyH_ready (rs := [7]) (by kernel_rfl) (by simp) ?_
                refine AllReadyH.cons (o := _) rfl (fun K hK => ?_) AllReadyH.nil
                go_simp
                refine hK.out _ _ ?hSn2_14 (fun hHeld => ?hRn2_14)
                case hSn2_14 => ((try dsimp only); exact ⟨has1, has2.1, has2.2⟩)
                clear hK K
                try simp only [Act.put, List.getElem_toArray, List.getElem_cons_zero, List.getElem_cons_succ, List.setIfInBounds_toArray, List.set_cons_zero, List.set_cons_succ]
                refine wpAnyH_done (by kernel_rfl) ?_ _
              all_goals
                go_wp2
                exact ⟨⟨i + 1, _, A5, c5, _, A7, c7, p1, c1, by go_num, by omega, inferInstance, inferInstance, inferInstance, inferInstance, Tr.lp (XU (XE g10) (XU (XE g11) (XU (XE g12) (XE g13)))), Fs.lp, kp _ _ _, GP1, GC1, spOut_good _ _ _ _, spOut_nil _ _ _ _, by rw [HN.out, HP.out.1, HP.out.2.1, HP.out.2.2]; rfl⟩, by simp [intOf]; omega⟩
          · have HP : Hid (spP z bad p i = p ∧ spC z a b bad p i cc = cc ∧ spB z a b bad p i cc = bad) := Lib.hid ⟨if_neg h1, if_neg h1, if_neg h1⟩
            have GP1 := GP
            have GC1 := GC
            go_wp2
            refine wp_region_held_drew (S := (fun w' => w'.cell? ⟨g12, 0, none⟩ = some (.slice Ap p.len cp) ∧ w'.cell? ⟨g13, 0, none⟩ = some (.int .i64 cc.1) ∧ w'.cell? ⟨g13, 1, none⟩ = some (.int .i64 cc.2))) (by kernel_rfl) ?hSn3_ (fun hHeld => ?hRn3_)
            case hSn3_ => (exact ⟨has1, has2.1, has2.2⟩)
            refine wpAnyH_take (i := 0) (oi := _) (v := ?vn3_1) rfl (by kernel_rfl) (by kernel_rfl) (by kernel_rfl) (fun _ _ _ h => h) (Or.inl ⟨by rfl, ?hyn3_1⟩) (by assumption) ?hRn3_1
            case hyn3_1 => (intro w hSw; (try dsimp only at hSw); go_simp; (try with_reducible rfl))
            try simp only [Act.put, List.getElem_toArray, List.getElem_cons_zero, List.getElem_cons_succ, List.setIfInBounds_toArray, List.set_cons_zero, List.set_cons_succ]
            refine wpAnyH_take (i := 2) (oi := _) (v := ?vn3_2) rfl (by kernel_rfl) (by kernel_rfl) (by kernel_rfl) (fun _ _ _ h => h) (Or.inl ⟨by rfl, ?hyn3_2⟩) (by assumption) ?hRn3_2
            case hyn3_2 => (intro w hSw; (try dsimp only at hSw); go_simp; (try with_reducible rfl))
            try simp only [Act.put, List.getElem_toArray, List.getElem_cons_zero, List.getElem_cons_succ, List.setIfInBounds_toArray, List.set_cons_zero, List.set_cons_succ]
            refine wpAnyH_take (i := 3) (oi := _) (v := ?vn3_3) rfl (by kernel_rfl) (by kernel_rfl) (by kernel_rfl) (fun _ _ _ h => h) (Or.inl ⟨by rfl, ?hyn3_3⟩) (by assumption) ?hRn3_3
            case hyn3_3 => (intro w hSw; (try dsimp only at hSw); go_simp; (try with_reducible rfl))
            try simp only [Act.put, List.getElem_toArray, List.getElem_cons_zero, List.getElem_cons_succ, List.setIfInBounds_toArray, List.set_cons_zero, List.set_cons_succ]
            refine wpAnyH_take (i := 4) (oi := _) (v := ?vn3_4) rfl (by kernel_rfl) (by kernel_rfl) (by kernel_rfl) (fun _ _ _ h => h) (Or.inl ⟨by rfl, ?hyn3_4⟩) (by assumption) ?hRn3_4
            case hyn3_4 => (intro w hSw; (try dsimp only at hSw); go_simp; (try with_reducible rfl))
            try simp only [Act.put, List.getElem_toArray, List.getElem_cons_zero, List.getElem_cons_succ, List.setIfInBounds_toArray, List.set_cons_zero, List.set_cons_succ]
            refine wpAnyH_ready (rs := [1, 5]) (by kernel_rfl) (by simp) ?_
            refine AllReadyH.cons (o := _) rfl (fun K hK => ?bn3_5) (AllReadyH.cons (o := _) rfl (fun K hK => ?bn3_6) (AllReadyH.nil))
            case' bn3_5 =>
              go_simp
              refine hK.out _ _ ?hSn3_7 (fun hHeld => ?hRn3_7)
              case hSn3_7 => ((try dsimp only); exact ⟨has1, has2.1, has2.2⟩)
              clear hK K
              try simp only [Act.put, List.getElem_toArray, List.getElem_cons_zero, List.getElem_cons_succ, List.setIfInBounds_toArray, List.set_cons_zero, List.set_cons_succ]
              refine wpAnyH_ready (rs := [5]) (by kernel_rfl) (by simp) ?_
              refine AllReadyH.cons (o := _) rfl (fun K hK => ?_) AllReadyH.nil
              go_simp
              (go_at_call 72; refine (kscale_any p cc.1 cc.2 bad g10 _ _ _ _ (tr _ Ap) GP1.out GC1.out has1 has_frozen).mono ?_; rintro e9 w9 ⟨A9, c9, he, hf, hb⟩; replace hb : Below _ (World.setCell _ _ (.bool (spB2 bad p cc))) w9 := hb; replace he : e9 = .returned (.agg #[.slice A9 (spT bad p cc).len c9]) := he; replace hf : SFresh _ w9 (spT bad p cc) A9 c9 := hf; subst he; haveI := belM hb; haveI := Fs.of hf; clear hf hb)
              go_wp2_with fail
              refine hK.out _ _ ?hSn3_8 (fun hHeld => ?hRn3_8)
              case hSn3_8 => ((try dsimp only); exact ⟨has1, has2.1, has2.2⟩)
              clear hK K
              try simp only [Act.put, List.getElem_toArray, List.getElem_cons_zero, List.getElem_cons_succ, List.setIfInBounds_toArray, List.set_cons_zero, List.set_cons_succ]
              refine wpAnyH_ready (rs := [6]) (by kernel_rfl) (by simp) ?_
              refine AllReadyH.cons (o := _) rfl (fun K hK => ?_) AllReadyH.nil
              go_simp
              (go_at_call 71; refine (kadd_any out (spT bad p cc) _ g10 _ _ _ _ _ _ _ (tr _ Ao) (tr _ A9) GO.out (keepS_good fun _ h => prodS_good h) has1 has_frozen).mono ?_; rintro e5 w10 ⟨A5, c5, he, hf, hb⟩; replace hb : Below _ (World.setCell _ _ (.bool (spB3 bad out p cc))) w10 := hb; replace he : e5 = .returned (.agg #[.slice A5 (spOut bad out p cc).len c5]) := he; replace hf : SFresh _ w10 (spOut bad out p cc) A5 c5 := hf; subst he; haveI := belM hb; haveI := Fs.of hf; clear hf hb)
              go_wp2_with fail
              refine hK.out _ _ ?hSn3_9 (fun hHeld => ?hRn3_9)
              case hSn3_9 => ((try dsimp only); exact ⟨has1, has2.1, has2.2⟩)
              clear hK K
              try simp only [Act.put, List.getElem_toArray, List.getElem_cons_zero, List.getElem_cons_succ, List.setIfInBounds_toArray, List.set_cons_zero, List.set_cons_succ]
              refine wpAnyH_ready (rs := [7]) (by kernel_rfl) (by simp) ?_
              refine AllReadyH.cons (o := _) rfl (fun K hK => ?_) AllReadyH.nil
              go_simp
              refine hK.out _ _ ?hSn3_10 (fun hHeld => ?hRn3_10)
              case hSn3_10 => ((try dsimp only); exact ⟨has1, has2.1, has2.2⟩)
              clear hK K
              try simp only [Act.put, List.getElem_toArray, List.getElem_cons_zero, List.getElem_cons_succ, List.setIfInBounds_toArray, List.set_cons_zero, List.set_cons_succ]
              refine wpAnyH_done (by kernel_rfl) ?_ _
            case' bn3_6 =>
              go_simp
              (go_at_call 72; refine (kscale_any p cc.1 cc.2 bad g10 _ _ _ _ (tr _ Ap) GP1.out GC1.out has1 has_frozen).mono ?_; rintro e9 w9 ⟨A9, c9, he, hf, hb⟩; replace hb : Below _ (World.setCell _ _ (.bool (spB2 bad p cc))) w9 := hb; replace he : e9 = .returned (.agg #[.slice A9 (spT bad p cc).len c9]) := he; replace hf : SFresh _ w9 (spT bad p cc) A9 c9 := hf; subst he; haveI := belM hb; haveI := Fs.of hf; clear hf hb)
              go_wp2_with fail
              refine hK.out _ _ ?hSn3_11 (fun hHeld => ?hRn3_11)
              case hSn3_11 => ((try dsimp only); exact ⟨has1, has2.1, has2.2⟩)
              clear hK K
              try simp only [Act.put, List.getElem_toArray, List.getElem_cons_zero, List.getElem_cons_succ, List.setIfInBounds_toArray, List.set_cons_zero, List.set_cons_succ]
              refine wpAnyH_ready (rs := [1]) (by kernel_rfl) (by simp) ?_
              refine AllReadyH.cons (o := _) rfl (fun K hK => ?_) AllReadyH.nil
              go_simp
              refine hK.out _ _ ?hSn3_12 (fun hHeld => ?hRn3_12)
              case hSn3_12 => ((try dsimp only); exact ⟨has1, has2.1, has2.2⟩)
              clear hK K
              try simp only [Act.put, List.getElem_toArray, List.getElem_cons_zero, List.getElem_cons_succ, List.setIfInBounds_toArray, List.set_cons_zero, List.set_cons_succ]
              refine wpAnyH_ready (rs := [6]) (by kernel_rfl) (by simp) ?_
              refine AllReadyH.cons (o := _) rfl (fun K hK => ?_) AllReadyH.nil
              go_simp
              (go_at_call 71; refine (kadd_any out (spT bad p cc) _ g10 _ _ _ _ _ _ _ (tr _ Ao) (tr _ A9) GO.out (keepS_good fun _ h => prodS_good h) has1 has_frozen).mono ?_; rintro e5 w10 ⟨A5, c5, he, hf, hb⟩; replace hb : Below _ (World.setCell _ _ (.bool (spB3 bad out p cc))) w10 := hb; replace he : e5 = .returned (.agg #[.slice A5 (spOut bad out p cc).len c5]) := he; replace hf : SFresh _ w10 (spOut bad out p cc) A5 c5 := hf; subst he; haveI := belM hb; haveI := Fs.of hf; clear hf hb)
              go_wp2_with fail
              refine hK.out _ _ ?hSn3_13 (fun hHeld => ?hRn3_13)
              case hSn3_13 => ((try dsimp only); exact ⟨has1, has2.1, has2.2⟩)
              clear hK K
              try simp only [Act.put, List.getElem_toArray, List.getElem_cons_zero, List.getElem_cons_succ, List.setIfInBounds_toArray, List.set_cons_zero, List.set_cons_succ]
              refine wpAnyH_ready (rs := [7]) (by kernel_rfl) (by simp) ?_
              refine AllReadyH.cons (o := _) rfl (fun K hK => ?_) AllReadyH.nil
              go_simp
              refine hK.out _ _ ?hSn3_14 (fun hHeld => ?hRn3_14)
              case hSn3_14 => ((try dsimp only); exact ⟨has1, has2.1, has2.2⟩)
              clear hK K
              try simp only [Act.put, List.getElem_toArray, List.getElem_cons_zero, List.getElem_cons_succ, List.setIfInBounds_toArray, List.set_cons_zero, List.set_cons_succ]
              refine wpAnyH_done (by kernel_rfl) ?_ _
            all_goals
              go_wp2
              exact ⟨⟨i + 1, _, A5, c5, _, Ap, cp, p, cc, by go_num, by omega, inferInstance, inferInstance, inferInstance, inferInstance, Tr.lp (XU (XE g10) (XU (XE g11) (XU (XE g12) (XE g13)))), Fs.lp, kp _ _ _, GP1, GC1, spOut_good _ _ _ _, spOut_nil _ _ _ _, by rw [HN.out, HP.out.1, HP.out.2.1, HP.out.2.2]; rfl⟩, by simp [intOf]; omega⟩
        · have HE := Lib.hid (HS.out.trans (spowGo_stop z n a b _ _ _ _ _ _ hgo))
          clear HS
          go_wp2
          refine wp_region_held_drew (S := (fun w' => w'.cell? ⟨g11, 0, none⟩ = some (.slice Ao out.len co) ∧ w'.cell? ⟨g10, 0, none⟩ = some (.bool bad))) (by kernel_rfl) ?hSn4_ (fun hHeld => ?hRn4_)
          case hSn4_ => (exact ⟨has1, has1⟩)
          refine wpAnyH_take (i := 0) (oi := _) (v := ?vn4_1) rfl (by kernel_rfl) (by kernel_rfl) (by kernel_rfl) (fun _ _ _ h => h) (Or.inl ⟨by rfl, ?hyn4_1⟩) (by assumption) ?hRn4_1
          case hyn4_1 => (intro w hSw; (try dsimp only at hSw); go_simp; (try with_reducible rfl))
          try simp only [Act.put, List.getElem_toArray, List.getElem_cons_zero, List.getElem_cons_succ, List.setIfInBounds_toArray, List.set_cons_zero, List.set_cons_succ]
          refine wpAnyH_take (i := 1) (oi := _) (v := ?vn4_2) rfl (by kernel_rfl) (by kernel_rfl) (by kernel_rfl) (fun _ _ _ h => h) (Or.inl ⟨by rfl, ?hyn4_2⟩) (by assumption) ?hRn4_2
          case hyn4_2 => (intro w hSw; (try dsimp only at hSw); go_simp; (try with_reducible rfl))
          try simp only [Act.put, List.getElem_toArray, List.getElem_cons_zero, List.getElem_cons_succ, List.setIfInBounds_toArray, List.set_cons_zero, List.set_cons_succ]
          refine wpAnyH_take (i := 2) (oi := _) (v := ?vn4_3) rfl (by kernel_rfl) (by kernel_rfl) (by kernel_rfl) (fun _ _ _ h => h) (Or.inl ⟨by rfl, ?hyn4_3⟩) (by assumption) ?hRn4_3
          case hyn4_3 => (intro w hSw; (try dsimp only at hSw); go_simp; (try with_reducible rfl))
          try simp only [Act.put, List.getElem_toArray, List.getElem_cons_zero, List.getElem_cons_succ, List.setIfInBounds_toArray, List.set_cons_zero, List.set_cons_succ]
          refine wpAnyH_take (i := 3) (oi := _) (v := ?vn4_4) rfl (by kernel_rfl) (by kernel_rfl) (by kernel_rfl) (fun _ _ _ h => h) (Or.inl ⟨by rfl, ?hyn4_4⟩) (by assumption) ?hRn4_4
          case hyn4_4 => (intro w hSw; (try dsimp only at hSw); go_simp; (try with_reducible rfl))
          try simp only [Act.put, List.getElem_toArray, List.getElem_cons_zero, List.getElem_cons_succ, List.setIfInBounds_toArray, List.set_cons_zero, List.set_cons_succ]
          refine wpAnyH_take (i := 4) (oi := _) (v := ?vn4_5) rfl (by kernel_rfl) (by kernel_rfl) (by kernel_rfl) (fun _ _ _ h => h) (Or.inl ⟨by rfl, ?hyn4_5⟩) (by assumption) ?hRn4_5
          case hyn4_5 => (intro w hSw; (try dsimp only at hSw); go_simp; (try with_reducible rfl))
          try simp only [Act.put, List.getElem_toArray, List.getElem_cons_zero, List.getElem_cons_succ, List.setIfInBounds_toArray, List.set_cons_zero, List.set_cons_succ]
          refine wpAnyH_take (i := 5) (oi := _) (v := ?vn4_6) rfl (by kernel_rfl) (by kernel_rfl) (by kernel_rfl) (fun _ _ _ h => h) (Or.inl ⟨by rfl, ?hyn4_6⟩) (by assumption) ?hRn4_6
          case hyn4_6 => (intro w hSw; (try dsimp only at hSw); go_simp; (try with_reducible rfl))
          try simp only [Act.put, List.getElem_toArray, List.getElem_cons_zero, List.getElem_cons_succ, List.setIfInBounds_toArray, List.set_cons_zero, List.set_cons_succ]
          refine wpAnyH_ready (rs := [6]) (by kernel_rfl) (by simp) ?_
          refine AllReadyH.cons (o := _) rfl (fun K hK => ?_) AllReadyH.nil
          go_simp
          refine hK.out _ _ ?hSn4_7 (fun hHeld => ?hRn4_7)
          case hSn4_7 => ((try dsimp only); exact ⟨has1, has1⟩)
          clear hK K
          try simp only [Act.put, List.getElem_toArray, List.getElem_cons_zero, List.getElem_cons_succ, List.setIfInBounds_toArray, List.set_cons_zero, List.set_cons_succ]
          refine wpAnyH_take (i := 7) (oi := _) (v := ?vn4_8) rfl (by kernel_rfl) (by kernel_rfl) (by kernel_rfl) (fun _ _ _ h => h) (Or.inl ⟨by rfl, ?hyn4_8⟩) (by assumption) ?hRn4_8
          case hyn4_8 => (intro w hSw; (try dsimp only at hSw); go_simp; (try with_reducible rfl))
          try simp only [Act.put, List.getElem_toArray, List.getElem_cons_zero, List.getElem_cons_succ, List.setIfInBounds_toArray, List.set_cons_zero, List.set_cons_succ]
          refine wpAnyH_done (by kernel_rfl) ?_ _
          go_wp2
          refine bodyPost_ret (v := .tuple #[.agg #[.slice Ao out.len co], .bool (!bad)]) (by simp [results, Tryz.results10, go_sem]) rfl ?_
          rw [H.out, HE.out]
          cases bad
          · exact ⟨Ao, co, rfl, fs _ Ao w, ext _ _⟩
          · obtain rfl := HNB.out rfl
            exact ⟨Ao, co, rfl, fs _ Ao w, ext _ _⟩
  · have H := Lib.hid (show spowTerms x a b n = none by simp only [spowTerms, hall]; rfl)
    go_enter Tryz.func10, Tryz.ntmps10
    cases hg : sGood x <;> cases hfr : fracOk a b <;> cases hn : stepsB n
    all_goals
      first
      | (simp [hg, hfr, hn] at hall; done)
      | (clear hall
         go_wp2_with (first | ((with_reducible refine at_dst (N := 3) rfl ?_); refine ev_box (cs := #[.slice A x.len c]) (t := 26) rfl ?hr3 ?_; (case hr3 => first | (go_simp; done) | (go_simp; rfl)); intro g3 v3 _ _ _ _) | ((with_reducible refine at_dst (N := 4) rfl ?_); refine ev_box (cs := #[.int .i64 a, .int .i64 b]) (t := 28) rfl ?hr4 ?_; (case hr4 => first | (go_simp; done) | (go_simp; rfl)); intro g4 v4 _ _ _ _) | ((with_reducible refine at_dst (N := 6) rfl ?_); refine ev_box (cs := #[.slice none 0 0]) (t := 26) rfl ?hr6 ?_; (case hr6 => first | (go_simp; done) | (go_simp; rfl)); intro g6 v6 _ _ _ _) | (go_at_call 61; refine (suGood_any x _ _ _ _ (tr _ A)).mono ?_; rintro e1 w1 ⟨rfl, hb⟩; haveI : Bel _ w1 := ⟨hb⟩; clear hb) | (go_at_call 62; refine (shGood_any a b _).mono ?_; rintro e2 w2 ⟨rfl, hb⟩; haveI : Bel _ w2 := ⟨hb⟩; clear hb) | (go_at_call 63; refine (seSteps_any n _).mono ?_; rintro e3 w3 ⟨rfl, rfl⟩))
         refine bodyPost_ret (v := .tuple #[.agg #[.slice none 0 0], .bool false]) (by simp [results, Tryz.results10, go_sem]) rfl ?_
         rw [H.out]
         exact ⟨none, 0, rfl, SFresh.nil _ _, ext _ _⟩)
end Go.Proofs.YtphabopnbcgodaaGreat
