/-
  Walks: roots.
-/
import Derived.Test.YtonlfnbjbmgegaaGreatBL
import Derived.Test.YtonlfnbjbmgegaaGreatBG
import Derived.Test.YtonlfnbjbmgegaaGreatWCoef
import Derived.Test.YtonlfnbjbmgegaaGreatEN
namespace Go.Proofs.YtonlfnbjbmgegaaGreat
open Go.RowKit
open List renaming getElem_toArray → zp1, getElem_cons_zero → zp2, getElem_cons_succ → zp3, setIfInBounds_toArray → zp4, set_cons_zero → zp5, set_cons_succ → zp6
set_option linter.unusedSimpArgs false
set_option linter.unusedVariables false

theorem rootGo_here {n : Int} {k r : Nat} (hr : r ≤ 1001) (h : n ≤ ((r ^ k : Nat) : Int)) : rootGo n k (1002 - r) r = if n < ((r ^ k : Nat) : Int) then -1 else (r : Int) := by
  rw [show 1002 - r = (1001 - r) + 1 by omega]
  simp only [rootGo]
  rw [if_pos h]
theorem rootGo_on {n : Int} {k r : Nat} (hr : r ≤ 1001) (h : ¬ n ≤ ((r ^ k : Nat) : Int)) : rootGo n k (1002 - r) r = rootGo n k (1002 - (r + 1)) (r + 1) := by
  rw [show 1002 - r = (1002 - (r + 1)) + 1 by omega]
  simp only [rootGo]
  rw [if_neg h]
set_option maxHeartbeats 1600000 in
theorem rootOf_any (n : Int) (k : Nat) (w : World) (h0 : 0 ≤ n) (h1 : n ≤ 1000000) (h2 : 2 ≤ k) (h4 : k ≤ 4) :
    Calls Tryz.prog 124 #[.int .i64 n, .int .i64 k] w fun e w' => e = .returned (.int .i64 (rootP n k)) ∧ w = w' := by
  go_enter Tryz.func124, Tryz.ntmps124
  go_wp2
  go_loop [5] (fun s => ∃ r : Nat, s = .int .i64 r ∧ r ≤ 1001 ∧ Hid (rootP n k = rootGo n k (1002 - r) r)) (fun s => 2000 - (intOf s).toNat)
  case atStart => exact ⟨0, rfl, by omega, rfl⟩
  case round =>
    obtain ⟨r, rfl, hr, HR⟩ := hrel
    go_wp2
    go_loop [6, 10] (fun p j => ∃ i : Nat, i ≤ k ∧ j = .int .i64 i ∧ p = .int .i64 ((r ^ i : Nat) : Int)) (fun _ j => k - (intOf j).toNat)
    case atStart => exact ⟨0, by omega, rfl, rfl⟩
    case round =>
      obtain ⟨i, hi, rfl, rfl⟩ := hrel
      have b1 := pow_bd hr (j := i) (by omega)
      by_cases hlt : i < k
      · have b2 := pow_bd hr (j := i + 1) (by omega)
        have hp : ((r ^ i : Nat) : Int) * (r : Int) = ((r ^ (i + 1) : Nat) : Int) := by rw [Nat.pow_succ]; simp
        have hw : IntKind.i64.wrap (((r ^ i : Nat) : Int) * (r : Int)) = ((r ^ (i + 1) : Nat) : Int) := by rw [hp]; exact IntWalk.i64_in _ (by omega)
        generalize ((r ^ i : Nat) : Int) = P at *
        generalize hQ : ((r ^ (i + 1) : Nat) : Int) = Q at *
        go_wp2
        exact ⟨⟨i + 1, by omega, by go_num, by rw [hQ]⟩, by simp [intOf]; omega⟩
      · have hik : i = k := by omega
        subst hik
        generalize hP : ((r ^ i : Nat) : Int) = P at *
        by_cases hge : n ≤ P
        · have HE := Lib.hid (HR.out.trans (rootGo_here hr (hP ▸ hge)))
          rw [hP] at HE
          by_cases hgt : n < P
          · go_wp2
            refine bodyPost_ret (v := .int .i64 (-1)) (by simp [results, Tryz.results124, go_sem]) rfl ?_
            rw [HE.out, if_pos (by omega)]
            exact ⟨rfl, rfl⟩
          · go_wp2
            refine bodyPost_ret (v := .int .i64 r) (by simp [results, Tryz.results124, go_sem]) rfl ?_
            rw [HE.out, if_neg (by omega)]
            exact ⟨rfl, rfl⟩
        · have hr' : r ≤ 1000 := by
            rcases Nat.lt_or_ge 1000 r with h | h
            · exact absurd (pow_gt (k := i) h h2) (by omega)
            · exact h
          have HE := Lib.hid (HR.out.trans (rootGo_on hr (hP ▸ hge)))
          go_wp2
          exact ⟨⟨r + 1, by go_num, by omega, HE⟩, by simp [intOf]; omega⟩

theorem sizeI_natAbs (n : Int) : sizeI n = (n.natAbs : Int) := by unfold sizeI; split <;> omega
attribute [local go_sem high] has_cell has_frozen
set_option synthInstance.maxHeartbeats 2000000 in
set_option maxHeartbeats 3200000 in
set_option maxRecDepth 100000 in
theorem rootCoef_any (n d : Int) (k : Nat) (w : World) (hf : fracOk n d = true) (h2 : 2 ≤ k) (h4 : k ≤ 4) :
    Calls Tryz.prog 84 #[.agg #[.int .i64 n, .int .i64 d], .int .i64 k] w fun e w' => e = .returned (optF (rootC n d k)) ∧ Below w.heap.size w w' := by
  obtain ⟨f1, f2, f3, f4, _⟩ := fracOk_iff.1 hf
  clear hf
  obtain ⟨a, ha⟩ : ∃ a, a = rootP (n.natAbs : Int) k := ⟨_, rfl⟩
  obtain ⟨b, hb⟩ : ∃ b, b = rootP d k := ⟨_, rfl⟩
  have ba := rootP_bd (n.natAbs : Int) k
  have bb := rootP_bd d k
  rw [← ha] at ba
  rw [← hb] at bb
  have HA := Lib.hid ha.symm
  have HB := Lib.hid hb.symm
  have HE0 : rootC n d k = if a < 0 ∨ b < 0 ∨ (n < 0 ∧ k % 2 = 0) then none else made (if n < 0 then -a else a) b := by
    rw [rootC, sizeI_natAbs, ← ha, ← hb]
  have HE := Lib.hid HE0
  have HM1 : Hid (-4611686018427387904 ≤ a ∧ a ≤ 4611686018427387904) := ⟨by omega, by omega⟩
  have HM2 : Hid (-4611686018427387904 ≤ -a ∧ -a ≤ 4611686018427387904) := ⟨by omega, by omega⟩
  have HM3 : Hid (-4611686018427387904 ≤ b ∧ b ≤ 4611686018427387904) := ⟨by omega, by omega⟩
  clear HE0
  clear ha hb
  go_enter Tryz.func84, Tryz.ntmps84
  go_wp2_with (first | ((with_reducible refine at_dst (N := 2) rfl ?_); refine ev_box (cs := #[.int .i64 n, .int .i64 d]) (t := 68) rfl ?hr2 ?_; (case hr2 => first | (go_simp; done) | (go_simp; rfl)); intro g2 v2 _ _ _ _) | ((with_reducible refine at_dst (N := 4) rfl ?_); refine ev_box (cs := #[.int .i64 0, .int .i64 0]) (t := 68) rfl ?hr4 ?_; (case hr4 => first | (go_simp; done) | (go_simp; rfl)); intro g4 v4 _ _ _ _))
  refine wp_region_held_drew (S := (fun w' => w'.cell? ⟨g2, 0, none⟩ = some (.int .i64 n) ∧ w'.cell? ⟨g2, 1, none⟩ = some (.int .i64 d))) (by kernel_rfl) ?hSn1_ (fun hHeld => ?hRn1_)
  case hSn1_ => (exact has2)
  refine wpAnyH_take (i := 0) (v := ?vn1_1) rfl (by kernel_rfl) (by kernel_rfl) (by kernel_rfl) (fun _ _ _ h => h) (Or.inl ⟨by rfl, ?hyn1_1⟩) (by assumption) ?hRn1_1
  case hyn1_1 => (intro w hSw; (try dsimp only at hSw); go_simp; (try with_reducible rfl))
  try simp only [Act.put, zp1, zp2, zp3, zp4, zp5, zp6]
  refine wpAnyH_take (i := 1) (v := ?vn1_2) rfl (by kernel_rfl) (by kernel_rfl) (by kernel_rfl) (fun _ _ _ h => h) (Or.inl ⟨by rfl, ?hyn1_2⟩) (by assumption) ?hRn1_2
  case hyn1_2 => (intro w hSw; (try dsimp only at hSw); go_simp; (try with_reducible rfl))
  try simp only [Act.put, zp1, zp2, zp3, zp4, zp5, zp6]
  refine wpAnyH_take (i := 3) (v := ?vn1_3) rfl (by kernel_rfl) (by kernel_rfl) (by kernel_rfl) (fun _ _ _ h => h) (Or.inl ⟨by rfl, ?hyn1_3⟩) (by assumption) ?hRn1_3
  case hyn1_3 => (intro w hSw; (try dsimp only at hSw); go_simp; (try with_reducible rfl))
  try simp only [Act.put, zp1, zp2, zp3, zp4, zp5, zp6]
  refine wpAnyH_take (i := 5) (v := ?vn1_4) rfl (by kernel_rfl) (by kernel_rfl) (by kernel_rfl) (fun _ _ _ h => h) (Or.inl ⟨by rfl, ?hyn1_4⟩) (by assumption) ?hRn1_4
  case hyn1_4 => (intro w hSw; (try dsimp only at hSw); go_simp; (try with_reducible rfl))
  try simp only [Act.put, zp1, zp2, zp3, zp4, zp5, zp6]
  refine wpAnyH_take (i := 6) (v := ?vn1_5) rfl (by kernel_rfl) (by kernel_rfl) (by kernel_rfl) (fun _ _ _ h => h) (Or.inl ⟨by rfl, ?hyn1_5⟩) (by assumption) ?hRn1_5
  case hyn1_5 => (intro w hSw; (try dsimp only at hSw); go_simp; (try with_reducible rfl))
  try simp only [Act.put, zp1, zp2, zp3, zp4, zp5, zp6]
  refine wpAnyH_take (i := 7) (v := ?vn1_6) rfl (by kernel_rfl) (by kernel_rfl) (by kernel_rfl) (fun _ _ _ h => h) (Or.inl ⟨by rfl, ?hyn1_6⟩) (by assumption) ?hRn1_6
  case hyn1_6 => (intro w hSw; (try dsimp only at hSw); go_simp; (try with_reducible rfl))
  try simp only [Act.put, zp1, zp2, zp3, zp4, zp5, zp6]
  refine wpAnyH_ready (rs := [2]) (by kernel_rfl) (by simp) ?_
  refine AllReadyH.cons rfl (fun K hK => ?_) AllReadyH.nil
  go_simp
  ((go_at_call 125; refine (size_any n (by omega) (by omega) _).mono ?_; rintro e10 w10 ⟨rfl, rfl⟩))
  go_wp2_with fail
  refine hK.out _ _ ?hSn1_7 (fun hHeld => ?hRn1_7)
  case hSn1_7 => ((try dsimp only); exact has2)
  clear hK K
  try simp only [Act.put, zp1, zp2, zp3, zp4, zp5, zp6]
  refine wpAnyH_ready (rs := [4]) (by kernel_rfl) (by simp) ?_
  refine AllReadyH.cons rfl (fun K hK => ?_) AllReadyH.nil
  go_simp
  ((go_at_call 124; refine (rootOf_any (n.natAbs : Int) k _ (by omega) (by omega) h2 h4).mono ?_; rintro e12 w12 ⟨he, rfl⟩; rw [HA.out] at he; subst he))
  go_wp2_with fail
  refine hK.out _ _ ?hSn1_8 (fun hHeld => ?hRn1_8)
  case hSn1_8 => ((try dsimp only); exact has2)
  clear hK K
  try simp only [Act.put, zp1, zp2, zp3, zp4, zp5, zp6]
  refine wpAnyH_ready (rs := [8]) (by kernel_rfl) (by simp) ?_
  refine AllReadyH.cons rfl (fun K hK => ?_) AllReadyH.nil
  go_simp
  ((go_at_call 124; refine (rootOf_any d k _ (by omega) (by omega) h2 h4).mono ?_; rintro e16 w16 ⟨he, rfl⟩; rw [HB.out] at he; subst he))
  go_wp2_with fail
  refine hK.out _ _ ?hSn1_9 (fun hHeld => ?hRn1_9)
  case hSn1_9 => ((try dsimp only); exact has2)
  clear hK K
  try simp only [Act.put, zp1, zp2, zp3, zp4, zp5, zp6]
  refine wpAnyH_take (i := 9) (v := ?vn1_10) rfl (by kernel_rfl) (by kernel_rfl) (by kernel_rfl) (fun _ _ _ h => h) (Or.inl ⟨by rfl, ?hyn1_10⟩) (by assumption) ?hRn1_10
  case hyn1_10 => (intro w hSw; (try dsimp only at hSw); go_simp; (try with_reducible rfl))
  try simp only [Act.put, zp1, zp2, zp3, zp4, zp5, zp6]
  refine wpAnyH_take (i := 10) (v := ?vn1_11) rfl (by kernel_rfl) (by kernel_rfl) (by kernel_rfl) (fun _ _ _ h => h) (Or.inl ⟨by rfl, ?hyn1_11⟩) (by assumption) ?hRn1_11
  case hyn1_11 => (intro w hSw; (try dsimp only at hSw); go_simp; (try with_reducible rfl))
  try simp only [Act.put, zp1, zp2, zp3, zp4, zp5, zp6]
  refine wpAnyH_done (by kernel_rfl) ?_ _
  by_cases ha : a < 0
  · replace HE := Lib.hid (HE.out.trans (if_pos (.inl ha)))
    go_wp2_with (first | (go_at_call 126; (first | (with_reducible refine (made_any a b HM1.out HM3.out _).mono ?_) | (with_reducible refine (made_any (-a) b HM2.out HM3.out _).mono ?_)); rintro e41 w41 ⟨he, hbl⟩; rw [optF_eq] at he; subst he; haveI : Bel _ w41 := ⟨hbl⟩; clear hbl))
    (refine bodyPost_ret (v := .tuple #[.agg #[.int .i64 0, .int .i64 0], .bool false]) (by simp [results, Tryz.results84, go_sem]) rfl ?_; rw [HE.out]; exact ⟨rfl, ext _ _⟩)
  · by_cases hb : b < 0
    · replace HE := Lib.hid (HE.out.trans (if_pos (.inr (.inl hb))))
      go_wp2_with (first | (go_at_call 126; (first | (with_reducible refine (made_any a b HM1.out HM3.out _).mono ?_) | (with_reducible refine (made_any (-a) b HM2.out HM3.out _).mono ?_)); rintro e41 w41 ⟨he, hbl⟩; rw [optF_eq] at he; subst he; haveI : Bel _ w41 := ⟨hbl⟩; clear hbl))
      (refine bodyPost_ret (v := .tuple #[.agg #[.int .i64 0, .int .i64 0], .bool false]) (by simp [results, Tryz.results84, go_sem]) rfl ?_; rw [HE.out]; exact ⟨rfl, ext _ _⟩)
    · by_cases hn : n < 0
      · by_cases hk : k % 2 = 0
        · replace HE := Lib.hid (HE.out.trans (if_pos (.inr (.inr ⟨hn, hk⟩))))
          obtain rfl | rfl : k = 2 ∨ k = 4 := by omega
          · go_wp2_with (first | (go_at_call 126; (first | (with_reducible refine (made_any a b HM1.out HM3.out _).mono ?_) | (with_reducible refine (made_any (-a) b HM2.out HM3.out _).mono ?_)); rintro e41 w41 ⟨he, hbl⟩; rw [optF_eq] at he; subst he; haveI : Bel _ w41 := ⟨hbl⟩; clear hbl))
            (refine bodyPost_ret (v := .tuple #[.agg #[.int .i64 0, .int .i64 0], .bool false]) (by simp [results, Tryz.results84, go_sem]) rfl ?_; rw [HE.out]; exact ⟨rfl, ext _ _⟩)
          · go_wp2_with (first | (go_at_call 126; (first | (with_reducible refine (made_any a b HM1.out HM3.out _).mono ?_) | (with_reducible refine (made_any (-a) b HM2.out HM3.out _).mono ?_)); rintro e41 w41 ⟨he, hbl⟩; rw [optF_eq] at he; subst he; haveI : Bel _ w41 := ⟨hbl⟩; clear hbl))
            (refine bodyPost_ret (v := .tuple #[.agg #[.int .i64 0, .int .i64 0], .bool false]) (by simp [results, Tryz.results84, go_sem]) rfl ?_; rw [HE.out]; exact ⟨rfl, ext _ _⟩)
        · replace HE := Lib.hid (HE.out.trans (if_neg (by omega)))
          obtain rfl : k = 3 := by omega
          rw [if_pos hn] at HE
          go_wp2_with (first | (go_at_call 126; (first | (with_reducible refine (made_any a b HM1.out HM3.out _).mono ?_) | (with_reducible refine (made_any (-a) b HM2.out HM3.out _).mono ?_)); rintro e41 w41 ⟨he, hbl⟩; rw [optF_eq] at he; subst he; haveI : Bel _ w41 := ⟨hbl⟩; clear hbl))
          refine bodyPost_ret (v := .tuple #[.agg #[.int .i64 ((made (-a) b).getD (0, 0)).1, .int .i64 ((made (-a) b).getD (0, 0)).2], .bool (made (-a) b).isSome]) (by simp [results, Tryz.results84, go_sem]) rfl ?_
          rw [HE.out, optF_eq]
          exact ⟨rfl, ext _ _⟩
      · replace HE := Lib.hid (HE.out.trans (if_neg (by omega)))
        rw [if_neg hn] at HE
        go_wp2_with (first | (go_at_call 126; (first | (with_reducible refine (made_any a b HM1.out HM3.out _).mono ?_) | (with_reducible refine (made_any (-a) b HM2.out HM3.out _).mono ?_)); rintro e41 w41 ⟨he, hbl⟩; rw [optF_eq] at he; subst he; haveI : Bel _ w41 := ⟨hbl⟩; clear hbl))
        refine bodyPost_ret (v := .tuple #[.agg #[.int .i64 ((made a b).getD (0, 0)).1, .int .i64 ((made a b).getD (0, 0)).2], .bool (made a b).isSome]) (by simp [results, Tryz.results84, go_sem]) rfl ?_
        rw [HE.out, optF_eq]
        exact ⟨rfl, ext _ _⟩
end Go.Proofs.YtonlfnbjbmgegaaGreat
