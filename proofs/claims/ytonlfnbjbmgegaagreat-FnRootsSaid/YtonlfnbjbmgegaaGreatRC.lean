/-
  Walks: roots, the reference's.
  Roots: the two coefficients are one. Plain.
-/
import Derived.Test.YtonlfnbjbmgegaaGreatWRoot
namespace Go.Proofs.YtonlfnbjbmgegaaGreat
open Go.RowKit
open List renaming getElem_toArray → zp1, getElem_cons_zero → zp2, getElem_cons_succ → zp3, setIfInBounds_toArray → zp4, set_cons_zero → zp5, set_cons_succ → zp6
set_option linter.unusedSimpArgs false
set_option linter.unusedVariables false

set_option maxHeartbeats 1600000 in
theorem seRoot_any (n : Int) (k : Nat) (w : World) (h0 : 0 ≤ n) (h1 : n ≤ 1000000) (h2 : 2 ≤ k) (h4 : k ≤ 4) :
    Calls Tryz.prog 129 #[.int .i64 n, .int .i64 k] w fun e w' => e = .returned (.int .i64 (rootP n k)) ∧ w = w' := by
  go_enter Tryz.func129, Tryz.ntmps129
  go_wp2
  go_loop [5] (fun s => ∃ r : Nat, s = .int .i64 r ∧ r ≤ 1001 ∧ Hid (rootP n k = rootGo n k (1002 - r) r ∨ (rootP n k = -1 ∧ n < ((r ^ k : Nat) : Int)))) (fun s => 2000 - (intOf s).toNat)
  case atStart => exact ⟨0, rfl, by omega, .inl rfl⟩
  case round =>
    obtain ⟨r, rfl, hr, HR⟩ := hrel
    by_cases hr' : r ≤ 1000
    · go_wp2
      go_loop [6, 7] (fun p j => ∃ i : Nat, i ≤ k ∧ j = .int .i64 i ∧ p = .int .i64 ((r ^ i : Nat) : Int)) (fun _ j => k - (intOf j).toNat)
      case atStart => exact ⟨0, by omega, rfl, rfl⟩
      case round =>
        obtain ⟨i, hi, rfl, rfl⟩ := hrel
        have b1 := pow_bd hr (j := i) (by omega)
        by_cases hlt : i < k
        · have b2 := pow_bd hr (j := i + 1) (by omega)
          have hp : ((r ^ i : Nat) : Int) * (r : Int) = ((r ^ (i + 1) : Nat) : Int) := by rw [Nat.pow_succ]; simp
          have hw : IntKind.i64.wrap (((r ^ i : Nat) : Int) * (r : Int)) = ((r ^ (i + 1) : Nat) : Int) := by rw [hp]; exact IntWalk.i64_in _ (by omega)
          generalize ((r ^ i : Nat) : Int) = P at *
          generalize hQ : ((r ^ (i + 1) : Nat) : Int) = Q at *
          go_wp2
          exact ⟨⟨i + 1, by omega, by go_num, by rw [hQ]⟩, by simp [intOf]; omega⟩
        · have hik : i = k := by omega
          subst hik
          by_cases he : ((r ^ i : Nat) : Int) = n
          · have HE : Hid (rootP n i = r) := by
              rcases HR.out with h | ⟨_, h⟩
              · exact h.trans ((rootGo_here hr (by omega)).trans (if_neg (by omega)))
              · omega
            have he1 : (((r ^ i : Nat) : Int) == n) = true := by simpa using he
            clear he
            generalize ((r ^ i : Nat) : Int) = P at *
            go_wp2
            refine bodyPost_ret (v := .int .i64 r) (by simp [results, Tryz.results129, go_sem]) rfl ?_
            rw [HE.out]
            exact ⟨rfl, rfl⟩
          · have HE : Hid (rootP n i = rootGo n i (1002 - (r + 1)) (r + 1) ∨ (rootP n i = -1 ∧ n < (((r + 1) ^ i : Nat) : Int))) := by
              have hmono : ((r ^ i : Nat) : Int) ≤ (((r + 1) ^ i : Nat) : Int) := by exact_mod_cast Nat.pow_le_pow_left (Nat.le_succ r) i
              rcases HR.out with h | ⟨h, h'⟩
              · by_cases hg : n ≤ ((r ^ i : Nat) : Int)
                · exact .inr ⟨h.trans ((rootGo_here hr hg).trans (if_pos (by omega))), by omega⟩
                · exact .inl (h.trans (rootGo_on hr hg))
              · exact .inr ⟨h, by omega⟩
            have he1 : (((r ^ i : Nat) : Int) == n) = false := by simpa using he
            clear he
            generalize ((r ^ i : Nat) : Int) = P at *
            go_wp2
            exact ⟨⟨r + 1, by go_num, by omega, HE⟩, by simp [intOf]; omega⟩
    · have hrr : r = 1001 := by omega
      subst hrr
      have hgt : n < ((1001 ^ k : Nat) : Int) := by
        have := pow_gt (r := 1001) (k := k) (by omega) h2
        omega
      have HE : Hid (rootP n k = -1) := by
        rcases HR.out with h | ⟨h, _⟩
        · exact h.trans ((rootGo_here (r := 1001) (by omega) (by omega)).trans (if_pos hgt))
        · exact h
      clear hgt
      go_wp2
      refine bodyPost_ret (v := .int .i64 (-1)) (by simp [results, Tryz.results129, go_sem]) rfl ?_
      rw [HE.out]
      exact ⟨rfl, rfl⟩

/-- the root of a fraction, not brought to least terms -/
def sCoef (n d : Int) (k : Nat) : Option (Int × Int) :=
  if rootP (n.natAbs : Int) k < 0 ∨ rootP d k < 0 ∨ (n < 0 ∧ k % 2 = 0) then none else some (rootP (n.natAbs : Int) k * cmpI n 0, rootP d k)
theorem cmpI_bd0 (n : Int) : -1 ≤ cmpI n 0 ∧ cmpI n 0 ≤ 1 := by unfold cmpI; split <;> (try split) <;> omega
attribute [local go_sem high] has_cell has_frozen
set_option synthInstance.maxHeartbeats 2000000 in
set_option maxHeartbeats 3200000 in
set_option maxRecDepth 100000 in
theorem seCoef_any (n d : Int) (k : Nat) (w : World) (hf : fracOk n d = true) (h2 : 2 ≤ k) (h4 : k ≤ 4) :
    Calls Tryz.prog 93 #[.agg #[.int .i64 n, .int .i64 d], .int .i64 k] w fun e w' => e = .returned (optF (sCoef n d k)) ∧ Below w.heap.size w w' := by
  obtain ⟨f1, f2, f3, f4, _⟩ := fracOk_iff.1 hf
  clear hf
  obtain ⟨a, ha⟩ : ∃ a, a = rootP (n.natAbs : Int) k := ⟨_, rfl⟩
  obtain ⟨b, hb⟩ : ∃ b, b = rootP d k := ⟨_, rfl⟩
  obtain ⟨sg, hs⟩ : ∃ sg, sg = cmpI n 0 := ⟨_, rfl⟩
  have bs := cmpI_bd0 n
  rw [← hs] at bs
  have ba := rootP_bd (n.natAbs : Int) k
  have bb := rootP_bd d k
  rw [← ha] at ba
  rw [← hb] at bb
  have HA := Lib.hid ha.symm
  have HB := Lib.hid hb.symm
  have HS := Lib.hid hs.symm
  have HE0 : sCoef n d k = if a < 0 ∨ b < 0 ∨ (n < 0 ∧ k % 2 = 0) then none else some (a * sg, b) := by
    rw [sCoef, ← ha, ← hb, ← hs]
  have HE := Lib.hid HE0
  have hw : IntKind.i64.wrap (a * sg) = a * sg := by
    have : sg = -1 ∨ sg = 0 ∨ sg = 1 := by omega
    rcases this with h | h | h <;> subst h <;> exact IntWalk.i64_in _ (by omega)
  clear HE0 ha hb hs
  go_enter Tryz.func93, Tryz.ntmps93
  go_wp2_with (first | ((with_reducible refine at_dst (N := 2) rfl ?_); refine ev_box (cs := #[.int .i64 n, .int .i64 d]) (t := 68) rfl ?hr2 ?_; (case hr2 => first | (go_simp; done) | (go_simp; rfl)); intro g2 v2 _ _ _ _) | ((with_reducible refine at_dst (N := 4) rfl ?_); refine ev_box (cs := #[.int .i64 0, .int .i64 0]) (t := 68) rfl ?hr4 ?_; (case hr4 => first | (go_simp; done) | (go_simp; rfl)); intro g4 v4 _ _ _ _))
  refine wp_region_held_drew (S := (fun w' => w'.cell? ⟨g2, 0, none⟩ = some (.int .i64 n) ∧ w'.cell? ⟨g2, 1, none⟩ = some (.int .i64 d))) (by kernel_rfl) ?hSn1_ (fun hHeld => ?hRn1_)
  case hSn1_ => (exact has2)
  refine wpAnyH_take (i := 0) (v := ?vn1_1) rfl (by kernel_rfl) (by kernel_rfl) (by kernel_rfl) (fun _ _ _ h => h) (Or.inl ⟨by rfl, ?hyn1_1⟩) (by assumption) ?hRn1_1
  case hyn1_1 => (intro w hSw; (try dsimp only at hSw); go_simp; (try with_reducible rfl))
  try simp only [Act.put, zp1, zp2, zp3, zp4, zp5, zp6]
  refine wpAnyH_take (i := 1) (v := ?vn1_2) rfl (by kernel_rfl) (by kernel_rfl) (by kernel_rfl) (fun _ _ _ h => h) (Or.inl ⟨by rfl, ?hyn1_2⟩) (by assumption) ?hRn1_2
  case hyn1_2 => (intro w hSw; (try dsimp only at hSw); go_simp; (try with_reducible rfl))
  try simp only [Act.put, zp1, zp2, zp3, zp4, zp5, zp6]
  refine wpAnyH_take (i := 3) (v := ?vn1_3) rfl (by kernel_rfl) (by kernel_rfl) (by kernel_rfl) (fun _ _ _ h => h) (Or.inl ⟨by rfl, ?hyn1_3⟩) (by assumption) ?hRn1_3
  case hyn1_3 => (intro w hSw; (try dsimp only at hSw); go_simp; (try with_reducible rfl))
  try simp only [Act.put, zp1, zp2, zp3, zp4, zp5, zp6]
  refine wpAnyH_take (i := 5) (v := ?vn1_4) rfl (by kernel_rfl) (by kernel_rfl) (by kernel_rfl) (fun _ _ _ h => h) (Or.inl ⟨by rfl, ?hyn1_4⟩) (by assumption) ?hRn1_4
  case hyn1_4 => (intro w hSw; (try dsimp only at hSw); go_simp; (try with_reducible rfl))
  try simp only [Act.put, zp1, zp2, zp3, zp4, zp5, zp6]
  refine wpAnyH_take (i := 6) (v := ?vn1_5) rfl (by kernel_rfl) (by kernel_rfl) (by kernel_rfl) (fun _ _ _ h => h) (Or.inl ⟨by rfl, ?hyn1_5⟩) (by assumption) ?hRn1_5
  case hyn1_5 => (intro w hSw; (try dsimp only at hSw); go_simp; (try with_reducible rfl))
  try simp only [Act.put, zp1, zp2, zp3, zp4, zp5, zp6]
  refine wpAnyH_take (i := 7) (v := ?vn1_6) rfl (by kernel_rfl) (by kernel_rfl) (by kernel_rfl) (fun _ _ _ h => h) (Or.inl ⟨by rfl, ?hyn1_6⟩) (by assumption) ?hRn1_6
  case hyn1_6 => (intro w hSw; (try dsimp only at hSw); go_simp; (try with_reducible rfl))
  try simp only [Act.put, zp1, zp2, zp3, zp4, zp5, zp6]
  refine wpAnyH_ready (rs := [2]) (by kernel_rfl) (by simp) ?_
  refine AllReadyH.cons rfl (fun K hK => ?_) AllReadyH.nil
  go_simp
  ((go_at_call 130; refine (l1Abs_any n (by omega) (by omega) _).mono ?_; rintro e10 w10 ⟨rfl, rfl⟩))
  go_wp2_with fail
  refine hK.out _ _ ?hSn1_7 (fun hHeld => ?hRn1_7)
  case hSn1_7 => ((try dsimp only); exact has2)
  clear hK K
  try simp only [Act.put, zp1, zp2, zp3, zp4, zp5, zp6]
  refine wpAnyH_ready (rs := [4]) (by kernel_rfl) (by simp) ?_
  refine AllReadyH.cons rfl (fun K hK => ?_) AllReadyH.nil
  go_simp
  ((go_at_call 129; refine (seRoot_any (n.natAbs : Int) k _ (by omega) (by omega) h2 h4).mono ?_; rintro e12 w12 ⟨he, rfl⟩; rw [HA.out] at he; subst he))
  go_wp2_with fail
  refine hK.out _ _ ?hSn1_8 (fun hHeld => ?hRn1_8)
  case hSn1_8 => ((try dsimp only); exact has2)
  clear hK K
  try simp only [Act.put, zp1, zp2, zp3, zp4, zp5, zp6]
  refine wpAnyH_ready (rs := [8]) (by kernel_rfl) (by simp) ?_
  refine AllReadyH.cons rfl (fun K hK => ?_) AllReadyH.nil
  go_simp
  ((go_at_call 129; refine (seRoot_any d k _ (by omega) (by omega) h2 h4).mono ?_; rintro e16 w16 ⟨he, rfl⟩; rw [HB.out] at he; subst he))
  go_wp2_with fail
  refine hK.out _ _ ?hSn1_9 (fun hHeld => ?hRn1_9)
  case hSn1_9 => ((try dsimp only); exact has2)
  clear hK K
  try simp only [Act.put, zp1, zp2, zp3, zp4, zp5, zp6]
  refine wpAnyH_take (i := 9) (v := ?vn1_10) rfl (by kernel_rfl) (by kernel_rfl) (by kernel_rfl) (fun _ _ _ h => h) (Or.inl ⟨by rfl, ?hyn1_10⟩) (by assumption) ?hRn1_10
  case hyn1_10 => (intro w hSw; (try dsimp only at hSw); go_simp; (try with_reducible rfl))
  try simp only [Act.put, zp1, zp2, zp3, zp4, zp5, zp6]
  refine wpAnyH_take (i := 10) (v := ?vn1_11) rfl (by kernel_rfl) (by kernel_rfl) (by kernel_rfl) (fun _ _ _ h => h) (Or.inl ⟨by rfl, ?hyn1_11⟩) (by assumption) ?hRn1_11
  case hyn1_11 => (intro w hSw; (try dsimp only at hSw); go_simp; (try with_reducible rfl))
  try simp only [Act.put, zp1, zp2, zp3, zp4, zp5, zp6]
  refine wpAnyH_done (by kernel_rfl) ?_ _
  by_cases ha : a < 0
  · replace HE := Lib.hid (HE.out.trans (if_pos (.inl ha)))
    go_wp2_with (first | (go_at_call 104; refine (l1Sign_any n _).mono ?_; rintro e41 w41 ⟨he, rfl⟩; rw [HS.out] at he; subst he))
    (refine bodyPost_ret (v := .tuple #[.agg #[.int .i64 0, .int .i64 0], .bool false]) (by simp [results, Tryz.results93, go_sem]) rfl ?_; rw [HE.out]; exact ⟨rfl, ext _ _⟩)
  · by_cases hb : b < 0
    · replace HE := Lib.hid (HE.out.trans (if_pos (.inr (.inl hb))))
      go_wp2_with (first | (go_at_call 104; refine (l1Sign_any n _).mono ?_; rintro e41 w41 ⟨he, rfl⟩; rw [HS.out] at he; subst he))
      (refine bodyPost_ret (v := .tuple #[.agg #[.int .i64 0, .int .i64 0], .bool false]) (by simp [results, Tryz.results93, go_sem]) rfl ?_; rw [HE.out]; exact ⟨rfl, ext _ _⟩)
    · by_cases hn : n < 0
      · by_cases hk : k % 2 = 0
        · replace HE := Lib.hid (HE.out.trans (if_pos (.inr (.inr ⟨hn, hk⟩))))
          obtain rfl | rfl : k = 2 ∨ k = 4 := by omega
          · go_wp2_with (first | (go_at_call 104; refine (l1Sign_any n _).mono ?_; rintro e41 w41 ⟨he, rfl⟩; rw [HS.out] at he; subst he))
            (refine bodyPost_ret (v := .tuple #[.agg #[.int .i64 0, .int .i64 0], .bool false]) (by simp [results, Tryz.results93, go_sem]) rfl ?_; rw [HE.out]; exact ⟨rfl, ext _ _⟩)
          · go_wp2_with (first | (go_at_call 104; refine (l1Sign_any n _).mono ?_; rintro e41 w41 ⟨he, rfl⟩; rw [HS.out] at he; subst he))
            (refine bodyPost_ret (v := .tuple #[.agg #[.int .i64 0, .int .i64 0], .bool false]) (by simp [results, Tryz.results93, go_sem]) rfl ?_; rw [HE.out]; exact ⟨rfl, ext _ _⟩)
        · replace HE := Lib.hid (HE.out.trans (if_neg (by omega)))
          obtain rfl : k = 3 := by omega
          go_wp2_with (first | (go_at_call 104; refine (l1Sign_any n _).mono ?_; rintro e41 w41 ⟨he, rfl⟩; rw [HS.out] at he; subst he))
          (refine bodyPost_ret (v := .tuple #[.agg #[.int .i64 (a * sg), .int .i64 b], .bool true]) (by simp [results, Tryz.results93, go_sem]) rfl ?_; rw [HE.out]; exact ⟨rfl, ext _ _⟩)
      · replace HE := Lib.hid (HE.out.trans (if_neg (by omega)))
        go_wp2_with (first | (go_at_call 104; refine (l1Sign_any n _).mono ?_; rintro e41 w41 ⟨he, rfl⟩; rw [HS.out] at he; subst he))
        (refine bodyPost_ret (v := .tuple #[.agg #[.int .i64 (a * sg), .int .i64 b], .bool true]) (by simp [results, Tryz.results93, go_sem]) rfl ?_; rw [HE.out]; exact ⟨rfl, ext _ _⟩)
end Go.Proofs.YtonlfnbjbmgegaaGreat

namespace Go.Proofs.YtonlfnbjbmgegaaGreat
open Go.RowKit
set_option linter.unusedSimpArgs false
set_option linter.unusedVariables false

theorem rootGo_pow (n : Int) (k : Nat) : ∀ (f r : Nat), 0 ≤ rootGo n k f r → (((rootGo n k f r).toNat ^ k : Nat) : Int) = n
  | 0, r, h => by simp [rootGo] at h
  | f + 1, r, h => by
    simp only [rootGo] at h ⊢
    by_cases h1 : n ≤ ((r ^ k : Nat) : Int)
    · rw [if_pos h1] at h ⊢
      by_cases h2 : n < ((r ^ k : Nat) : Int)
      · rw [if_pos h2] at h; omega
      · rw [if_neg h2]; rw [Int.toNat_natCast]; omega
    · rw [if_neg h1] at h ⊢
      exact rootGo_pow n k f (r + 1) h
theorem rootP_pow {n : Int} {k : Nat} (h : 0 ≤ rootP n k) : (((rootP n k).toNat ^ k : Nat) : Int) = n := rootGo_pow n k 1002 0 h
theorem root_coprime {a b k : Nat} (hk : 1 ≤ k) (h : Nat.gcd (a ^ k) (b ^ k) = 1) : Nat.gcd a b = 1 := by
  have h1 : Nat.gcd a b ∣ a ^ k := Nat.dvd_trans (Nat.gcd_dvd_left a b) (Nat.dvd_trans ⟨a ^ (k - 1), by rw [← Nat.pow_succ']; congr 1; omega⟩ (Nat.dvd_refl _))
  have h2 : Nat.gcd a b ∣ b ^ k := Nat.dvd_trans (Nat.gcd_dvd_right a b) (Nat.dvd_trans ⟨b ^ (k - 1), by rw [← Nat.pow_succ']; congr 1; omega⟩ (Nat.dvd_refl _))
  have h3 := Nat.dvd_gcd h1 h2
  rw [h] at h3
  exact Nat.dvd_one.1 h3
theorem made_self {n d : Int} (h : fracOk n d = true) : made n d = some (n, d) := by
  obtain ⟨h1, h2, h3, h4, h5⟩ := fracOk_iff.1 h
  have hg : gsign n d = 1 := by unfold gsign; rw [h5]; rw [if_neg (by omega)]; rfl
  unfold made
  rw [if_neg (by omega)]
  have e1 : mkN n d = n := by unfold mkN; rw [hg]; exact Int.tdiv_one n
  have e2 : mkD n d = d := by unfold mkD; rw [hg]; exact Int.tdiv_one d
  rw [e1, e2, if_pos h]
theorem sCoef_rootC {n d : Int} {k : Nat} (hf : fracOk n d = true) (h2 : 2 ≤ k) : sCoef n d k = rootC n d k := by
  obtain ⟨h1, _, h3, h4, h5⟩ := fracOk_iff.1 hf
  unfold sCoef rootC
  rw [sizeI_natAbs]
  by_cases hc : rootP (n.natAbs : Int) k < 0 ∨ rootP d k < 0 ∨ (n < 0 ∧ k % 2 = 0)
  · rw [if_pos hc, if_pos hc]
  · rw [if_neg hc, if_neg hc]
    have pa := rootP_pow (n := (n.natAbs : Int)) (k := k) (by omega)
    have pb := rootP_pow (n := d) (k := k) (by omega)
    have ba := rootP_bd (n.natAbs : Int) k
    have bb := rootP_bd d k
    generalize rootP (n.natAbs : Int) k = a at *
    generalize rootP d k = b at *
    have hb0 : 1 ≤ b := by
      rcases Int.lt_or_le b 1 with h | h
      · have : b.toNat = 0 := by omega
        rw [this, Nat.zero_pow (by omega)] at pb
        omega
      · exact h
    have hg : Nat.gcd a.toNat b.toNat = 1 := by
      refine root_coprime (k := k) (by omega) ?_
      have e1 : a.toNat ^ k = n.natAbs := by omega
      have e2 : b.toNat ^ k = d.natAbs := by omega
      rw [e1, e2]
      exact h5
    have hn0 : cmpI n 0 = if n < 0 then -1 else if n = 0 then 0 else 1 := by unfold cmpI; split <;> (try split) <;> (try split) <;> omega
    have hp : a * cmpI n 0 = if n < 0 then -a else a := by
      rw [hn0]
      by_cases hn : n < 0
      · rw [if_pos hn, if_pos hn]; omega
      · rw [if_neg hn, if_neg hn]
        by_cases h0 : n = 0
        · rw [if_pos h0]
          subst h0
          have ha : a.toNat = 0 := by
            rcases Nat.eq_zero_or_pos a.toNat with h | h
            · exact h
            · have := Nat.pow_pos (n := k) h
              have e : a.toNat ^ k = 0 := by
                have hz : ((0 : Int).natAbs : Int) = 0 := rfl
                rw [hz] at pa
                omega
              omega
          omega
        · rw [if_neg h0]; omega
    rw [hp, made_self]
    refine fracOk_iff.2 ⟨hb0, by omega, by split <;> omega, by split <;> omega, ?_⟩
    have : Int.gcd a b = 1 := by
      show Nat.gcd a.natAbs b.natAbs = 1
      rw [show a.natAbs = a.toNat by omega, show b.natAbs = b.toNat by omega]
      exact hg
    split
    · rw [Int.neg_gcd]; exact this
    · exact this
end Go.Proofs.YtonlfnbjbmgegaaGreat
