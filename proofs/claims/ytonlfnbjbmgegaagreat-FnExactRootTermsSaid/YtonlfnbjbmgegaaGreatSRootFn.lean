/-
  Roots: the two coefficients are one. Plain.
-/
import Derived.Test.YtonlfnbjbmgegaaGreatSRoot
namespace Go.Proofs.YtonlfnbjbmgegaaGreat
open Go.RowKit
set_option linter.unusedSimpArgs false
set_option linter.unusedVariables false

theorem rootGo_pow (n : Int) (k : Nat) : ∀ (f r : Nat), 0 ≤ rootGo n k f r → (((rootGo n k f r).toNat ^ k : Nat) : Int) = n
  | 0, r, h => by simp [rootGo] at h
  | f + 1, r, h => by
    simp only [rootGo] at h ⊢
    by_cases h1 : n ≤ ((r ^ k : Nat) : Int)
    · rw [if_pos h1] at h ⊢
      by_cases h2 : n < ((r ^ k : Nat) : Int)
      · rw [if_pos h2] at h; omega
      · rw [if_neg h2]; rw [Int.toNat_natCast]; omega
    · rw [if_neg h1] at h ⊢
      exact rootGo_pow n k f (r + 1) h
theorem rootP_pow {n : Int} {k : Nat} (h : 0 ≤ rootP n k) : (((rootP n k).toNat ^ k : Nat) : Int) = n := rootGo_pow n k 1002 0 h
theorem root_coprime {a b k : Nat} (hk : 1 ≤ k) (h : Nat.gcd (a ^ k) (b ^ k) = 1) : Nat.gcd a b = 1 := by
  have h1 : Nat.gcd a b ∣ a ^ k := Nat.dvd_trans (Nat.gcd_dvd_left a b) (Nat.dvd_trans ⟨a ^ (k - 1), by rw [← Nat.pow_succ']; congr 1; omega⟩ (Nat.dvd_refl _))
  have h2 : Nat.gcd a b ∣ b ^ k := Nat.dvd_trans (Nat.gcd_dvd_right a b) (Nat.dvd_trans ⟨b ^ (k - 1), by rw [← Nat.pow_succ']; congr 1; omega⟩ (Nat.dvd_refl _))
  have h3 := Nat.dvd_gcd h1 h2
  rw [h] at h3
  exact Nat.dvd_one.1 h3
theorem made_self {n d : Int} (h : fracOk n d = true) : made n d = some (n, d) := by
  obtain ⟨h1, h2, h3, h4, h5⟩ := fracOk_iff.1 h
  have hg : gsign n d = 1 := by unfold gsign; rw [h5]; rw [if_neg (by omega)]; rfl
  unfold made
  rw [if_neg (by omega)]
  have e1 : mkN n d = n := by unfold mkN; rw [hg]; exact Int.tdiv_one n
  have e2 : mkD n d = d := by unfold mkD; rw [hg]; exact Int.tdiv_one d
  rw [e1, e2, if_pos h]
theorem sCoef_rootC {n d : Int} {k : Nat} (hf : fracOk n d = true) (h2 : 2 ≤ k) : sCoef n d k = rootC n d k := by
  obtain ⟨h1, _, h3, h4, h5⟩ := fracOk_iff.1 hf
  unfold sCoef rootC
  rw [sizeI_natAbs]
  by_cases hc : rootP (n.natAbs : Int) k < 0 ∨ rootP d k < 0 ∨ (n < 0 ∧ k % 2 = 0)
  · rw [if_pos hc, if_pos hc]
  · rw [if_neg hc, if_neg hc]
    have pa := rootP_pow (n := (n.natAbs : Int)) (k := k) (by omega)
    have pb := rootP_pow (n := d) (k := k) (by omega)
    have ba := rootP_bd (n.natAbs : Int) k
    have bb := rootP_bd d k
    generalize rootP (n.natAbs : Int) k = a at *
    generalize rootP d k = b at *
    have hb0 : 1 ≤ b := by
      rcases Int.lt_or_le b 1 with h | h
      · have : b.toNat = 0 := by omega
        rw [this, Nat.zero_pow (by omega)] at pb
        omega
      · exact h
    have hg : Nat.gcd a.toNat b.toNat = 1 := by
      refine root_coprime (k := k) (by omega) ?_
      have e1 : a.toNat ^ k = n.natAbs := by omega
      have e2 : b.toNat ^ k = d.natAbs := by omega
      rw [e1, e2]
      exact h5
    have hn0 : cmpI n 0 = if n < 0 then -1 else if n = 0 then 0 else 1 := by unfold cmpI; split <;> (try split) <;> (try split) <;> omega
    have hp : a * cmpI n 0 = if n < 0 then -a else a := by
      rw [hn0]
      by_cases hn : n < 0
      · rw [if_pos hn, if_pos hn]; omega
      · rw [if_neg hn, if_neg hn]
        by_cases h0 : n = 0
        · rw [if_pos h0]
          subst h0
          have ha : a.toNat = 0 := by
            rcases Nat.eq_zero_or_pos a.toNat with h | h
            · exact h
            · have := Nat.pow_pos (n := k) h
              have e : a.toNat ^ k = 0 := by
                have hz : ((0 : Int).natAbs : Int) = 0 := rfl
                rw [hz] at pa
                omega
              omega
          omega
        · rw [if_neg h0]; omega
    rw [hp, made_self]
    refine fracOk_iff.2 ⟨hb0, by omega, by split <;> omega, by split <;> omega, ?_⟩
    have : Int.gcd a b = 1 := by
      show Nat.gcd a.natAbs b.natAbs = 1
      rw [show a.natAbs = a.toNat by omega, show b.natAbs = b.toNat by omega]
      exact hg
    split
    · rw [Int.neg_gcd]; exact this
    · exact this
end Go.Proofs.YtonlfnbjbmgegaaGreat
