/-
  Which numbers are right, as the reference says it: plain.
-/
import Derived.Test.YtphabopnbcgodaaWOkFn
import Derived.Test.YtphabopnbcgodaaWAt
namespace Go.Proofs.Ytphabopnbcgodaa
open Go.RowKit
set_option linter.unusedSimpArgs false
set_option linter.unusedVariables false

/-- what is left of a number of nodes behind the terms -/
def leftT (depth left : Int) : Sur → Int
  | .nil => left
  | .cons e _ _ r => if left < 0 ∨ depth = 0 then -1 else leftT depth (leftT (depth - 1) (left - 1 - 1) e) r
/-- suLeft -/
def leftP (depth left : Int) (x : Sur) : Int := leftT depth (left - 1) x
theorem leftT_cons (depth left : Int) (e : Sur) (n d : Int) (r : Sur) : leftT depth left (.cons e n d r) = if left < 0 ∨ depth = 0 then -1 else leftT depth (leftP (depth - 1) (left - 1) e) r := rfl

theorem leftT_bd : ∀ (x : Sur) (depth left : Int), -2 ≤ left → -2 ≤ leftT depth left x ∧ (leftT depth left x ≤ left ∨ leftT depth left x = -1)
  | .nil, depth, left, h => ⟨h, .inl (Int.le_refl _)⟩
  | .cons e n d r, depth, left, h => by
    simp only [leftT]
    split
    · exact ⟨by omega, .inr rfl⟩
    · rename_i hc
      have h1 := leftT_bd e (depth - 1) (left - 1 - 1) (by omega)
      have h2 := leftT_bd r depth (leftT (depth - 1) (left - 1 - 1) e) h1.1
      omega

/-- suForm behind an exponent -/
def sformP (depth : Int) (x : Sur) : Bool := decide (0 ≤ depth) && formT (6 - depth) none x

theorem leftT_form : ∀ (x : Sur) (depth left : Int) (prev : Option Sur), 0 ≤ depth → 0 ≤ left → formT (6 - depth) prev x = true → (0 ≤ leftT depth left x ↔ (x.nodes : Int) ≤ left + 1) ∧ (0 ≤ leftT depth left x → leftT depth left x = left + 1 - x.nodes)
  | .nil, depth, left, prev, _, h0, _ => by
    have : ((Sur.nil).nodes : Int) = 1 := rfl
    simp only [leftT, this]; omega
  | .cons e n d r, depth, left, prev, hd, h0, h => by
    simp only [formT, Bool.and_eq_true, decide_eq_true_eq] at h
    obtain ⟨_, _, h3, h4, _, h6⟩ := h
    have hn : ((Sur.cons e n d r).nodes : Int) = 1 + (e.nodes : Int) + (r.nodes : Int) := by simp only [Sur.nodes]; omega
    have e1 := e.nodes_pos
    have r1 := r.nodes_pos
    rw [show (6 - depth + 1) = 6 - (depth - 1) from by omega] at h4
    simp only [leftT]
    rw [if_neg (by omega), hn]
    rcases Int.lt_or_le (left - 1 - 1) 0 with hl | hl
    · -- too few are left
      have hneg : leftT (depth - 1) (left - 1 - 1) e < 0 := by
        cases e with
        | nil => simp only [leftT]; omega
        | cons a b c f => simp only [leftT]; rw [if_pos (by omega)]; omega
      have hneg2 : leftT depth (leftT (depth - 1) (left - 1 - 1) e) r < 0 := by
        cases r with
        | nil => simp only [leftT]; omega
        | cons a b c f => simp only [leftT]; rw [if_pos (by omega)]; omega
      omega
    · have he := leftT_form e (depth - 1) (left - 1 - 1) none (by omega) hl h4
      rcases Int.lt_or_le (leftT (depth - 1) (left - 1 - 1) e) 0 with hm | hm
      · have hneg2 : leftT depth (leftT (depth - 1) (left - 1 - 1) e) r < 0 := by
          cases r with
          | nil => simp only [leftT]; omega
          | cons a b c f => simp only [leftT]; rw [if_pos (by omega)]; omega
        omega
      · have hr := leftT_form r depth (leftT (depth - 1) (left - 1 - 1) e) (some e) hd hm h6
        omega

theorem sGood_spec (x : Sur) : (decide (0 ≤ leftP 6 60 x) && sformP 6 x) = sGood x := by
  rw [Bool.eq_iff_iff]
  simp only [sGood, sOk, sformP, leftP, Bool.and_eq_true, decide_eq_true_eq]
  constructor
  · rintro ⟨h1, _, h2⟩
    have h3 := leftT_form x 6 59 none (by omega) (by omega) h2
    have h1 : 0 ≤ leftT 6 59 x := of_decide_eq_true h1
    exact ⟨by omega, by omega, h2⟩
  · rintro ⟨_, h1, h2⟩
    have h3 := leftT_form x 6 59 none (by omega) (by omega) h2
    exact ⟨decide_eq_true (show 0 ≤ leftT 6 59 x by omega), by omega, h2⟩

/-- fractions in lowest terms that are in the same order are the same -/
theorem cmpF_eq {n d n' d' : Int} (h : FOk n d) (h' : FOk n' d') (hc : cmpF n d n' d' = 0) : n = n' ∧ d = d' := by
  obtain ⟨a1, _, _, _, a5⟩ := fracOk_iff.1 h
  obtain ⟨b1, _, _, _, b5⟩ := fracOk_iff.1 h'
  have hm : n * d' = n' * d := by
    unfold cmpF cmpI at hc
    split at hc
    · omega
    · split at hc
      · omega
      · omega
  have h1 : d ∣ d' := by
    have h : d ∣ n * d' := ⟨n', by rw [hm, Int.mul_comm]⟩
    have h := Int.natAbs_dvd_natAbs.2 h
    rw [Int.natAbs_mul] at h
    exact Int.natAbs_dvd_natAbs.1 (Nat.Coprime.dvd_of_dvd_mul_left (show Nat.gcd d.natAbs n.natAbs = 1 from by rw [Nat.gcd_comm]; exact a5) h)
  have h2 : d' ∣ d := by
    have h : d' ∣ n' * d := ⟨n, by rw [← hm, Int.mul_comm]⟩
    have h := Int.natAbs_dvd_natAbs.2 h
    rw [Int.natAbs_mul] at h
    exact Int.natAbs_dvd_natAbs.1 (Nat.Coprime.dvd_of_dvd_mul_left (show Nat.gcd d'.natAbs n'.natAbs = 1 from by rw [Nat.gcd_comm]; exact b5) h)
  have h3 : d = d' := by
    have := Int.le_of_dvd (by omega) h1
    have := Int.le_of_dvd (by omega) h2
    omega
  subst h3
  exact ⟨Int.eq_of_mul_eq_mul_right (by omega) hm, rfl⟩
theorem cmpF_self (n d : Int) : cmpF n d n d = 0 := by unfold cmpF cmpI; simp
theorem cmpF_ne {n d n' d' : Int} (h : FOk n d) (h' : FOk n' d') : cmpF n d n' d' = 0 ↔ (n = n' ∧ d = d') := by
  constructor
  · exact cmpF_eq h h'
  · rintro ⟨rfl, rfl⟩; exact cmpF_self _ _
end Go.Proofs.Ytphabopnbcgodaa
