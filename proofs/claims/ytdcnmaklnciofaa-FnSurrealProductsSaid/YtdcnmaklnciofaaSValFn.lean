/-
  Dyadic fractions: plain.
-/
import Derived.Test.YtdcnmaklnciofaaSAlgFn
namespace Go.Proofs.Ytdcnmaklnciofaa
open Go.RowKit
set_option linter.unusedSimpArgs false
set_option linter.unusedVariables false

/-- in lowest terms, a whole number of parts of 2^k, at most m in size -/
def DY (k m : Nat) (n d : Int) : Prop := ∃ A : Int, n * ((2 ^ k : Nat) : Int) = A * d ∧ 0 < d ∧ Int.gcd n d = 1 ∧ A ≤ (m : Int) * ((2 ^ k : Nat) : Int) ∧ -((m : Int) * ((2 ^ k : Nat) : Int)) ≤ A
theorem DY.bd {k m : Nat} {n d : Int} (h : DY k m n d) : 1 ≤ d ∧ d ≤ ((2 ^ k : Nat) : Int) ∧ n ≤ m * d ∧ -(m * d) ≤ n := by
  obtain ⟨A, h1, h2, h3, h4, h5⟩ := h
  have hp : 0 < 2 ^ k := Nat.pow_pos (by omega)
  generalize hu : ((2 ^ k : Nat) : Int) = U at *
  have hU : 0 < U := by omega
  have hd : d ∣ U := by
    have h : d ∣ n * U := ⟨A, by rw [h1, Int.mul_comm]⟩
    have h := Int.natAbs_dvd_natAbs.2 h
    rw [Int.natAbs_mul] at h
    exact Int.natAbs_dvd_natAbs.1 (Nat.Coprime.dvd_of_dvd_mul_left (show Nat.gcd d.natAbs n.natAbs = 1 from by rw [Nat.gcd_comm]; exact h3) h)
  have hle := Int.le_of_dvd hU hd
  refine ⟨by omega, hle, ?_, ?_⟩
  · apply Int.le_of_mul_le_mul_right (a := U) ?_ hU
    have : A * d ≤ (m * U) * d := Int.mul_le_mul_of_nonneg_right h4 (by omega)
    calc n * U = A * d := h1
      _ ≤ (m * U) * d := this
      _ = m * d * U := by rw [Int.mul_assoc, Int.mul_comm U, ← Int.mul_assoc]
  · apply Int.le_of_mul_le_mul_right (a := U) ?_ hU
    have : -(m * U) * d ≤ A * d := Int.mul_le_mul_of_nonneg_right h5 (by omega)
    calc -(↑m * d) * U = -(m * U) * d := by rw [Int.neg_mul, Int.neg_mul, Int.mul_assoc, Int.mul_comm d, ← Int.mul_assoc]
      _ ≤ A * d := this
      _ = n * U := h1.symm
theorem DY.mk {k m : Nat} {N D A : Int} (hD : 0 < D) (h : N * ((2 ^ k : Nat) : Int) = A * D) (h1 : A ≤ (m : Int) * ((2 ^ k : Nat) : Int)) (h2 : -((m : Int) * ((2 ^ k : Nat) : Int)) ≤ A) : DY k m (mkN N D) (mkD N D) := by
  obtain ⟨c1, c2, c3⟩ := mk_cross N D hD
  refine ⟨A, ?_, c2, c3, h1, h2⟩
  apply Int.eq_of_mul_eq_mul_right (a := D) (by omega)
  generalize ((2 ^ k : Nat) : Int) = U at *
  calc mkN N D * U * D = (mkN N D * D) * U := by rw [Int.mul_assoc, Int.mul_comm U, ← Int.mul_assoc]
    _ = (N * mkD N D) * U := by rw [c1]
    _ = (N * U) * mkD N D := by rw [Int.mul_assoc, Int.mul_comm (mkD N D), ← Int.mul_assoc]
    _ = (A * D) * mkD N D := by rw [h]
    _ = A * mkD N D * D := by rw [Int.mul_assoc, Int.mul_comm D, ← Int.mul_assoc]
theorem DY.up {k m : Nat} {n d : Int} (h : DY k m n d) : DY (k + 1) (m + 1) n d := by
  obtain ⟨A, h1, h2, h3, h4, h5⟩ := h
  have hp : ((2 ^ (k + 1) : Nat) : Int) = 2 * ((2 ^ k : Nat) : Int) := by rw [Nat.pow_succ]; omega
  have h0 : (0 : Int) ≤ ((2 ^ k : Nat) : Int) := Int.natCast_nonneg _
  refine ⟨2 * A, ?_, h2, h3, ?_, ?_⟩
  all_goals
    rw [hp]
    generalize ((2 ^ k : Nat) : Int) = U at *
    push_cast
    grind
/-- a whole step -/
theorem DY.one {k m : Nat} {n d : Int} (s : Int) (hs : s = 1 ∨ s = -1) (h : DY k m n d) : DY k (m + 1) (adN n d s 1) (adD n d s 1) := by
  obtain ⟨A, h1, h2, h3, h4, h5⟩ := h
  have h0 : (0 : Int) ≤ ((2 ^ k : Nat) : Int) := Int.natCast_nonneg _
  unfold adN adD
  refine DY.mk (A := A + s * ((2 ^ k : Nat) : Int)) (by omega) ?_ ?_ ?_
  all_goals
    generalize ((2 ^ k : Nat) : Int) = U at *
    push_cast
    rcases hs with rfl | rfl <;> grind
/-- the middle of two -/
theorem DY.add {k m : Nat} {n d n' d' : Int} (h : DY k m n d) (h' : DY k m n' d') : DY k (m + m) (adN n d n' d') (adD n d n' d') := by
  obtain ⟨A, h1, h2, h3, h4, h5⟩ := h
  obtain ⟨B, g1, g2, g3, g4, g5⟩ := h'
  have h0 : (0 : Int) ≤ ((2 ^ k : Nat) : Int) := Int.natCast_nonneg _
  unfold adN adD
  refine DY.mk (A := A + B) (Int.mul_pos h2 g2) ?_ ?_ ?_
  all_goals
    generalize ((2 ^ k : Nat) : Int) = U at *
    push_cast
    grind
theorem DY.half {k m : Nat} {n d : Int} (h : DY k (m + m) n d) : DY (k + 1) m (muN n d 1 2) (muD n d 1 2) := by
  obtain ⟨A, h1, h2, h3, h4, h5⟩ := h
  have hp : ((2 ^ (k + 1) : Nat) : Int) = 2 * ((2 ^ k : Nat) : Int) := by rw [Nat.pow_succ]; omega
  unfold muN muD
  refine DY.mk (A := A) (by omega) ?_ ?_ ?_
  all_goals
    rw [hp]
    generalize ((2 ^ k : Nat) : Int) = U at *
    push_cast at *
    grind
theorem DY.up' {k m : Nat} {n d : Int} (h : DY k m n d) : DY k (m + 1) n d := by
  obtain ⟨A, h1, h2, h3, h4, h5⟩ := h
  have h0 : (0 : Int) ≤ ((2 ^ k : Nat) : Int) := Int.natCast_nonneg _
  refine ⟨A, h1, h2, h3, ?_, ?_⟩
  all_goals
    generalize ((2 ^ k : Nat) : Int) = U at *
    push_cast
    grind
theorem DY.up1 {k m : Nat} {n d : Int} (h : DY k m n d) : DY (k + 1) m n d := by
  obtain ⟨A, h1, h2, h3, h4, h5⟩ := h
  have hp : ((2 ^ (k + 1) : Nat) : Int) = 2 * ((2 ^ k : Nat) : Int) := by rw [Nat.pow_succ]; omega
  refine ⟨2 * A, ?_, h2, h3, ?_, ?_⟩
  all_goals
    rw [hp]
    generalize ((2 ^ k : Nat) : Int) = U at *
    grind
end Go.Proofs.Ytdcnmaklnciofaa
