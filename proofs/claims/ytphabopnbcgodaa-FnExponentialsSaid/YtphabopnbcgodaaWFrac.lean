/-
  Walks: fractions.
-/
import Derived.Test.YtphabopnbcgodaaRows
import Derived.Test.YtphabopnbcgodaaWSurFn
import Derived.WalkKit
import Derived.WalkSpells
import Derived.WalkLawsBesides
import Derived.Deep.QuietTactic
import Derived.BigQuiet
import Derived.Handy
import Derived.Lib.Hide
import Derived.IntWalk
namespace Go.Proofs.Ytphabopnbcgodaa
open Go.RowKit
set_option linter.unusedSimpArgs false
set_option linter.unusedVariables false

set_option maxHeartbeats 400000 in
theorem in_any (a lo hi : Int) (w : World) :
    Calls Try.prog 86 #[.int .i64 a, .int .i64 lo, .int .i64 hi] w fun e w' => e = .returned (.bool (inB a lo hi)) ∧ w = w' := by
  by_cases h1 : lo ≤ a
  · by_cases h2 : a ≤ hi
    · have h : inB a lo hi = true := inB_true.2 ⟨h1, h2⟩
      have H := Lib.hid h; clear h
      go_enter Try.func86, Try.ntmps86
      go_wp2
      go_ret
      exact ⟨by rw [H.out]; rfl, rfl⟩
    · have h : inB a lo hi = false := inB_false.2 (by omega)
      have H := Lib.hid h; clear h
      go_enter Try.func86, Try.ntmps86
      go_wp2
      go_ret
      exact ⟨by rw [H.out]; rfl, rfl⟩
  · have h : inB a lo hi = false := inB_false.2 (by omega)
    have H := Lib.hid h; clear h
    go_enter Try.func86, Try.ntmps86
    go_wp2
    go_ret
    exact ⟨by rw [H.out]; rfl, rfl⟩

set_option maxHeartbeats 400000 in
theorem size_any (a : Int) (h1 : -9223372036854775808 < a) (h2 : a ≤ 9223372036854775807) (w : World) :
    Calls Try.prog 114 #[.int .i64 a] w fun e w' => e = .returned (.int .i64 (a.natAbs : Int)) ∧ w = w' := by
  by_cases h : a < -a
  · have hn : (a.natAbs : Int) = -a := by omega
    have H := Lib.hid hn; clear hn
    go_enter Try.func114, Try.ntmps114
    go_wp2
    go_ret
    exact ⟨by rw [H.out]; rfl, rfl⟩
  · have hn : (a.natAbs : Int) = a := by omega
    have H := Lib.hid hn; clear hn
    go_enter Try.func114, Try.ntmps114
    go_wp2
    go_ret
    exact ⟨by rw [H.out]; rfl, rfl⟩

theorem gcd_step (x y : Int) : Int.gcd y (x.tmod y) = Int.gcd x y := by
  unfold Int.gcd; rw [Int.natAbs_tmod, Nat.gcd_comm y.natAbs, ← Nat.gcd_rec, Nat.gcd_comm]

theorem tmod_lt (x y : Int) (h : y ≠ 0) : (x.tmod y).natAbs < y.natAbs := by
  rw [Int.natAbs_tmod]; exact Nat.mod_lt _ (by omega)


set_option maxHeartbeats 400000 in
theorem gcd_any (a b : Int) (ha : -9223372036854775808 < a) (ha' : a ≤ 9223372036854775807) (hb : -9223372036854775808 < b) (hb' : b ≤ 9223372036854775807) (w : World) :
    Calls Try.prog 87 #[.int .i64 a, .int .i64 b] w fun e w' => e = .returned (.int .i64 (Int.gcd a b : Int)) ∧ Below w.heap.size w w' := by
  go_enter Try.func87, Try.ntmps87
  go_wp2
  go_loopw [0, 1] (fun s0 s1 wr => ∃ x y : Int, s0 = .int .i64 x ∧ s1 = .int .i64 y ∧ Hid (Int.gcd x y = Int.gcd a b) ∧ -9223372036854775808 < x ∧ x ≤ 9223372036854775807 ∧ -9223372036854775808 < y ∧ y ≤ 9223372036854775807 ∧ Below w.heap.size w wr) (fun _ s1 _ => (intOf s1).natAbs)
  case atStart => exact ⟨a, b, rfl, rfl, rfl, by omega, by omega, by omega, by omega, Below.refl _ _⟩
  case round =>
    obtain ⟨x, y, rfl, rfl, hg, hx1, hx2, hy1, hy2, hb⟩ := hrel
    by_cases h0 : y = 0
    · subst h0
      have hg' : Hid ((x.natAbs : Int) = (Int.gcd a b : Int)) := by have := hg.out; simp only [Int.gcd_zero_right] at this; exact congrArg Int.ofNat this
      clear hg
      go_wp2_with (go_at_call 114; refine (size_any _ (by omega) (by omega) _).mono ?_; rintro e w' ⟨rfl, rfl⟩)
      go_ret
      exact ⟨by rw [← hg'.out]; rfl, hb⟩
    · have ht := tmod_lt x y h0
      have h00 : (y == 0) = false := by simpa using h0
      have hs : Hid (Int.gcd y (x.tmod y) = Int.gcd a b) := (gcd_step x y).trans hg.out
      clear hg
      have hw : IntKind.i64.wrap (x.tmod y) = x.tmod y := IntWalk.i64_in _ (by omega)
      go_wp2
      go_quiet (fail)
      go_wp2
      exact ⟨⟨y, _, rfl, rfl, hs, by omega, by omega, by omega, by omega, Below.drewN hb nq⟩, by simpa [intOf] using ht⟩


theorem fracOk_iff {n d : Int} : fracOk n d = true ↔ 1 ≤ d ∧ d ≤ 1000000 ∧ -1000000 ≤ n ∧ n ≤ 1000000 ∧ Int.gcd n d = 1 := by
  simp only [fracOk, Bool.and_eq_true, inB_true, decide_eq_true_eq]; omega

set_option maxHeartbeats 400000 in
theorem IsFraction_any (n d : Int) (w : World) :
    Calls Try.prog 44 #[.agg #[.int .i64 n, .int .i64 d]] w fun e w' => e = .returned (.bool (fracOk n d)) ∧ Below w.heap.size w w' := by
  cases h1 : inB d 1 1000000
  · have h : fracOk n d = false := by simp [fracOk, h1]
    have H := Lib.hid h; clear h
    go_enter Try.func44, Try.ntmps44
    go_wp2_with (go_at_call 86; refine (in_any _ _ _ _).mono ?_; rintro e w' ⟨rfl, rfl⟩)
    go_ret
    exact ⟨by rw [H.out]; rfl, (Below.refl _ _).alloc (Nat.le_refl _) _⟩
  · cases h2 : inB n (-1000000) 1000000
    · have h : fracOk n d = false := by simp [fracOk, h1, h2]
      have H := Lib.hid h; clear h
      go_enter Try.func44, Try.ntmps44
      go_wp2_with (go_at_call 86; refine (in_any _ _ _ _).mono ?_; rintro e w' ⟨rfl, rfl⟩)
      go_ret
      exact ⟨by rw [H.out]; rfl, (Below.refl _ _).alloc (Nat.le_refl _) _⟩
    · have b1 := inB_true.1 h1
      have b2 := inB_true.1 h2
      have h : fracOk n d = ((Int.gcd n d : Int) == 1) := by simp [fracOk, h1, h2]; rfl
      have H := Lib.hid h; clear h
      go_enter Try.func44, Try.ntmps44
      go_wp2_with (first | (go_at_call 86; refine (in_any _ _ _ _).mono ?_; rintro e w' ⟨rfl, rfl⟩) | (go_at_call 87; refine (gcd_any _ _ (by omega) (by omega) (by omega) (by omega) _).mono ?_; rintro e w' ⟨rfl, hb⟩))
      go_ret
      exact ⟨by rw [H.out]; rfl, Below.call ((Below.refl _ _).alloc (Nat.le_refl _) _) (by simp) hb⟩

set_option maxHeartbeats 400000 in
theorem compare_any (a b : Int) (w : World) :
    Calls Try.prog 82 #[.int .i64 a, .int .i64 b] w fun e w' => e = .returned (.int .i64 (cmpI a b)) ∧ w = w' := by
  by_cases h1 : a < b
  · have h : cmpI a b = -1 := by simp [cmpI, h1]
    have H := Lib.hid h; clear h
    go_enter Try.func82, Try.ntmps82
    go_wp2
    go_ret
    exact ⟨by rw [H.out]; rfl, rfl⟩
  · by_cases h2 : b < a
    · have h : cmpI a b = 1 := by simp [cmpI, h1, h2]
      have H := Lib.hid h; clear h
      go_enter Try.func82, Try.ntmps82
      go_wp2
      go_ret
      exact ⟨by rw [H.out]; rfl, rfl⟩
    · have h : cmpI a b = 0 := by simp [cmpI, h1, h2]
      have H := Lib.hid h; clear h
      go_enter Try.func82, Try.ntmps82
      go_wp2
      go_ret
      exact ⟨by rw [H.out]; rfl, rfl⟩

/-- numbers whose products fit -/
def Bd (n d : Int) : Prop := -2147483648 ≤ n ∧ n ≤ 2147483648 ∧ -2147483648 ≤ d ∧ d ≤ 2147483648

theorem mul_bd {a b : Int} (ha : -2147483648 ≤ a ∧ a ≤ 2147483648) (hb : -2147483648 ≤ b ∧ b ≤ 2147483648) : -4611686018427387904 ≤ a * b ∧ a * b ≤ 4611686018427387904 := by
  have h1 : a.natAbs * b.natAbs ≤ 2147483648 * 2147483648 := Nat.mul_le_mul (by omega) (by omega)
  have h2 : (a * b).natAbs = a.natAbs * b.natAbs := Int.natAbs_mul a b
  omega



set_option maxHeartbeats 400000 in
theorem cmpFractions_any (n d n' d' : Int) (h : Bd n d) (h' : Bd n' d') (w : World) :
    Calls Try.prog 83 #[.agg #[.int .i64 n, .int .i64 d], .agg #[.int .i64 n', .int .i64 d']] w fun e w' => e = .returned (.int .i64 (cmpF n d n' d')) ∧ Below w.heap.size w w' := by
  have m1 := mul_bd (a := n) (b := d') ⟨h.1, h.2.1⟩ ⟨h'.2.2.1, h'.2.2.2⟩
  have m2 := mul_bd (a := n') (b := d) ⟨h'.1, h'.2.1⟩ ⟨h.2.2.1, h.2.2.2⟩
  have hw1 : IntKind.i64.wrap (n * d') = n * d' := IntWalk.i64_in _ (by omega)
  have hw2 : IntKind.i64.wrap (n' * d) = n' * d := IntWalk.i64_in _ (by omega)
  go_enter Try.func83, Try.ntmps83
  go_wp2_with (go_at_call 82; refine (compare_any _ _ _).mono ?_; rintro e w' ⟨rfl, rfl⟩)
  go_ret
  exact ⟨rfl, by go_grown⟩

end Go.Proofs.Ytphabopnbcgodaa
