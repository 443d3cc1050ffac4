/-
  Which numbers are right, as the reference says it: plain.
  The order of surreal numbers is a linear one: plain.
-/
import Derived.Test.YtonlfnbjbmgegaaGreatBA
import Derived.Test.YtonlfnbjbmgegaaGreatWAt
namespace Go.Proofs.YtonlfnbjbmgegaaGreat
open Go.RowKit
set_option linter.unusedSimpArgs false
set_option linter.unusedVariables false

/-- what is left of a number of nodes behind the terms -/
def leftT (depth left : Int) : Sur → Int
  | .nil => left
  | .cons e _ _ r => if left < 0 ∨ depth = 0 then -1 else leftT depth (leftT (depth - 1) (left - 1 - 1) e) r
/-- suLeft -/
def leftP (depth left : Int) (x : Sur) : Int := leftT depth (left - 1) x
theorem leftT_cons (depth left : Int) (e : Sur) (n d : Int) (r : Sur) : leftT depth left (.cons e n d r) = if left < 0 ∨ depth = 0 then -1 else leftT depth (leftP (depth - 1) (left - 1) e) r := rfl

theorem leftT_bd : ∀ (x : Sur) (depth left : Int), -2 ≤ left → -2 ≤ leftT depth left x ∧ (leftT depth left x ≤ left ∨ leftT depth left x = -1)
  | .nil, depth, left, h => ⟨h, .inl (Int.le_refl _)⟩
  | .cons e n d r, depth, left, h => by
    simp only [leftT]
    split
    · exact ⟨by omega, .inr rfl⟩
    · rename_i hc
      have h1 := leftT_bd e (depth - 1) (left - 1 - 1) (by omega)
      have h2 := leftT_bd r depth (leftT (depth - 1) (left - 1 - 1) e) h1.1
      omega

/-- suForm behind an exponent -/
def sformP (depth : Int) (x : Sur) : Bool := decide (0 ≤ depth) && formT (6 - depth) none x

theorem leftT_form : ∀ (x : Sur) (depth left : Int) (prev : Option Sur), 0 ≤ depth → 0 ≤ left → formT (6 - depth) prev x = true → (0 ≤ leftT depth left x ↔ (x.nodes : Int) ≤ left + 1) ∧ (0 ≤ leftT depth left x → leftT depth left x = left + 1 - x.nodes)
  | .nil, depth, left, prev, _, h0, _ => by
    have : ((Sur.nil).nodes : Int) = 1 := rfl
    simp only [leftT, this]; omega
  | .cons e n d r, depth, left, prev, hd, h0, h => by
    simp only [formT, Bool.and_eq_true, decide_eq_true_eq] at h
    obtain ⟨_, _, h3, h4, _, h6⟩ := h
    have hn : ((Sur.cons e n d r).nodes : Int) = 1 + (e.nodes : Int) + (r.nodes : Int) := by simp only [Sur.nodes]; omega
    have e1 := e.nodes_pos
    have r1 := r.nodes_pos
    rw [show (6 - depth + 1) = 6 - (depth - 1) from by omega] at h4
    simp only [leftT]
    rw [if_neg (by omega), hn]
    rcases Int.lt_or_le (left - 1 - 1) 0 with hl | hl
    · -- too few are left
      have hneg : leftT (depth - 1) (left - 1 - 1) e < 0 := by
        cases e with
        | nil => simp only [leftT]; omega
        | cons a b c f => simp only [leftT]; rw [if_pos (by omega)]; omega
      have hneg2 : leftT depth (leftT (depth - 1) (left - 1 - 1) e) r < 0 := by
        cases r with
        | nil => simp only [leftT]; omega
        | cons a b c f => simp only [leftT]; rw [if_pos (by omega)]; omega
      omega
    · have he := leftT_form e (depth - 1) (left - 1 - 1) none (by omega) hl h4
      rcases Int.lt_or_le (leftT (depth - 1) (left - 1 - 1) e) 0 with hm | hm
      · have hneg2 : leftT depth (leftT (depth - 1) (left - 1 - 1) e) r < 0 := by
          cases r with
          | nil => simp only [leftT]; omega
          | cons a b c f => simp only [leftT]; rw [if_pos (by omega)]; omega
        omega
      · have hr := leftT_form r depth (leftT (depth - 1) (left - 1 - 1) e) (some e) hd hm h6
        omega

theorem sGood_spec (x : Sur) : (decide (0 ≤ leftP 6 60 x) && sformP 6 x) = sGood x := by
  rw [Bool.eq_iff_iff]
  simp only [sGood, sOk, sformP, leftP, Bool.and_eq_true, decide_eq_true_eq]
  constructor
  · rintro ⟨h1, _, h2⟩
    have h3 := leftT_form x 6 59 none (by omega) (by omega) h2
    have h1 : 0 ≤ leftT 6 59 x := of_decide_eq_true h1
    exact ⟨by omega, by omega, h2⟩
  · rintro ⟨_, h1, h2⟩
    have h3 := leftT_form x 6 59 none (by omega) (by omega) h2
    exact ⟨decide_eq_true (show 0 ≤ leftT 6 59 x by omega), by omega, h2⟩

/-- fractions in lowest terms that are in the same order are the same -/
theorem cmpF_eq {n d n' d' : Int} (h : FOk n d) (h' : FOk n' d') (hc : cmpF n d n' d' = 0) : n = n' ∧ d = d' := by
  obtain ⟨a1, _, _, _, a5⟩ := fracOk_iff.1 h
  obtain ⟨b1, _, _, _, b5⟩ := fracOk_iff.1 h'
  have hm : n * d' = n' * d := by
    unfold cmpF cmpI at hc
    split at hc
    · omega
    · split at hc
      · omega
      · omega
  have h1 : d ∣ d' := by
    have h : d ∣ n * d' := ⟨n', by rw [hm, Int.mul_comm]⟩
    have h := Int.natAbs_dvd_natAbs.2 h
    rw [Int.natAbs_mul] at h
    exact Int.natAbs_dvd_natAbs.1 (Nat.Coprime.dvd_of_dvd_mul_left (show Nat.gcd d.natAbs n.natAbs = 1 from by rw [Nat.gcd_comm]; exact a5) h)
  have h2 : d' ∣ d := by
    have h : d' ∣ n' * d := ⟨n, by rw [← hm, Int.mul_comm]⟩
    have h := Int.natAbs_dvd_natAbs.2 h
    rw [Int.natAbs_mul] at h
    exact Int.natAbs_dvd_natAbs.1 (Nat.Coprime.dvd_of_dvd_mul_left (show Nat.gcd d'.natAbs n'.natAbs = 1 from by rw [Nat.gcd_comm]; exact b5) h)
  have h3 : d = d' := by
    have := Int.le_of_dvd (by omega) h1
    have := Int.le_of_dvd (by omega) h2
    omega
  subst h3
  exact ⟨Int.eq_of_mul_eq_mul_right (by omega) hm, rfl⟩
theorem cmpF_self (n d : Int) : cmpF n d n d = 0 := by unfold cmpF cmpI; simp
theorem cmpF_ne {n d n' d' : Int} (h : FOk n d) (h' : FOk n' d') : cmpF n d n' d' = 0 ↔ (n = n' ∧ d = d') := by
  constructor
  · exact cmpF_eq h h'
  · rintro ⟨rfl, rfl⟩; exact cmpF_self _ _
end Go.Proofs.YtonlfnbjbmgegaaGreat

namespace Go.Proofs.YtonlfnbjbmgegaaGreat
open Go.RowKit
set_option linter.unusedSimpArgs false
set_option linter.unusedVariables false

/-- a fraction other than 0 -/
def GOk (n d : Int) : Prop := FOk n d ∧ n ≠ 0
theorem GOk.f {x : Sur} (h : x.All GOk) : x.All FOk := Sur.All.mono (fun _ _ h => h.1) x h

theorem cmpI_neg (a b : Int) : cmpI b a = -cmpI a b := by unfold cmpI; split <;> split <;> omega
theorem cmpI_one {a b : Int} : cmpI a b = 1 ↔ b < a := by unfold cmpI; split; omega; split <;> omega
theorem cmpI_mone {a b : Int} : cmpI a b = -1 ↔ a < b := by unfold cmpI; split; omega; split <;> omega
theorem cmpI_zero {a b : Int} : cmpI a b = 0 ↔ a = b := by unfold cmpI; split; omega; split <;> omega
theorem cmpF_neg (n d n' d' : Int) : cmpF n' d' n d = -cmpF n d n' d' := cmpI_neg _ _
theorem mul_pos_iff {n d : Int} (h : 0 < d) : 0 < n * d ↔ 0 < n := by
  constructor
  · intro h1
    rcases Int.lt_or_le 0 n with h2 | h2
    · exact h2
    · have := Int.mul_nonpos_of_nonpos_of_nonneg h2 (Int.le_of_lt h); omega
  · intro h1; exact Int.mul_pos h1 h
theorem mul_neg_iff {n d : Int} (h : 0 < d) : n * d < 0 ↔ n < 0 := by
  constructor
  · intro h1
    rcases Int.lt_or_le n 0 with h2 | h2
    · exact h2
    · have := Int.mul_nonneg h2 (Int.le_of_lt h); omega
  · intro h1; exact Int.mul_neg_of_neg_of_pos h1 h
theorem cross_le {n1 d1 n2 d2 n3 d3 : Int} (h1 : 0 < d1) (h2 : 0 < d2) (h3 : 0 < d3) (ha : n2 * d1 ≤ n1 * d2) (hb : n3 * d2 ≤ n2 * d3) : n3 * d1 ≤ n1 * d3 := by
  have e1 : n3 * d2 * d1 ≤ n2 * d3 * d1 := Int.mul_le_mul_of_nonneg_right hb (Int.le_of_lt h1)
  have e2 : n2 * d1 * d3 ≤ n1 * d2 * d3 := Int.mul_le_mul_of_nonneg_right ha (Int.le_of_lt h3)
  have e3 : n2 * d3 * d1 = n2 * d1 * d3 := by rw [Int.mul_assoc, Int.mul_comm d3, ← Int.mul_assoc]
  have e4 : n3 * d2 * d1 = n3 * d1 * d2 := by rw [Int.mul_assoc, Int.mul_comm d2, ← Int.mul_assoc]
  have e5 : n1 * d2 * d3 = n1 * d3 * d2 := by rw [Int.mul_assoc, Int.mul_comm d2, ← Int.mul_assoc]
  exact Int.le_of_mul_le_mul_right (a := d2) (by omega) h2
theorem cross_lt {n1 d1 n2 d2 n3 d3 : Int} (h1 : 0 < d1) (h2 : 0 < d2) (h3 : 0 < d3) (ha : n2 * d1 ≤ n1 * d2) (hb : n3 * d2 < n2 * d3) : n3 * d1 < n1 * d3 := by
  have e1 : n3 * d2 * d1 < n2 * d3 * d1 := Int.mul_lt_mul_of_pos_right hb h1
  have e2 : n2 * d1 * d3 ≤ n1 * d2 * d3 := Int.mul_le_mul_of_nonneg_right ha (Int.le_of_lt h3)
  have e3 : n2 * d3 * d1 = n2 * d1 * d3 := by rw [Int.mul_assoc, Int.mul_comm d3, ← Int.mul_assoc]
  have e4 : n3 * d2 * d1 = n3 * d1 * d2 := by rw [Int.mul_assoc, Int.mul_comm d2, ← Int.mul_assoc]
  have e5 : n1 * d2 * d3 = n1 * d3 * d2 := by rw [Int.mul_assoc, Int.mul_comm d2, ← Int.mul_assoc]
  exact Int.lt_of_mul_lt_mul_right (a := d2) (by omega) (Int.le_of_lt h2)
theorem cross_lt' {n1 d1 n2 d2 n3 d3 : Int} (h1 : 0 < d1) (h2 : 0 < d2) (h3 : 0 < d3) (ha : n2 * d1 < n1 * d2) (hb : n3 * d2 ≤ n2 * d3) : n3 * d1 < n1 * d3 := by
  have e1 : n3 * d2 * d1 ≤ n2 * d3 * d1 := Int.mul_le_mul_of_nonneg_right hb (Int.le_of_lt h1)
  have e2 : n2 * d1 * d3 < n1 * d2 * d3 := Int.mul_lt_mul_of_pos_right ha h3
  have e3 : n2 * d3 * d1 = n2 * d1 * d3 := by rw [Int.mul_assoc, Int.mul_comm d3, ← Int.mul_assoc]
  have e4 : n3 * d2 * d1 = n3 * d1 * d2 := by rw [Int.mul_assoc, Int.mul_comm d2, ← Int.mul_assoc]
  have e5 : n1 * d2 * d3 = n1 * d3 * d2 := by rw [Int.mul_assoc, Int.mul_comm d2, ← Int.mul_assoc]
  exact Int.lt_of_mul_lt_mul_right (a := d2) (by omega) (Int.le_of_lt h2)

theorem order_neg : ∀ (x y : Sur), order y x = -order x y
  | .nil, .nil => by simp [order]
  | .nil, .cons _ n _ _ => by simp [order]
  | .cons _ n _ _, .nil => by simp [order]
  | .cons e n d r, .cons e' n' d' r' => by
    have h1 := order_neg e e'
    have h2 := order_neg r r'
    have h3 := cmpF_neg n d n' d'
    simp only [order]
    rcases order_range e e' with q | q | q
    · rw [q] at h1 ⊢; rw [h1]; simp
    · rw [q] at h1 ⊢; rw [h1, h3]; simp only [Int.neg_zero, if_neg (show ¬ ((0 : Int) = 1) by omega), if_neg (show ¬ ((0 : Int) = -1) by omega)]
      by_cases hc : cmpF n d n' d' = 0
      · rw [hc]; simp [h2]
      · rw [if_pos (by omega), if_pos hc]
    · rw [q] at h1 ⊢; rw [h1]; simp
theorem order_self : ∀ (x : Sur), order x x = 0
  | .nil => by simp [order]
  | .cons e n d r => by simp only [order, order_self e, order_self r, cmpF_self]; simp

theorem order_eq : ∀ (x y : Sur), x.All GOk → y.All GOk → order x y = 0 → x = y
  | .nil, .nil, _, _, _ => rfl
  | .nil, .cons _ n _ _, _, hy, h => by
    simp only [order] at h
    have := cmpI_zero.1 (show cmpI n 0 = 0 by omega)
    exact absurd this hy.2.1.2
  | .cons _ n _ _, .nil, hx, _, h => by
    simp only [order] at h
    exact absurd (cmpI_zero.1 h) hx.2.1.2
  | .cons e n d r, .cons e' n' d' r', hx, hy, h => by
    simp only [order] at h
    rcases order_range e e' with q | q | q
    · rw [q] at h; simp at h; exact absurd (cmpI_zero.1 h) hy.2.1.2
    · rw [q] at h; simp only [if_neg (show ¬ ((0 : Int) = 1) by omega), if_neg (show ¬ ((0 : Int) = -1) by omega)] at h
      have he := order_eq e e' hx.1 hy.1 q
      by_cases hc : cmpF n d n' d' = 0
      · rw [if_neg (by simpa using hc)] at h
        obtain ⟨rfl, rfl⟩ := cmpF_eq hx.2.1.1 hy.2.1.1 hc
        rw [he, order_eq r r' hx.2.2 hy.2.2 h]
      · rw [if_pos hc] at h; exact absurd h hc
    · rw [q] at h; simp at h; exact absurd (cmpI_zero.1 h) hx.2.1.2

theorem FOk.pos {n d : Int} (h : FOk n d) : 0 < d := by have := (fracOk_iff.1 h).1; omega

/-- what it means that a number is greater: the first terms decide, or the rest -/
theorem order_cc {e e' r r' : Sur} {n d n' d' : Int} : order (.cons e n d r) (.cons e' n' d' r') = 1 ↔ (order e e' = 1 ∧ 0 < n) ∨ (order e e' = -1 ∧ n' < 0) ∨ (order e e' = 0 ∧ n' * d < n * d') ∨ (order e e' = 0 ∧ n * d' = n' * d ∧ order r r' = 1) := by
  have c1 := cmpI_one (a := n) (b := 0)
  have c2 := cmpI_mone (a := n') (b := 0)
  have c3 : cmpF n d n' d' = 1 ↔ n' * d < n * d' := cmpI_one
  have c4 : cmpF n d n' d' = 0 ↔ n * d' = n' * d := cmpI_zero
  have r3 := cmpI_range (n * d') (n' * d)
  simp only [order]
  rcases order_range e e' with q | q | q
  · rw [q]; simp; omega
  · rw [q]; simp only [if_neg (show ¬ ((0 : Int) = 1) by omega), if_neg (show ¬ ((0 : Int) = -1) by omega)]
    by_cases hc : cmpF n d n' d' = 0
    · rw [if_neg (by simpa using hc)]
      have := c4.1 hc
      simp; omega
    · rw [if_pos hc]
      have := mt c4.2 hc
      simp; omega
  · rw [q]; simp; omega
theorem order_cn {e r : Sur} {n d : Int} : order (.cons e n d r) .nil = 1 ↔ 0 < n := by simp only [order]; exact cmpI_one
theorem order_nc {e r : Sur} {n d : Int} : order .nil (.cons e n d r) = 1 ↔ n < 0 := by
  simp only [order]
  have := cmpI_mone (a := n) (b := 0)
  omega
theorem order_nn : ¬ order .nil .nil = 1 := by simp [order]

theorem order_trans (N : Nat) : ∀ (x y z : Sur), x.nodes + y.nodes + z.nodes ≤ N → x.All GOk → y.All GOk → z.All GOk → order x y = 1 → order y z = 1 → order x z = 1 := by
  induction N with
  | zero => intro x y z hN; have := x.nodes_pos; omega
  | succ N ih =>
    intro x y z hN hx hy hz h1 h2
    cases x with
    | nil =>
      cases y with
      | nil => exact absurd h1 order_nn
      | cons e2 n2 d2 r2 =>
        cases z with
        | nil => have := order_nc.1 h1; have := order_cn.1 h2; omega
        | cons e3 n3 d3 r3 =>
          have a := order_nc.1 h1
          have p2 := hy.2.1.1.pos
          have p3 := hz.2.1.1.pos
          rw [order_nc]
          have a' := (mul_neg_iff (n := n2) p3).2 a
          rcases order_cc.1 h2 with ⟨_, h⟩ | ⟨_, h⟩ | ⟨_, h⟩ | ⟨_, h, _⟩
          · omega
          · exact h
          · exact (mul_neg_iff (n := n3) p2).1 (by omega)
          · exact (mul_neg_iff (n := n3) p2).1 (by omega)
    | cons e1 n1 d1 r1 =>
      have p1 := hx.2.1.1.pos
      cases y with
      | nil =>
        have a := order_cn.1 h1
        cases z with
        | nil => exact absurd h2 order_nn
        | cons e3 n3 d3 r3 =>
          have b := order_nc.1 h2
          have p3 := hz.2.1.1.pos
          have a' := (mul_pos_iff (n := n1) p3).2 a
          have b' := (mul_neg_iff (n := n3) p1).2 b
          rw [order_cc]
          rcases order_range e1 e3 with q | q | q
          · exact .inr (.inl ⟨q, b⟩)
          · exact .inr (.inr (.inl ⟨q, by omega⟩))
          · exact .inl ⟨q, a⟩
      | cons e2 n2 d2 r2 =>
        have p2 := hy.2.1.1.pos
        cases z with
        | nil =>
          have a := order_cn.1 h2
          have a' := (mul_pos_iff (n := n2) p1).2 a
          rw [order_cn]
          rcases order_cc.1 h1 with ⟨_, h⟩ | ⟨_, h⟩ | ⟨_, h⟩ | ⟨_, h, _⟩
          · exact h
          · omega
          · exact (mul_pos_iff (n := n1) p2).1 (by omega)
          · exact (mul_pos_iff (n := n1) p2).1 (by omega)
        | cons e3 n3 d3 r3 =>
          have p3 := hz.2.1.1.pos
          simp only [Sur.nodes] at hN
          have T : order e1 e2 = 1 → order e2 e3 = 1 → order e1 e3 = 1 := ih e1 e2 e3 (by omega) hx.1 hy.1 hz.1
          have T' : order e1 e2 = -1 → order e2 e3 = -1 → order e1 e3 = -1 := fun a b => by
            have := ih e3 e2 e1 (by omega) hz.1 hy.1 hx.1 (by rw [order_neg]; omega) (by rw [order_neg]; omega)
            rw [order_neg]; omega
          have E1 : order e1 e2 = 0 → e1 = e2 := order_eq e1 e2 hx.1 hy.1
          have E2 : order e2 e3 = 0 → e2 = e3 := order_eq e2 e3 hy.1 hz.1
          have TR : order r1 r2 = 1 → order r2 r3 = 1 → order r1 r3 = 1 := ih r1 r2 r3 (by omega) hx.2.2 hy.2.2 hz.2.2
          rw [order_cc]
          rcases order_cc.1 h1 with ⟨o1, g1⟩ | ⟨o1, g1⟩ | ⟨o1, g1⟩ | ⟨o1, g1, g1'⟩ <;> rcases order_cc.1 h2 with ⟨o2, g2⟩ | ⟨o2, g2⟩ | ⟨o2, g2⟩ | ⟨o2, g2, g2'⟩
          · exact .inl ⟨T o1 o2, g1⟩
          · rcases order_range e1 e3 with q | q | q
            · exact .inr (.inl ⟨q, g2⟩)
            · have a' := (mul_pos_iff (n := n1) p3).2 g1
              have b' := (mul_neg_iff (n := n3) p1).2 g2
              exact .inr (.inr (.inl ⟨q, by omega⟩))
            · exact .inl ⟨q, g1⟩
          · rw [← E2 o2]; exact .inl ⟨o1, g1⟩
          · rw [← E2 o2]; exact .inl ⟨o1, g1⟩
          · omega
          · exact .inr (.inl ⟨T' o1 o2, g2⟩)
          · have a' := (mul_neg_iff (n := n2) p3).2 g1
            rw [← E2 o2]; exact .inr (.inl ⟨o1, (mul_neg_iff (n := n3) p2).1 (by omega)⟩)
          · have a' := (mul_neg_iff (n := n2) p3).2 g1
            rw [← E2 o2]; exact .inr (.inl ⟨o1, (mul_neg_iff (n := n3) p2).1 (by omega)⟩)
          · have a' := (mul_pos_iff (n := n2) p1).2 g2
            rw [E1 o1]; exact .inl ⟨o2, (mul_pos_iff (n := n1) p2).1 (by omega)⟩
          · rw [E1 o1]; exact .inr (.inl ⟨o2, g2⟩)
          · rw [E1 o1]; exact .inr (.inr (.inl ⟨o2, cross_lt p1 p2 p3 (Int.le_of_lt g1) g2⟩))
          · rw [E1 o1]; exact .inr (.inr (.inl ⟨o2, cross_lt' p1 p2 p3 g1 (Int.le_of_eq g2.symm)⟩))
          · have a' := (mul_pos_iff (n := n2) p1).2 g2
            rw [E1 o1]; exact .inl ⟨o2, (mul_pos_iff (n := n1) p2).1 (by omega)⟩
          · rw [E1 o1]; exact .inr (.inl ⟨o2, g2⟩)
          · rw [E1 o1]; exact .inr (.inr (.inl ⟨o2, cross_lt p1 p2 p3 (Int.le_of_eq g1.symm) g2⟩))
          · have k1 := cross_le p1 p2 p3 (Int.le_of_eq g1.symm) (Int.le_of_eq g2.symm)
            have k2 := cross_le p3 p2 p1 (Int.le_of_eq g2) (Int.le_of_eq g1)
            rw [E1 o1]; exact .inr (.inr (.inr ⟨o2, by omega, TR g1' g2'⟩))
theorem order_tr {x y z : Sur} (hx : x.All GOk) (hy : y.All GOk) (hz : z.All GOk) (h1 : order x y = 1) (h2 : order y z = 1) : order x z = 1 :=
  order_trans _ x y z (Nat.le_refl _) hx hy hz h1 h2

/-- all exponents are less -/
def Lt (e : Sur) : Sur → Prop
  | .nil => True
  | .cons e' _ _ r => order e e' = 1 ∧ Lt e r
/-- exponents decrease -/
def Dec : Sur → Prop
  | .nil => True
  | .cons e _ _ r => Lt e r ∧ Dec r
theorem Lt.tr {e e' : Sur} (he : e.All GOk) (he' : e'.All GOk) (h : order e e' = 1) : ∀ {r : Sur}, r.All GOk → Lt e' r → Lt e r
  | .nil, _, _ => trivial
  | .cons e2 n d r, hr, hl => ⟨order_tr he he' hr.1 h hl.1, Lt.tr he he' h hr.2.2 hl.2⟩
theorem formT_g : ∀ {x : Sur} {deep : Int} {prev : Option Sur}, formT deep prev x = true → x.All GOk
  | .nil, _, _, _ => trivial
  | .cons e n d r, deep, prev, h => by
    simp only [formT, Bool.and_eq_true, decide_eq_true_eq] at h
    exact ⟨formT_g h.2.2.2.1, ⟨h.1, h.2.1⟩, formT_g h.2.2.2.2.2⟩
theorem formT_dec : ∀ {x : Sur} {deep : Int} {prev : Option Sur}, formT deep prev x = true → Dec x ∧ (∀ p, prev = some p → p.All GOk → Lt p x)
  | .nil, _, _, _ => ⟨trivial, fun _ _ _ => trivial⟩
  | .cons e n d r, deep, prev, h => by
    have hg := formT_g h
    simp only [formT, Bool.and_eq_true, decide_eq_true_eq] at h
    obtain ⟨_, _, _, _, h5, h6⟩ := h
    obtain ⟨i1, i2⟩ := formT_dec h6
    have hl := i2 e rfl hg.1
    refine ⟨⟨hl, i1⟩, fun p hp hpg => ?_⟩
    subst hp
    simp only [prevOk, decide_eq_true_eq] at h5
    have h5' : order p e = 1 := by have := order_range p e; omega
    exact ⟨h5', Lt.tr hpg hg.1 h5' hg.2.2 hl⟩
theorem sGood_g {x : Sur} (h : sGood x = true) : x.All GOk ∧ Dec x := by
  simp only [sGood, sOk, Bool.and_eq_true] at h
  exact ⟨formT_g h.2.2, (formT_dec h.2.2).1⟩
end Go.Proofs.YtonlfnbjbmgegaaGreat
