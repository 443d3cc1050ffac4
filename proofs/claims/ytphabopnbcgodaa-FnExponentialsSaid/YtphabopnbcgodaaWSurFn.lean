/-
  Plain functions on surreal numbers, as the program computes them.
-/
import Derived.Test.YtphabopnbcgodaaWSur
namespace Go.Proofs.Ytphabopnbcgodaa
open Go.RowKit
set_option linter.unusedSimpArgs false
set_option linter.unusedVariables false

def cmpF (n d n' d' : Int) : Int := cmpI (n * d') (n' * d)

/-- the order of two numbers -/
def order : Sur → Sur → Int
  | .nil, .nil => 0
  | .nil, .cons _ n _ _ => -cmpI n 0
  | .cons _ n _ _, .nil => cmpI n 0
  | .cons e n d r, .cons e' n' d' r' => if order e e' = 1 then cmpI n 0 else if order e e' = -1 then -cmpI n' 0 else if cmpF n d n' d' ≠ 0 then cmpF n d n' d' else order r r'

theorem cmpI_range (a b : Int) : cmpI a b = -1 ∨ cmpI a b = 0 ∨ cmpI a b = 1 := by
  unfold cmpI
  repeat' split
  all_goals omega

theorem order_range : ∀ (x y : Sur), order x y = -1 ∨ order x y = 0 ∨ order x y = 1
  | .nil, .nil => by simp [order]
  | .nil, .cons _ n _ _ => by have := cmpI_range n 0; simp only [order]; omega
  | .cons _ n _ _, .nil => by have := cmpI_range n 0; simp only [order]; omega
  | .cons e n d r, .cons e' n' d' r' => by
    have h1 := cmpI_range n 0
    have h2 := cmpI_range n' 0
    have h3 := cmpI_range (n * d') (n' * d)
    have h4 := order_range r r'
    simp only [order]
    split
    · exact h1
    · split
      · omega
      · split
        · exact h3
        · exact h4

theorem cmpI_bd (a b : Int) : -1 ≤ cmpI a b ∧ cmpI a b ≤ 1 := by have := cmpI_range a b; omega
theorem order_bd (x y : Sur) : -1 ≤ order x y ∧ order x y ≤ 1 := by have := order_range x y; omega

theorem order_cons {x y : Sur} {k : Nat} {e e' r r' : Sur} {n d n' d' : Int} (hx : x.drop k = .cons e n d r) (hy : y.drop k = .cons e' n' d' r') (ho : order x y = order (x.drop k) (y.drop k)) :
    (order e e' = 1 → order x y = cmpI n 0) ∧ (order e e' = -1 → order x y = -cmpI n' 0) ∧ (order e e' = 0 → cmpF n d n' d' ≠ 0 → order x y = cmpF n d n' d') ∧
      (order e e' = 0 → cmpF n d n' d' = 0 → order x y = order r r') := by
  rw [ho, hx, hy]
  simp only [order]
  refine ⟨fun h => by simp [h], fun h => by simp [h], fun h h2 => by simp [h, h2], fun h h2 => by simp [h, h2]⟩

theorem Sur.nodes_drop {x : Sur} : ∀ {k : Nat} {e : Sur} {n d : Int} {r : Sur}, x.drop k = .cons e n d r → e.nodes + r.nodes + 1 ≤ x.nodes := by
  induction x with
  | nil => intro k e n d r h; cases k <;> simp [drop] at h
  | cons e0 n0 d0 r0 _ ih =>
    intro k e n d r h
    cases k with
    | zero => simp only [drop] at h; cases h; simp only [nodes]; omega
    | succ k => simp only [drop] at h; have := ih h; simp only [nodes]; omega
theorem Sur.all_drop {p : Int → Int → Prop} {x : Sur} (hx : x.All p) {k : Nat} {e : Sur} {n d : Int} {r : Sur} (h : x.drop k = .cons e n d r) : e.All p ∧ p n d ∧ r.All p := by
  have := hx.drop k
  rw [h] at this
  exact this

end Go.Proofs.Ytphabopnbcgodaa
