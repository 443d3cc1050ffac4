/-
  Walks: quotients, the program's.
-/
import Derived.Test.YtonlfnbjbmgegaaGreatQF
import Derived.Test.YtonlfnbjbmgegaaGreatWCoef
import Derived.Test.YtonlfnbjbmgegaaGreatEN
namespace Go.Proofs.YtonlfnbjbmgegaaGreat
open Go.RowKit
set_option linter.unusedSimpArgs false
set_option linter.unusedVariables false

theorem kpi_cell {w W : World} {mb b i : Nat} [k : KpI w (XE mb) W] (hb : b < w.heap.size) (hn : b ≠ mb) {u : Value} (h : w.cell? ⟨b, i, none⟩ = some u) : W.cell? ⟨b, i, none⟩ = some u := by
  have := k.h.2.2.2.2 b hb hn
  exact (World.cell?_of_block this).trans h
theorem optF_getD (o : Option (Int × Int)) (h : ∀ p q, o = some (p, q) → FOk p q) : I64 (o.getD (0, 0)).1 ∧ I64 (o.getD (0, 0)).2 := by
  rcases o with _ | ⟨p, q⟩
  · simp [I64]
  · exact fracOk_I64 (h p q rfl)
theorem getD_len {o : Option Sur} (h : ∀ z, o = some z → sGood z = true) : (o.getD .nil).len ≤ 60 := by
  rcases o with _ | z
  · simp [Sur.len]
  · exact (sGood_len (h z rfl)).1
theorem kp_cellX {v W : World} {S : Nat → Prop} {b i : Nat} [k : Kp v S W] [x : XNot S b] (hb : b < v.heap.size) {u : Value} (h : v.cell? ⟨b, i, none⟩ = some u) : W.cell? ⟨b, i, none⟩ = some u :=
  (World.cell?_of_block (k.h.2.2.2.2 b hb x.h)).trans h
attribute [local go_sem high] has_cell has_frozen
/-- the first term of a number that has one -/
theorem SSl.at0 {X : Nat → Prop} {w : World} {x : Sur} {A : Option Addr} {c : Nat} (h : SSl X w x A c) (hx : x.len ≠ 0) : ∃ b o A1 d1, A = some ⟨b, o, none⟩ ∧ w.cell? ⟨b, o, none⟩ = some (.slice A1 (fE x).len d1) ∧ w.cell? ⟨b, o + 1, none⟩ = some (.int .i64 (fC x).1) ∧ w.cell? ⟨b, o + 2, none⟩ = some (.int .i64 (fC x).2) ∧ SSl X w (fE x) A1 d1 ∧ ¬ X b ∧ b < w.heap.size := by
  obtain ⟨b, o, e, n, d, A1, d1, hA, hk, q0, q1, q2, se, _, _, hX, hb⟩ := h.at_ (k := 0) (by omega)
  cases x with
  | nil => exact absurd rfl hx
  | cons e' n' d' r =>
    simp only [Sur.drop] at hk
    injection hk with h1 h2 h3
    subst h1 h2 h3
    simp only [Nat.zero_mul, Nat.add_zero] at q0 q1 q2
    exact ⟨b, o, A1, d1, hA, q0, q1, q2, se, hX, hb⟩
theorem divGo_step {y q r : Sur} {n k : Nat} (hk : k < n) (nr : r.len ≠ 0) : divGo y (n - k) false q r = divGo y (n - (k + 1)) (dvB q r y) ((dvQ q r y).getD .nil) ((dvR r y).getD .nil) := by
  rw [show n - k = (n - (k + 1)) + 1 by omega]
  simp only [divGo]
  rw [if_pos ⟨trivial, nr⟩]
end Go.Proofs.YtonlfnbjbmgegaaGreat
