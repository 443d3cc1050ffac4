/-
  Walks, the reference's side: the parts of a number.
-/
import Derived.Test.YtonlfnbjbmgegaaGreatSOwn
namespace Go.Proofs.YtonlfnbjbmgegaaGreat
open Go.RowKit
set_option linter.unusedSimpArgs false
set_option linter.unusedVariables false

def highP : Sur → Sur
  | .nil => .nil
  | .cons e n d r => if order e .nil = 1 then .cons e n d (highP r) else highP r
def lowP : Sur → Sur
  | .nil => .nil
  | .cons e n d r => if order e .nil = -1 then .cons e n d (lowP r) else lowP r
def realP (a : Int × Int) : Sur → Int × Int
  | .nil => a
  | .cons e n d r => if order e .nil = 0 then realP (n, d) r else realP a r
theorem highP_app : ∀ (x y : Sur), highP (x.app y) = (highP x).app (highP y)
  | .nil, _ => rfl
  | .cons e n d r, y => by
    simp only [Sur.app, highP]
    split
    · rw [highP_app r y]; rfl
    · exact highP_app r y
theorem lowP_app : ∀ (x y : Sur), lowP (x.app y) = (lowP x).app (lowP y)
  | .nil, _ => rfl
  | .cons e n d r, y => by
    simp only [Sur.app, lowP]
    split
    · rw [lowP_app r y]; rfl
    · exact lowP_app r y
theorem realP_app : ∀ (x y : Sur) (a : Int × Int), realP a (x.app y) = realP (realP a x) y
  | .nil, _, _ => rfl
  | .cons e n d r, y, a => by
    simp only [Sur.app, realP]
    split <;> exact realP_app r y _
theorem highP_len : ∀ (x : Sur), (highP x).len ≤ x.len
  | .nil => Nat.le_refl _
  | .cons e n d r => by
    have := highP_len r
    simp only [highP]
    split <;> simp only [Sur.len] <;> omega
theorem lowP_len : ∀ (x : Sur), (lowP x).len ≤ x.len
  | .nil => Nat.le_refl _
  | .cons e n d r => by
    have := lowP_len r
    simp only [lowP]
    split <;> simp only [Sur.len] <;> omega
theorem highP_step {x : Sur} {i : Nat} {e : Sur} {n d : Int} (hx : x.drop i = .cons e n d (x.drop (i + 1))) : highP (x.take (i + 1)) = if order e .nil = 1 then (highP (x.take i)).app (.cons e n d .nil) else highP (x.take i) := by
  rw [x.take_succ i e n d _ hx, highP_app]
  simp only [highP]
  split
  · rfl
  · rw [Sur.app_nil]
theorem lowP_step {x : Sur} {i : Nat} {e : Sur} {n d : Int} (hx : x.drop i = .cons e n d (x.drop (i + 1))) : lowP (x.take (i + 1)) = if order e .nil = -1 then (lowP (x.take i)).app (.cons e n d .nil) else lowP (x.take i) := by
  rw [x.take_succ i e n d _ hx, lowP_app]
  simp only [lowP]
  split
  · rfl
  · rw [Sur.app_nil]
theorem realP_step {x : Sur} {i : Nat} {e : Sur} {n d : Int} {a : Int × Int} (hx : x.drop i = .cons e n d (x.drop (i + 1))) : realP a (x.take (i + 1)) = if order e .nil = 0 then (n, d) else realP a (x.take i) := by
  rw [x.take_succ i e n d _ hx, realP_app]
  simp only [realP]

theorem own_other {W w2 : World} {base : Nat} {e : TypeId} {size : Nat} {v : Value} {n : Nat} {xs : List Value} {row : Option Nat} (h : W.ownsRow base e size v n xs) (hg : W.grownBy w2 row) (hne : ∀ g, v.ownBlock = some g → some g ≠ row) : w2.ownsRow base e size v n xs := by
  obtain ⟨h1, h2⟩ := h
  refine ⟨h1, ?_⟩
  rcases h2 with h2 | ⟨g, cap, cur, hv, hb, hh, r⟩
  · exact .inl h2
  · exact .inr ⟨g, cap, cur, hv, hb, by rw [hg.block g (Array.getElem?_eq_some_iff.1 hh).1 (hne g (by rw [hv]; rfl))]; exact hh, r⟩

/-- the three parts -/
def RetParts (X : Nat → Prop) (w : World) (h : Sur) (a : Int × Int) (l : Sur) (e : Ending) (w' : World) : Prop :=
  ∃ A c A' c', e = .returned (.tuple #[.agg #[.slice A h.len c], .agg #[.int .i64 a.1, .int .i64 a.2], .agg #[.slice A' l.len c']]) ∧ SSl X w' h A c ∧ SSl X w' l A' c' ∧ Below w.heap.size w w'

end Go.Proofs.YtonlfnbjbmgegaaGreat
