/-
  Products: plain.
-/
import Derived.Test.YtphabopnbcgodaaWScale
namespace Go.Proofs.Ytphabopnbcgodaa
open Go.RowKit
set_option linter.unusedSimpArgs false
set_option linter.unusedVariables false

/-- AddSurreals -/
def addS (x y : Sur) : Option Sur := if (sGood x && sGood y) = true then (sumP x y).bind fun z => told z true else none
/-- ScaleSurreal -/
def scaleS (x : Sur) (a b : Int) : Option Sur := if (sGood x && fracOk a b) = true then (scaleP x a b).bind fun z => told z true else none
def subS (x y : Sur) : Option Sur := addS x (negP y)
def negS (x : Sur) : Option Sur := if sGood x = true then told (negP x) true else none

theorem told_bind (o : Option Sur) : told (o.getD .nil) o.isSome = o.bind fun z => told z true := by cases o <;> simp [told]
theorem told_eq {x : Sur} {ok : Bool} {z : Sur} (h : told x ok = some z) : z = x ∧ ok = true ∧ sGood x = true := by
  unfold told at h
  split at h
  · rename_i hc
    simp only [Bool.and_eq_true] at hc
    simp only [Option.some.injEq] at h
    exact ⟨h.symm, hc.1, hc.2⟩
  · cases h
theorem sGood_len {x : Sur} (h : sGood x = true) : x.len ≤ 60 ∧ x.nodes ≤ 60 ∧ x.All FOk := by
  have h1 := sOk_nodes h
  have h2 := x.len_lt_nodes
  exact ⟨by omega, by omega, sOk_all h⟩
theorem addS_good {x y z : Sur} (h : addS x y = some z) : sGood z = true := by
  unfold addS at h
  split at h
  · obtain ⟨u, _, hu⟩ := Option.bind_eq_some_iff.1 h
    obtain ⟨rfl, _, hg⟩ := told_eq hu
    exact hg
  · cases h

theorem sumP_all : ∀ (x y : Sur), x.All FOk → y.All FOk → ∀ z, sumP x y = some z → z.All FOk ∧ z.len ≤ x.len + y.len
  | .nil, y, _, hy, z, h => by simp only [sumP, Option.some.injEq] at h; subst h; exact ⟨hy, by simp [Sur.len]⟩
  | .cons e n d r, .nil, hx, _, z, h => by simp only [sumP, Option.some.injEq] at h; subst h; exact ⟨hx, by simp [Sur.len]⟩
  | .cons e n d r, .cons e' n' d' r', hx, hy, z, h => by
    rw [sumP] at h
    split at h
    · obtain ⟨u, hu, rfl⟩ := Option.map_eq_some_iff.1 h
      obtain ⟨h1, h2⟩ := sumP_all r _ hx.2.2 hy u hu
      exact ⟨⟨hx.1, hx.2.1, h1⟩, by simp only [Sur.len] at *; omega⟩
    · split at h
      · obtain ⟨u, hu, rfl⟩ := Option.map_eq_some_iff.1 h
        obtain ⟨h1, h2⟩ := sumP_all _ r' hx hy.2.2 u hu
        exact ⟨⟨hy.1, hy.2.1, h1⟩, by simp only [Sur.len] at *; omega⟩
      · cases hf : fAdd n d n' d' with
        | none => rw [hf] at h; cases h
        | some v =>
          obtain ⟨p, q⟩ := v
          rw [hf] at h
          obtain ⟨u, hu, rfl⟩ := Option.map_eq_some_iff.1 h
          obtain ⟨h1, h2⟩ := sumP_all r r' hx.2.2 hy.2.2 u hu
          split
          · exact ⟨h1, by simp only [Sur.len] at *; omega⟩
          · exact ⟨⟨hx.1, two_ok hf, h1⟩, by simp only [Sur.len] at *; omega⟩
  termination_by x y => x.len + y.len
  decreasing_by all_goals simp only [Sur.len]; omega

/-- the terms of one number times one term, added -/
def mulIn (e : Sur) (n d : Int) : Sur → Sur → Option Sur
  | .nil, out => some out
  | .cons e' n' d' r, out => match addS e e', fMultiply n d n' d' with
    | some z, some (p, q) => (sumP out (termP z p q)).bind (mulIn e n d r)
    | _, _ => none
def mulOut (y : Sur) : Sur → Sur → Option Sur
  | .nil, out => some out
  | .cons e n d r, out => (mulIn e n d y out).bind (mulOut y r)
/-- MultiplySurreals -/
def mulS (x y : Sur) : Option Sur := if (sGood x && sGood y) = true then (mulOut y x .nil).bind fun z => told z true else none

theorem termP_all {z : Sur} {p q : Int} (hz : z.All FOk) (h : FOk p q) : (termP z p q).All FOk ∧ (termP z p q).len ≤ 1 := by
  unfold termP
  split
  · exact ⟨trivial, by simp [Sur.len]⟩
  · exact ⟨⟨hz, h, trivial⟩, by simp [Sur.len]⟩

/-- a step of the inner loop -/
theorem mulIn_step {e y : Sur} {n d : Int} {k : Nat} {out e' : Sur} {n' d' : Int} (hy : y.drop k = .cons e' n' d' (y.drop (k + 1))) :
    (addS e e' = none ∨ fMultiply n d n' d' = none → mulIn e n d (y.drop k) out = none) ∧
    (∀ z p q, addS e e' = some z → fMultiply n d n' d' = some (p, q) → (sumP out (termP z p q) = none → mulIn e n d (y.drop k) out = none) ∧
      ∀ nx, sumP out (termP z p q) = some nx → mulIn e n d (y.drop k) out = mulIn e n d (y.drop (k + 1)) nx) := by
  rw [hy, mulIn]
  refine ⟨?_, ?_⟩
  · rintro (h | h)
    · rw [h]
    · rw [h]; cases addS e e' <;> rfl
  · intro z p q h1 h2
    rw [h1, h2]
    exact ⟨fun h => by simp [h], fun nx h => by simp [h]⟩

end Go.Proofs.Ytphabopnbcgodaa
