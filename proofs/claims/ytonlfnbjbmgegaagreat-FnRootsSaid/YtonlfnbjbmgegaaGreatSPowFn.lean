/-
  PowerTerms: what the reference computes is what the program computes: plain.
-/
import Derived.Test.YtonlfnbjbmgegaaGreatBJ
import Derived.Test.YtonlfnbjbmgegaaGreatBK
import Derived.Test.YtonlfnbjbmgegaaGreatBL
namespace Go.Proofs.YtonlfnbjbmgegaaGreat
open Go.RowKit
set_option linter.unusedSimpArgs false
set_option linter.unusedVariables false

def spE1 (a b i : Int) (b1 : Bool) : Bool := frB b1 (adN a b (1 - i) 1) (adD a b (1 - i) 1)
def spV1 (a b i : Int) (b1 : Bool) : Int × Int := (frN (spE1 a b i b1) (adN a b (1 - i) 1), frN (spE1 a b i b1) (adD a b (1 - i) 1))
def spE2 (a b i : Int) (b1 : Bool) : Bool := frB (spE1 a b i b1) (mkN ((spV1 a b i b1).1 * 1) ((spV1 a b i b1).2 * i)) (mkD ((spV1 a b i b1).1 * 1) ((spV1 a b i b1).2 * i))
def spV2 (a b i : Int) (b1 : Bool) : Int × Int := (frN (spE2 a b i b1) (mkN ((spV1 a b i b1).1 * 1) ((spV1 a b i b1).2 * i)), frN (spE2 a b i b1) (mkD ((spV1 a b i b1).1 * 1) ((spV1 a b i b1).2 * i)))
def spE3 (a b i : Int) (b1 : Bool) (c : Int × Int) : Bool := frB (spE2 a b i b1) (muN c.1 c.2 (spV2 a b i b1).1 (spV2 a b i b1).2) (muD c.1 c.2 (spV2 a b i b1).1 (spV2 a b i b1).2)
def spV3 (a b i : Int) (b1 : Bool) (c : Int × Int) : Int × Int := (frN (spE3 a b i b1 c) (muN c.1 c.2 (spV2 a b i b1).1 (spV2 a b i b1).2), frN (spE3 a b i b1 c) (muD c.1 c.2 (spV2 a b i b1).1 (spV2 a b i b1).2))

theorem frV_ok (bad : Bool) (n d : Int) : FOk (frN (frB bad n d) n) (frN (frB bad n d) d) := by
  unfold frN frB
  cases bad
  · cases h : fracOk n d
    · simp only [Bool.not_false, Bool.or_true, if_true]; exact (by decide : fracOk 1 1 = true)
    · simp only [Bool.not_true, Bool.or_false, Bool.false_eq_true, if_false]; exact h
  · simp only [Bool.true_or, if_true]; exact (by decide : fracOk 1 1 = true)

theorem fSub_sh {a b i : Int} (h : FOk a b) (h1 : 1 ≤ i) (h2 : i ≤ 13) : cfS a b i = if fracOk (adN a b (1 - i) 1) (adD a b (1 - i) 1) = true then some (adN a b (1 - i) 1, adD a b (1 - i) 1) else none := by
  have g := (fracOk_iff.1 h).1
  have hi : fracOk (i - 1) 1 = true := fracOk_iff.2 ⟨by omega, by omega, by omega, by omega, by simp [Int.gcd]⟩
  have e : a * 1 - (i - 1) * b = a * 1 + (1 - i) * b := by rw [show (1 : Int) - i = -(i - 1) from by omega, Int.neg_mul]; omega
  unfold cfS fSubtract two made
  rw [if_pos ⟨h, hi⟩, if_neg (mul_ne0 g (by omega)), e]; rfl
theorem fDiv_sh {n d i : Int} (h : FOk n d) (h1 : 1 ≤ i) (h2 : i ≤ 13) : fDivide n d i 1 = if fracOk (mkN (n * 1) (d * i)) (mkD (n * 1) (d * i)) = true then some (mkN (n * 1) (d * i), mkD (n * 1) (d * i)) else none := by
  have g := (fracOk_iff.1 h).1
  have hi : fracOk i 1 = true := fracOk_iff.2 ⟨by omega, by omega, by omega, by omega, by simp [Int.gcd]⟩
  unfold fDivide two made
  rw [if_pos ⟨h, hi⟩, if_neg (mul_ne0 g h1)]

/-- the coefficients of a step, where nothing failed before -/
theorem coefs_eq {a b i : Int} {c : Int × Int} (h : FOk a b) (hc : FOk c.1 c.2) (h1 : 1 ≤ i) (h2 : i ≤ 13) :
    (spE3 a b i false c = (((false || !(cfS a b i).isSome) || !(cfQ a b i).isSome) || !(cfM a b i c).isSome)) ∧ (spE3 a b i false c = false → spV3 a b i false c = (cfM a b i c).getD (0, 0)) := by
  have e1 := fSub_sh h h1 h2
  cases hf1 : fracOk (adN a b (1 - i) 1) (adD a b (1 - i) 1)
  · rw [hf1] at e1
    simp only [Bool.false_eq_true, if_false] at e1
    have t1 : spE1 a b i false = true := by unfold spE1 frB; rw [hf1]; rfl
    have t2 : spE2 a b i false = true := by unfold spE2; rw [t1]; rfl
    have t3 : spE3 a b i false c = true := by unfold spE3; rw [t2]; rfl
    rw [t3, e1]
    simp
  · rw [hf1] at e1
    simp only [if_true] at e1
    have t1 : spE1 a b i false = false := by unfold spE1 frB; rw [hf1]; rfl
    have v1 : spV1 a b i false = (adN a b (1 - i) 1, adD a b (1 - i) 1) := by unfold spV1; rw [t1]; rfl
    have e2 : cfQ a b i = fDivide (adN a b (1 - i) 1) (adD a b (1 - i) 1) i 1 := by unfold cfQ; rw [e1]; rfl
    rw [fDiv_sh (show FOk _ _ from hf1) h1 h2] at e2
    cases hf2 : fracOk (mkN (adN a b (1 - i) 1 * 1) (adD a b (1 - i) 1 * i)) (mkD (adN a b (1 - i) 1 * 1) (adD a b (1 - i) 1 * i))
    · rw [hf2] at e2
      simp only [Bool.false_eq_true, if_false] at e2
      have t2 : spE2 a b i false = true := by unfold spE2 frB; rw [t1, v1, hf2]; rfl
      have t3 : spE3 a b i false c = true := by unfold spE3; rw [t2]; rfl
      rw [t3, e2]
      simp
    · rw [hf2] at e2
      simp only [if_true] at e2
      have t2 : spE2 a b i false = false := by unfold spE2 frB; rw [t1, v1, hf2]; rfl
      have v2 : spV2 a b i false = (mkN (adN a b (1 - i) 1 * 1) (adD a b (1 - i) 1 * i), mkD (adN a b (1 - i) 1 * 1) (adD a b (1 - i) 1 * i)) := by unfold spV2; rw [t2, v1]; rfl
      have e3 : cfM a b i c = fMultiply c.1 c.2 (mkN (adN a b (1 - i) 1 * 1) (adD a b (1 - i) 1 * i)) (mkD (adN a b (1 - i) 1 * 1) (adD a b (1 - i) 1 * i)) := by unfold cfM; rw [e2]; rfl
      rw [fMul_sh hc (show FOk _ _ from hf2)] at e3
      rw [e1, e2]
      unfold spE3 spV3 spE3 frB
      rw [t2, v2, e3]
      simp only [Option.isSome_some, Bool.not_true, Bool.or_false, Bool.false_or]
      cases hf3 : fracOk (muN c.1 c.2 (mkN (adN a b (1 - i) 1 * 1) (adD a b (1 - i) 1 * i)) (mkD (adN a b (1 - i) 1 * 1) (adD a b (1 - i) 1 * i))) (muD c.1 c.2 (mkN (adN a b (1 - i) 1 * 1) (adD a b (1 - i) 1 * i)) (mkD (adN a b (1 - i) 1 * 1) (adD a b (1 - i) 1 * i)))
      · simp
      · simp [frN]
/-- one step of the reference: the power, the coefficient, whether it failed -/
def spP (z : Sur) (bad : Bool) (p : Sur) (i : Int) : Sur := if 0 < i then slogP z bad p else p
def spB (z : Sur) (a b : Int) (bad : Bool) (p : Sur) (i : Int) (c : Int × Int) : Bool := if 0 < i then spE3 a b i (slogB1 z bad p) c else bad
def spC (z : Sur) (a b : Int) (bad : Bool) (p : Sur) (i : Int) (c : Int × Int) : Int × Int := if 0 < i then spV3 a b i (slogB1 z bad p) c else c
/-- then the sum -/
def spS (p : Sur) (c : Int × Int) : Option Sur := prodS p (termP .nil c.1 c.2)
def spB2 (bad : Bool) (p : Sur) (c : Int × Int) : Bool := bad || !(spS p c).isSome
def spO (bad : Bool) (out p : Sur) (c : Int × Int) : Option Sur := sumS out (keepS bad (spS p c))
def spB3 (bad : Bool) (out p : Sur) (c : Int × Int) : Bool := spB2 bad p c || !(spO bad out p c).isSome
def spOut (bad : Bool) (out p : Sur) (c : Int × Int) : Sur := keepS (spB2 bad p c) (spO bad out p c)
def spowGo (z : Sur) (n a b : Int) : Nat → Int → Bool → Sur → Sur → Int × Int → Bool × Sur
  | 0, _, bad, out, _, _ => (bad, out)
  | k + 1, i, bad, out, p, c => if i < n then spowGo z n a b k (i + 1) (spB3 (spB z a b bad p i c) out (spP z bad p i) (spC z a b bad p i c)) (spOut (spB z a b bad p i c) out (spP z bad p i) (spC z a b bad p i c)) (spP z bad p i) (spC z a b bad p i c) else (bad, out)
def spowTerms (x : Sur) (a b n : Int) : Option Sur :=
  if (sGood x && (fracOk a b && stepsB n)) = true then
    if nearOk x = true then
      let r := spowGo ((nearS x).getD .nil) n a b 13 0 false .nil (termP .nil 1 1) (1, 1)
      if r.1 = true then none else some r.2
    else none
  else none
theorem frB_true (n d : Int) : frB true n d = true := rfl
theorem spE3_true (a b i : Int) (c : Int × Int) : spE3 a b i true c = true := by
  unfold spE3 spE2 spE1; simp [frB]
theorem spowGo_bad (z : Sur) (n a b : Int) : ∀ (k : Nat) (i : Int) (out p : Sur) (c : Int × Int), (spowGo z n a b k i true out p c).1 = true
  | 0, _, _, _, _ => rfl
  | k + 1, i, out, p, c => by
    simp only [spowGo]
    split
    · have : spB z a b true p i c = true := by unfold spB slogB1; split <;> simp [spE3_true]
      rw [this]
      have h3 : ∀ o q e, spB3 true o q e = true := fun o q e => by simp [spB3, spB2]
      rw [h3]
      exact spowGo_bad z n a b k _ _ _ _
    · rfl

/-- while nothing failed, both go the same steps -/
theorem spow_pow (z : Sur) (n a b : Int) (gz : sGood z = true) (hab : FOk a b) (hn : n ≤ 12) : ∀ (k : Nat) (i : Int) (out p : Sur) (c : Int × Int), 0 ≤ i → sGood out = true → sGood p = true → FOk c.1 c.2 →
    ((spowGo z n a b k i false out p c).1 = (powGo z n a b k i false out p c).1) ∧ ((spowGo z n a b k i false out p c).1 = false → (spowGo z n a b k i false out p c).2 = (powGo z n a b k i false out p c).2)
  | 0, _, _, _, _, _, _, _, _ => ⟨rfl, fun _ => rfl⟩
  | k + 1, i, out, p, c, hi, go, gp, hc => by
    simp only [spowGo, powGo]
    by_cases hin : i < n
    · rw [if_pos hin, if_pos (by simp [hin])]
      have e1 : spB z a b false p i c = powB z p a b i c ∧ (powB z p a b i c = false → spP z false p i = powP z p i ∧ spC z a b false p i c = powC a b i c ∧ sGood (powP z p i) = true ∧ FOk (powC a b i c).1 (powC a b i c).2) := by
        unfold spB powB spP powP spC powC
        by_cases h : 0 < i
        · simp only [if_pos h]
          have hm : prodS p z = mulS p z := prodS_mulS gp gz
          unfold slogB1 slogP
          rw [hm]
          rcases hp : mulS p z with _ | p1
          · simp [spE3_true]
          · obtain ⟨c1, c2⟩ := coefs_eq hab hc (i := i) (by omega) (by omega)
            simp only [Option.isSome_some, Bool.not_true, Bool.or_false, Option.getD_some]
            refine ⟨c1, fun hb => ?_⟩
            rw [← c1] at hb
            refine ⟨keepS_ok _ rfl, c2 hb, ?_, ?_⟩
            · rw [← hm] at hp; exact prodS_good hp
            · rw [← c2 hb]; exact frV_ok _ _ _
        · simp only [if_neg h]
          exact ⟨trivial, fun _ => ⟨trivial, trivial, gp, hc⟩⟩
      obtain ⟨e1, e2⟩ := e1
      rw [e1]
      cases hb : powB z p a b i c
      · obtain ⟨q1, q2, gq, gc⟩ := e2 hb
        rw [q1, q2]
        have es : spS (powP z p i) (powC a b i c) = scaleS (powP z p i) (powC a b i c).1 (powC a b i c).2 := prodS_scale gq gc
        unfold spB3 spOut spO spB2
        rw [es]
        rcases hs : scaleS (powP z p i) (powC a b i c).1 (powC a b i c).2 with _ | s
        · simp only [Option.isSome_none, Bool.not_false, Bool.or_true, Bool.true_or]
          rw [powGo_stop _ _ _ _ _ _ _ _ _ _ (by simp)]
          exact ⟨spowGo_bad _ _ _ _ _ _ _ _ _, fun h => by rw [spowGo_bad] at h; cases h⟩
        · have gs : sGood s = true := by rw [← es] at hs; exact prodS_good hs
          simp only [Option.isSome_some, Bool.not_true, Bool.or_false, Bool.false_or, Option.getD_some]
          rw [keepS_ok _ rfl, Option.getD_some, sumS_addS go gs]
          rcases ha : addS out s with _ | o
          · simp only [Option.isSome_none, Bool.not_false, Bool.or_true]
            rw [powGo_stop _ _ _ _ _ _ _ _ _ _ (by simp)]
            exact ⟨spowGo_bad _ _ _ _ _ _ _ _ _, fun h => by rw [spowGo_bad] at h; cases h⟩
          · simp only [Option.isSome_some, Bool.not_true, Bool.or_false, Option.getD_some]
            rw [keepS_ok _ rfl, Option.getD_some]
            exact spow_pow z n a b gz hab hn k (i + 1) o (powP z p i) (powC a b i c) (by omega) (addS_good ha) gq gc
      · have h3 : ∀ o q e, spB3 true o q e = true := fun o q e => by simp [spB3, spB2]
        rw [h3]
        simp only [Bool.true_or]
        rw [powGo_stop _ _ _ _ _ _ _ _ _ _ (by simp)]
        exact ⟨spowGo_bad _ _ _ _ _ _ _ _ _, fun h => by rw [spowGo_bad] at h; cases h⟩
    · rw [if_neg hin, if_neg (fun h => hin h.1)]
      exact ⟨rfl, fun _ => rfl⟩

theorem spowTerms_powT (x : Sur) (a b n : Int) : spowTerms x a b n = powT x a b n := by
  unfold spowTerms powT
  by_cases hg : (sGood x && (fracOk a b && stepsB n)) = true
  · rw [if_pos hg, if_pos hg]
    simp only [Bool.and_eq_true] at hg
    obtain ⟨gx, hf, hn⟩ := hg
    rw [nearOk_bad gx, nearS_lessOne gx]
    cases hb : nearBad false x
    · simp only [Bool.not_false, if_true]
      have gz : sGood ((lessOne x).getD .nil) = true := by
        rcases h : lessOne x with _ | z
        · exact sGood_nil
        · exact addS_good h
      have := spow_pow _ n a b gz (show FOk a b from hf) (stepsB_true hn).2 13 0 .nil (termP .nil 1 1) (1, 1) (by omega) sGood_nil (sGood_real (by decide)) (show FOk 1 1 from (by decide : fracOk 1 1 = true))
      obtain ⟨a1, a2⟩ := this
      have h1 : oneS = termP .nil 1 1 := rfl
      rw [h1, ← a1]
      cases hr : (spowGo ((lessOne x).getD .nil) n a b 13 0 false .nil (termP .nil 1 1) (1, 1)).1
      · simp only [Bool.false_eq_true, if_false]; rw [a2 hr]
      · simp only [if_true]
    · have hs := powGo_stop ((lessOne x).getD .nil) n a b 13 0 true .nil oneS (1, 1) (by simp)
      simp only [hs]
      rfl
  · rw [if_neg hg, if_neg hg]
end Go.Proofs.YtonlfnbjbmgegaaGreat
