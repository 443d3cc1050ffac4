/-
  Walks, the reference's side: small numbers, what a number is more than 1.
  LogTerms: what the reference computes is what the program computes: plain.
-/
import Derived.Test.YtonlfnbjbmgegaaGreatBJ
import Derived.Test.YtonlfnbjbmgegaaGreatSParts
import Derived.Deep.DeepCutAuto
import Derived.Deep.RegionHeld3
import Derived.Test.YtonlfnbjbmgegaaGreatWLog
namespace Go.Proofs.YtonlfnbjbmgegaaGreat
open Go.RowKit
set_option linter.unusedSimpArgs false
set_option linter.unusedVariables false

def smallP (x : Sur) : Bool := (((highP x).len : Int) == 0) && ((realP (0, 1) x).1 == 0)
theorem low_parts : ∀ {r : Sur} (a : Int × Int), Lt .nil r → highP r = .nil ∧ realP a r = a
  | .nil, _, _ => ⟨rfl, rfl⟩
  | .cons e n d r, a, h => by
    have q : order e .nil = -1 := by rw [order_neg]; have := h.1; omega
    simp only [highP, realP]
    rw [if_neg (by omega), if_neg (by omega)]
    exact low_parts a h.2
theorem smallP_smallS {x : Sur} (hx : x.All GOk) (dx : Dec x) : smallP x = smallS x := by
  cases x with
  | nil => rfl
  | cons e n d r =>
    unfold smallP smallS
    simp only [highP, realP]
    rcases order_range e .nil with q | q | q
    · have hl := low_parts (r := r) (0, 1) (Lt.tr (e := .nil) (e' := e) trivial hx.1 (by rw [order_neg]; omega) hx.2.2 dx.1)
      rw [if_neg (by omega), if_neg (by omega), hl.1, hl.2, q]; rfl
    · have he := order_eq e .nil hx.1 trivial q
      subst he
      have hl := low_parts (r := r) (n, d) dx.1
      rw [if_neg (by omega), if_pos q, hl.1, hl.2, q]
      have hn := hx.2.1.2
      simp [hn]
    · rw [if_pos q, q]
      simp [Sur.len]
      intro h; omega

/-- a number less 1 -/
def mOneS : Sur := termP .nil (-1) 1
def nearS (x : Sur) : Option Sur := sumS x mOneS
def nearOk (x : Sur) : Bool := (nearS x).isSome && smallP ((nearS x).getD .nil)

end Go.Proofs.YtonlfnbjbmgegaaGreat

namespace Go.Proofs.YtonlfnbjbmgegaaGreat
open Go.RowKit
set_option linter.unusedSimpArgs false
set_option linter.unusedVariables false

def sgnI (i : Int) : Int := if (i.tmod 2 == 0) = true then -1 else 1
/-- one step -/
def slogB1 (z : Sur) (bad : Bool) (p : Sur) : Bool := bad || !(prodS p z).isSome
def slogP (z : Sur) (bad : Bool) (p : Sur) : Sur := keepS bad (prodS p z)
def slogS (z : Sur) (bad : Bool) (p : Sur) (i : Int) : Option Sur := prodS (slogP z bad p) (termP .nil (sgnI i) i)
def slogB2 (z : Sur) (bad : Bool) (p : Sur) (i : Int) : Bool := slogB1 z bad p || !(slogS z bad p i).isSome
def slogT (z : Sur) (bad : Bool) (p : Sur) (i : Int) : Sur := keepS (slogB1 z bad p) (slogS z bad p i)
def slogO (z : Sur) (bad : Bool) (out p : Sur) (i : Int) : Option Sur := sumS out (slogT z bad p i)
def slogB3 (z : Sur) (bad : Bool) (out p : Sur) (i : Int) : Bool := slogB2 z bad p i || !(slogO z bad out p i).isSome
def slogOut (z : Sur) (bad : Bool) (out p : Sur) (i : Int) : Sur := keepS (slogB2 z bad p i) (slogO z bad out p i)
/-- the steps of a logarithm, as the reference makes them -/
def slogGo (z : Sur) (n : Int) : Nat → Int → Bool → Sur → Sur → Bool × Sur
  | 0, _, bad, out, _ => (bad, out)
  | k + 1, i, bad, out, p => if i ≤ n then slogGo z n k (i + 1) (slogB3 z bad out p i) (slogOut z bad out p i) (slogP z bad p) else (bad, out)
def slogTerms (x : Sur) (n : Int) : Option Sur :=
  if (sGood x && stepsB n) = true then
    if nearOk x = true then
      let z := (nearS x).getD .nil
      let r := slogGo z n 13 1 false .nil (termP .nil 1 1)
      if r.1 = true then none else some r.2
    else none
  else none

theorem keepS_good {bad : Bool} {o : Option Sur} (h : ∀ z, o = some z → sGood z = true) : sGood (keepS bad o) = true := by
  unfold keepS
  split
  · exact sGood_nil
  · cases o with
    | none => exact sGood_nil
    | some z => exact h z rfl
theorem prodS_good {x y z : Sur} (h : prodS x y = some z) : sGood z = true := by
  unfold prodS at h
  obtain ⟨u, _, hu⟩ := Option.bind_eq_some_iff.1 h
  obtain ⟨rfl, _, hg⟩ := told_eq hu
  exact hg
theorem sgn_ok {i : Int} (h1 : 1 ≤ i) (h2 : i ≤ 12) : fracOk (sgnI i) i = true := by
  have hg : sgnI i = -1 ∨ sgnI i = 1 := by unfold sgnI; split; exact .inl rfl; exact .inr rfl
  rw [fracOk_iff]
  refine ⟨by omega, by omega, by omega, by omega, ?_⟩
  rcases hg with h | h <;> rw [h] <;> simp [Int.gcd]
theorem sgn_eq {i : Int} (h1 : 1 ≤ i) : 2 * i.tmod 2 - 1 = sgnI i := by
  have h : i.tmod 2 = 0 ∨ i.tmod 2 = 1 := by rw [Int.tmod_eq_emod_of_nonneg (by omega)]; omega
  unfold sgnI
  rcases h with h | h <;> rw [h] <;> rfl
theorem slogP_good (z : Sur) (bad : Bool) (p : Sur) : sGood (slogP z bad p) = true := keepS_good fun _ h => prodS_good h
theorem slogT_good (z : Sur) (bad : Bool) (p : Sur) (i : Int) : sGood (slogT z bad p i) = true := keepS_good fun _ h => prodS_good h
theorem slogOut_good (z : Sur) (bad : Bool) (out p : Sur) (i : Int) : sGood (slogOut z bad out p i) = true := keepS_good fun _ h => sumS_good h
/-- once failed, always failed; then there is no number -/
theorem slogGo_bad (z : Sur) (n : Int) : ∀ (k : Nat) (i : Int) (out p : Sur), (slogGo z n k i true out p).1 = true
  | 0, _, _, _ => rfl
  | k + 1, i, out, p => by
    simp only [slogGo]
    split
    · exact slogGo_bad z n k _ _ _
    · rfl
theorem keepS_bad (o : Option Sur) : keepS true o = .nil := rfl
theorem keepS_ok (o : Option Sur) (h : o.isSome = true) : keepS false o = o.getD .nil := by unfold keepS; rw [h]; rfl

/-- while nothing failed, both go the same steps -/
theorem slog_log (z : Sur) (n : Int) (gz : sGood z = true) (hn : n ≤ 12) : ∀ (k : Nat) (i : Int) (out p q : Sur), 1 ≤ i → sGood out = true → sGood q = true → (i = 1 → p = z ∧ q = termP .nil 1 1) → (1 < i → p = q) →
    ((slogGo z n k i false out q).1 = (logGo z n k i false out p).1) ∧ ((slogGo z n k i false out q).1 = false → (slogGo z n k i false out q).2 = (logGo z n k i false out p).2)
  | 0, _, _, _, _, _, _, _, _, _ => ⟨rfl, fun _ => rfl⟩
  | k + 1, i, out, p, q, hi, go, gq, h1, h2 => by
    simp only [slogGo, logGo]
    by_cases hin : i ≤ n
    · rw [if_pos hin, if_pos (by simp [hin])]
      have e1 : prodS q z = logPow z p i := by
        unfold logPow
        by_cases h : 1 < i
        · rw [if_pos h, h2 h]; exact prodS_mulS gq gz
        · obtain ⟨rfl, rfl⟩ := h1 (by omega)
          rw [if_neg h]; exact prodS_one gz
      unfold slogB3 slogOut slogO slogB2 slogT slogS slogB1 slogP
      rw [e1]
      rcases hp : logPow z p i with _ | p1
      · simp only [Option.isSome_none, Bool.not_false, Bool.or_true, Bool.true_or]
        rw [logGo_stop _ _ _ _ _ _ _ (by simp)]
        exact ⟨slogGo_bad _ _ _ _ _ _, fun h => by rw [slogGo_bad] at h; cases h⟩
      · have gp1 : sGood p1 = true := by rw [← e1] at hp; exact prodS_good hp
        have e2 : prodS p1 (termP .nil (sgnI i) i) = logSc p1 i := by
          unfold logSc
          rw [sgn_eq hi]
          exact prodS_scale gp1 (sgn_ok hi (by omega))
        simp only [Option.isSome_some, Bool.not_true, Bool.or_false, Option.getD_some]
        rw [keepS_ok _ rfl, Option.getD_some, e2]
        rcases hs : logSc p1 i with _ | s
        · simp only [Option.isSome_none, Bool.not_false, Bool.or_true, Bool.true_or]
          rw [logGo_stop _ _ _ _ _ _ _ (by simp)]
          exact ⟨slogGo_bad _ _ _ _ _ _, fun h => by rw [slogGo_bad] at h; cases h⟩
        · have gs : sGood s = true := by rw [← e2] at hs; exact prodS_good hs
          simp only [Option.isSome_some, Bool.not_true, Bool.or_false, Option.getD_some]
          rw [keepS_ok _ rfl, Option.getD_some, sumS_addS go gs]
          rcases ha : addS out s with _ | o
          · simp only [Option.isSome_none, Bool.not_false, Bool.or_true]
            rw [logGo_stop _ _ _ _ _ _ _ (by simp)]
            exact ⟨slogGo_bad _ _ _ _ _ _, fun h => by rw [slogGo_bad] at h; cases h⟩
          · simp only [Option.isSome_some, Bool.not_true, Bool.or_false, Option.getD_some]
            rw [keepS_ok _ rfl, Option.getD_some]
            exact slog_log z n gz hn k (i + 1) o p1 p1 (by omega) (addS_good ha) gp1 (fun h => by omega) (fun _ => rfl)
    · rw [if_neg hin, if_neg (fun h => hin h.1)]
      exact ⟨rfl, fun _ => rfl⟩

theorem negP_one : negP oneS = mOneS := by
  unfold oneS mOneS termP
  rw [if_neg (by omega), if_neg (by omega)]
  simp only [negP]
  rw [negI_in (by omega)]
theorem nearS_lessOne {x : Sur} (gx : sGood x = true) : nearS x = lessOne x := by
  unfold nearS lessOne subS
  rw [negP_one]
  exact sumS_addS gx (sGood_real (by decide))
theorem nearOk_bad {x : Sur} (gx : sGood x = true) : nearOk x = !nearBad false x := by
  unfold nearOk nearBad
  rw [nearS_lessOne gx]
  rcases h : lessOne x with _ | z
  · rfl
  · have gz : sGood z = true := addS_good h
    have := sGood_g gz
    simp only [Option.isSome_some, Option.getD_some, smallP_smallS this.1 this.2]
    cases smallS z <;> rfl

theorem slogTerms_logT (x : Sur) (n : Int) : slogTerms x n = logT x n := by
  unfold slogTerms logT
  by_cases hg : (sGood x && stepsB n) = true
  · rw [if_pos hg, if_pos hg]
    simp only [Bool.and_eq_true] at hg
    obtain ⟨gx, hn⟩ := hg
    rw [nearOk_bad gx, nearS_lessOne gx]
    cases hb : nearBad false x
    · simp only [Bool.not_false, if_true]
      have gz : sGood ((lessOne x).getD .nil) = true := by
        rcases h : lessOne x with _ | z
        · exact sGood_nil
        · exact addS_good h
      have := slog_log _ n gz (stepsB_true hn).2 13 1 .nil ((lessOne x).getD .nil) (termP .nil 1 1) (by omega) sGood_nil (sGood_real (by decide)) (fun _ => ⟨rfl, rfl⟩) (fun h => by omega)
      obtain ⟨a1, a2⟩ := this
      rw [← a1]
      cases hr : (slogGo ((lessOne x).getD .nil) n 13 1 false .nil (termP .nil 1 1)).1
      · simp only [Bool.false_eq_true, if_false]; rw [a2 hr]
      · simp only [if_true]
    · have hs := logGo_stop ((lessOne x).getD .nil) n 13 1 true .nil ((lessOne x).getD .nil) (by simp)
      simp only [hs]
      rfl
  · rw [if_neg hg, if_neg hg]
end Go.Proofs.YtonlfnbjbmgegaaGreat
