/-
  ExpTerms: what the program computes, and what the reference computes, plain.
  Roots: what the program computes, plain.
  What exponentials, logarithms and powers are as functionals; what is negligible. Plain.
  PowerTerms: what the program computes, plain.
  Power terms as functionals: sums of exponents, integers. Plain.
-/
import Derived.Test.YtonlfnbjbmgegaaGreatWLog
import Derived.Test.YtonlfnbjbmgegaaGreatBK
import Derived.Test.YtonlfnbjbmgegaaGreatBF
import Derived.Test.YtonlfnbjbmgegaaGreatBI
namespace Go.Proofs.YtonlfnbjbmgegaaGreat
open Go.RowKit
set_option linter.unusedSimpArgs false
set_option linter.unusedVariables false

/-- what a step makes of the term, and whether it failed -/
def expP (x t : Sur) (i : Int) : Sur := if 0 < i then (scaleS ((mulS t x).getD .nil) 1 i).getD .nil else t
def expB (x t : Sur) (i : Int) : Bool := if 0 < i then (false || !(mulS t x).isSome) || !(scaleS ((mulS t x).getD .nil) 1 i).isSome else false
/-- the steps of an exponential, as the program makes them -/
def expGo (x : Sur) (n : Int) : Nat → Int → Bool → Sur → Sur → Bool × Sur
  | 0, _, bad, out, _ => (bad, out)
  | k + 1, i, bad, out, t =>
    if i < n ∧ bad = false then expGo x n k (i + 1) (expB x t i || !(addS out (expP x t i)).isSome) ((addS out (expP x t i)).getD .nil) (expP x t i)
    else (bad, out)
def expT (x : Sur) (n : Int) : Option Sur :=
  if (sGood x && (stepsB n && smallS x)) = true then
    let r := expGo x n 13 0 false .nil oneS
    if r.1 = true then none else some r.2
  else none
theorem expGo_stop (x : Sur) (n : Int) (k : Nat) (i : Int) (bad : Bool) (out t : Sur) (h : ¬ (i < n ∧ bad = false)) : expGo x n k i bad out t = (bad, out) := by
  cases k with
  | zero => rfl
  | succ k => simp only [expGo]; rw [if_neg h]
theorem expGo_step (x : Sur) (n : Int) (i : Nat) (out t : Sur) (h : (i : Int) < n) (hi : i ≤ 12) : expGo x n (13 - i) i false out t =
    expGo x n (13 - (i + 1)) ((i + 1 : Nat) : Int) (expB x t i || !(addS out (expP x t i)).isSome) ((addS out (expP x t i)).getD .nil) (expP x t i) := by
  rw [show 13 - i = (13 - (i + 1)) + 1 from by omega]
  simp only [expGo]
  rw [if_pos (by simp [h])]
  rfl

/- the reference's side -/
def sexB1 (x : Sur) (bad : Bool) (t : Sur) : Bool := bad || !(prodS t x).isSome
def sexM (x : Sur) (bad : Bool) (t : Sur) : Sur := keepS bad (prodS t x)
def sexS (x : Sur) (bad : Bool) (t : Sur) (i : Int) : Option Sur := prodS (sexM x bad t) (termP .nil 1 i)
def sexP (x : Sur) (bad : Bool) (t : Sur) (i : Int) : Sur := if 0 < i then keepS (sexB1 x bad t) (sexS x bad t i) else t
def sexB (x : Sur) (bad : Bool) (t : Sur) (i : Int) : Bool := if 0 < i then sexB1 x bad t || !(sexS x bad t i).isSome else bad
def sexO (x : Sur) (bad : Bool) (out t : Sur) (i : Int) : Sur := keepS (sexB x bad t i) (sumS out (sexP x bad t i))
def sexC (x : Sur) (bad : Bool) (out t : Sur) (i : Int) : Bool := sexB x bad t i || !(sumS out (sexP x bad t i)).isSome
def sexGo (x : Sur) (n : Int) : Nat → Int → Bool → Sur → Sur → Bool × Sur
  | 0, _, bad, out, _ => (bad, out)
  | k + 1, i, bad, out, t => if i < n then sexGo x n k (i + 1) (sexC x bad out t i) (sexO x bad out t i) (sexP x bad t i) else (bad, out)
def sexTerms (x : Sur) (n : Int) : Option Sur :=
  if (sGood x && (smallS x && stepsB n)) = true then
    let r := sexGo x n 13 0 false .nil (termP .nil 1 1)
    if r.1 = true then none else some r.2
  else none
theorem sexGo_stop (x : Sur) (n : Int) (k : Nat) (i : Int) (bad : Bool) (out t : Sur) (h : ¬ i < n) : sexGo x n k i bad out t = (bad, out) := by
  cases k with
  | zero => rfl
  | succ k => simp only [sexGo]; rw [if_neg h]
theorem sexGo_step (x : Sur) (n : Int) (i : Nat) (bad : Bool) (out t : Sur) (h : (i : Int) < n) (hi : i ≤ 12) : sexGo x n (13 - i) i bad out t =
    sexGo x n (13 - (i + 1)) ((i + 1 : Nat) : Int) (sexC x bad out t i) (sexO x bad out t i) (sexP x bad t i) := by
  rw [show 13 - i = (13 - (i + 1)) + 1 from by omega]
  simp only [sexGo]
  rw [if_pos h]
  rfl
theorem sexM_good (x : Sur) (bad : Bool) (t : Sur) : sGood (sexM x bad t) = true := keepS_good fun _ h => prodS_good h
theorem sexP_good {x : Sur} {bad : Bool} {t : Sur} {i : Int} (h : sGood t = true) : sGood (sexP x bad t i) = true := by
  unfold sexP
  split
  · exact keepS_good fun _ h => prodS_good h
  · exact h
theorem sexO_good (x : Sur) (bad : Bool) (out t : Sur) (i : Int) : sGood (sexO x bad out t i) = true := keepS_good fun _ h => sumS_good h
theorem sexO_nil (x : Sur) (bad : Bool) (out t : Sur) (i : Int) (h : sexC x bad out t i = true) : sexO x bad out t i = .nil := by unfold sexC at h; unfold sexO keepS; rw [h]; rfl
theorem sexGo_bad (x : Sur) (n : Int) : ∀ (k : Nat) (i : Int) (out t : Sur), (sexGo x n k i true out t).1 = true
  | 0, _, _, _ => rfl
  | k + 1, i, out, t => by
    simp only [sexGo]
    split
    · have : sexC x true out t i = true := by unfold sexC sexB sexB1; split <;> rfl
      rw [this]
      exact sexGo_bad x n k _ _ _
    · rfl
theorem one_ok {i : Int} (h1 : 1 ≤ i) (h2 : i ≤ 13) : fracOk 1 i = true := by
  rw [fracOk_iff]
  exact ⟨by omega, by omega, by omega, by omega, by simp [Int.gcd]⟩
theorem scaleS_right {x z : Sur} {a b : Int} (h : scaleS x a b = some z) : sGood z = true := by
  unfold scaleS at h
  split at h
  · obtain ⟨u, _, hu⟩ := Option.bind_eq_some_iff.1 h
    obtain ⟨rfl, _, hg⟩ := told_eq hu
    exact hg
  · cases h
/-- while nothing failed, both go the same steps -/
theorem sex_exp (x : Sur) (n : Int) (gx : sGood x = true) (hn : n ≤ 12) : ∀ (k : Nat) (i : Int) (out t : Sur), 0 ≤ i → sGood out = true → sGood t = true →
    ((sexGo x n k i false out t).1 = (expGo x n k i false out t).1) ∧ ((sexGo x n k i false out t).1 = false → (sexGo x n k i false out t).2 = (expGo x n k i false out t).2)
  | 0, _, _, _, _, _, _ => ⟨rfl, fun _ => rfl⟩
  | k + 1, i, out, t, hi, go, gt => by
    simp only [sexGo, expGo]
    by_cases hin : i < n
    · rw [if_pos hin, if_pos (by simp [hin])]
      have eB : sexB x false t i = expB x t i ∧ (sexB x false t i = false → sexP x false t i = expP x t i ∧ sGood (expP x t i) = true) := by
        unfold sexB expB sexP expP
        by_cases h : 0 < i
        · rw [if_pos h, if_pos h, if_pos h, if_pos h]
          have e1 : prodS t x = mulS t x := prodS_mulS gt gx
          have b1 : sexB1 x false t = !(mulS t x).isSome := by unfold sexB1; rw [e1]; rfl
          rw [b1]
          cases hm : mulS t x with
          | none => exact ⟨by simp, fun h => by simp at h⟩
          | some m =>
            have gm := (mulS_some hm).2.2.2
            have e2 : sexM x false t = m := by unfold sexM keepS; rw [e1, hm]; rfl
            have e3 : sexS x false t i = scaleS m 1 i := by
              unfold sexS
              rw [e2]
              exact prodS_scale gm (one_ok (by omega) (by omega))
            rw [e3]
            simp only [Option.isSome_some, Option.getD_some, Bool.not_true, Bool.or_false, Bool.false_or]
            refine ⟨trivial, fun h => ?_⟩
            cases hs : scaleS m 1 i with
            | none => rw [hs] at h; simp at h
            | some s => exact ⟨by unfold keepS; rfl, scaleS_right hs⟩
        · rw [if_neg h, if_neg h, if_neg h, if_neg h]
          exact ⟨rfl, fun _ => ⟨rfl, gt⟩⟩
      cases hb : sexB x false t i
      · obtain ⟨eP, gP⟩ := eB.2 hb
        have hb' := eB.1.symm.trans hb
        have eC : sexC x false out t i = !(addS out (expP x t i)).isSome := by unfold sexC; rw [hb, eP, sumS_addS go gP]; rfl
        rw [eC, hb', Bool.false_or]
        cases ha : addS out (expP x t i) with
        | none =>
          simp only [Option.isSome_none, Bool.not_false]
          refine ⟨?_, fun h => ?_⟩
          · rw [sexGo_bad]
            cases k with
            | zero => rfl
            | succ k => simp only [expGo]; rw [if_neg (by simp)]
          · rw [sexGo_bad] at h; cases h
        | some o =>
          have eO : sexO x false out t i = o := by unfold sexO keepS; rw [hb, eP, sumS_addS go gP, ha]; rfl
          rw [eO, eP]
          simp only [Option.isSome_some, Bool.not_true, Option.getD_some]
          exact sex_exp x n gx hn k (i + 1) o _ (by omega) (addS_good ha) gP
      · have hb' := eB.1.symm.trans hb
        have eC : sexC x false out t i = true := by unfold sexC; rw [hb]; rfl
        rw [eC, hb', Bool.true_or]
        refine ⟨?_, fun h => ?_⟩
        · rw [sexGo_bad]
          cases k with
          | zero => rfl
          | succ k => simp only [expGo]; rw [if_neg (by simp)]
        · rw [sexGo_bad] at h; cases h
    · rw [if_neg hin, if_neg (by simp [hin])]
      exact ⟨rfl, fun _ => rfl⟩
/-- the reference computes what the program computes -/
theorem sexTerms_expT (x : Sur) (n : Int) : sexTerms x n = expT x n := by
  unfold sexTerms expT
  cases g : sGood x <;> cases s : smallS x <;> cases t : stepsB n <;> simp only [Bool.and_true, Bool.and_false, Bool.false_and, Bool.true_and, Bool.false_eq_true, if_false, if_true]
  have hn := (stepsB_true t).2
  obtain ⟨h1, h2⟩ := sex_exp x n g hn 13 0 .nil (termP .nil 1 1) (by omega) sGood_nil (sGood_real (by decide))
  have e : oneS = termP .nil 1 1 := rfl
  rw [e]
  cases hb : (sexGo x n 13 0 false .nil (termP .nil 1 1)).1
  · rw [← h1, hb, h2 hb]
  · rw [← h1, hb]; rfl
end Go.Proofs.YtonlfnbjbmgegaaGreat

namespace Go.Proofs.YtonlfnbjbmgegaaGreat
open Go.RowKit
set_option linter.unusedSimpArgs false
set_option linter.unusedVariables false

def rootGo (n : Int) (k : Nat) : Nat → Nat → Int
  | 0, _ => -1
  | f + 1, r => if n ≤ ((r ^ k : Nat) : Int) then (if n < ((r ^ k : Nat) : Int) then -1 else r) else rootGo n k f (r + 1)
/-- the root of a number of at least 0; -1 without one -/
def rootP (n : Int) (k : Nat) : Int := rootGo n k 1002 0
theorem pow_bd {r j : Nat} (hr : r ≤ 1001) (hj : j ≤ 4) : r ^ j ≤ 1004006004001 := by
  have h1 := Nat.pow_le_pow_left hr j
  have h2 : (1001 : Nat) ^ j ≤ 1001 ^ 4 := Nat.pow_le_pow_right (by omega) hj
  have h3 : (1001 : Nat) ^ 4 = 1004006004001 := by decide
  omega
theorem pow_gt {r k : Nat} (hr : 1001 ≤ r) (hk : 2 ≤ k) : 1000000 < r ^ k := by
  have h1 := Nat.pow_le_pow_left hr k
  have h2 : (1001 : Nat) ^ 2 ≤ 1001 ^ k := Nat.pow_le_pow_right (by omega) hk
  have h3 : (1001 : Nat) ^ 2 = 1002001 := by decide
  omega
theorem rootGo_bd (n : Int) (k : Nat) : ∀ (f r : Nat), f + r ≤ 1002 → -1 ≤ rootGo n k f r ∧ rootGo n k f r ≤ 1001
  | 0, r, _ => by simp [rootGo]
  | f + 1, r, h => by
    simp only [rootGo]
    split
    · split <;> omega
    · exact rootGo_bd n k f (r + 1) (by omega)
theorem rootP_bd (n : Int) (k : Nat) : -1 ≤ rootP n k ∧ rootP n k ≤ 1001 := rootGo_bd n k 1002 0 (by omega)
/-- the root of a fraction; there may be none -/
def rootC (n d : Int) (k : Nat) : Option (Int × Int) :=
  if rootP (sizeI n) k < 0 ∨ rootP d k < 0 ∨ (n < 0 ∧ k % 2 = 0) then none else made (if n < 0 then -rootP (sizeI n) k else rootP (sizeI n) k) (rootP d k)

/-- a power by multiplying -/
def mpowGo (x : Sur) (k : Int) : Nat → Int → Bool → Sur → Bool × Sur
  | 0, _, bad, out => (bad, out)
  | f + 1, i, bad, out => if i < k ∧ bad = false then mpowGo x k f (i + 1) (false || !(mulS out x).isSome) ((mulS out x).getD .nil) else (bad, out)
def mpow (x : Sur) (k : Int) (bad : Bool) : Bool × Sur := mpowGo x k 13 0 bad oneS
theorem mpowGo_stop (x : Sur) (k : Int) (f : Nat) (i : Int) (bad : Bool) (out : Sur) (h : ¬ (i < k ∧ bad = false)) : mpowGo x k f i bad out = (bad, out) := by
  cases f with
  | zero => rfl
  | succ f => simp only [mpowGo]; rw [if_neg h]
theorem mpowGo_step (x : Sur) (k : Int) (i : Nat) (out : Sur) (h : (i : Int) < k) (hi : i ≤ 12) : mpowGo x k (13 - i) i false out = mpowGo x k (13 - (i + 1)) ((i + 1 : Nat) : Int) (false || !(mulS out x).isSome) ((mulS out x).getD .nil) := by
  rw [show 13 - i = (13 - (i + 1)) + 1 from by omega]
  simp only [mpowGo]
  rw [if_pos (by simp [h])]
  rfl
end Go.Proofs.YtonlfnbjbmgegaaGreat

namespace Go.Proofs.YtonlfnbjbmgegaaGreat
open Go.RowKit
set_option linter.unusedSimpArgs false
set_option linter.unusedVariables false

theorem expGo_bad (x : Sur) (n : Int) (k : Nat) (i : Int) (out t : Sur) : (expGo x n k i true out t).1 = true := by
  rw [expGo_stop _ _ _ _ _ _ _ (by simp)]
theorem expGo_fn (x : Sur) (n : Int) (hn : n ≤ 12) : ∀ (k i : Nat) (out t : Sur), k + i = 13 → (i : Int) ≤ n → sGood out = true → (∀ f, fn t f = ifac (i - 1) * fpow (fn x) (i - 1) f) → (∀ f, fn out f = sm i (fun j => ifac j * fpow (fn x) j f)) →
    (expGo x n k i false out t).1 = false → sGood (expGo x n k i false out t).2 = true ∧ ∀ f, fn (expGo x n k i false out t).2 f = sm n.toNat (fun j => ifac j * fpow (fn x) j f)
  | 0, i, out, t, hk, hi, go, ht, ho, h => by omega
  | k + 1, i, out, t, hk, hi, go, ht, ho, h => by
    by_cases hin : (i : Int) < n
    · have e : expGo x n (k + 1) i false out t = expGo x n k ((i + 1 : Nat) : Int) (expB x t i || !(addS out (expP x t i)).isSome) ((addS out (expP x t i)).getD .nil) (expP x t i) := by
        simp only [expGo]
        rw [if_pos (by simp [hin])]
        rfl
      rw [e] at h ⊢
      cases hb : expB x t i
      · cases ha : addS out (expP x t i) with
        | none =>
          rw [hb, ha] at h
          simp only [Option.isSome_none, Bool.not_false, Bool.or_true] at h
          rw [expGo_bad] at h; cases h
        | some o =>
          have ht' : ∀ f, fn (expP x t i) f = ifac i * fpow (fn x) i f := by
            intro f
            by_cases h0 : 0 < (i : Int)
            · obtain ⟨j, rfl⟩ : ∃ j, i = j + 1 := ⟨i - 1, by omega⟩
              unfold expB at hb
              rw [if_pos h0] at hb
              unfold expP
              rw [if_pos h0]
              cases hm : mulS t x with
              | none => rw [hm] at hb; simp at hb
              | some m =>
                rw [hm] at hb
                simp only [Option.getD_some, Option.isSome_some, Bool.not_true, Bool.or_false, Bool.false_or] at hb ⊢
                cases hs : scaleS m 1 ((j + 1 : Nat) : Int) with
                | none => rw [hs] at hb; simp at hb
                | some s =>
                  simp only [Option.getD_some]
                  have h1 := (scaleS_some hs).2.2.2
                  have h2 := fn_mulS hm
                  have h3 : fn t = fun f => ifac j * fpow (fn x) j f := by funext f; exact ht f
                  rw [h1, h2, h3, fmul_smul_left]
                  have : fmul (fpow (fn x) j) (fn x) f = fpow (fn x) (j + 1) f := rfl
                  simp only [ifac]
                  rw [this]; grind
            · obtain rfl : i = 0 := by omega
              unfold expP
              rw [if_neg h0]
              exact ht f
          rw [hb, ha] at h
          simp only [Option.isSome_some, Bool.not_true, Bool.or_false, Option.getD_some] at h ⊢
          exact expGo_fn x n hn k (i + 1) o _ (by omega) (by omega) (addS_good ha) (fun f => by rw [ht' f]; rfl) (fun f => by
            rw [fn_addS ha]
            simp only [sm]
            rw [ho f, ht' f]) h
      · rw [hb] at h
        rw [Bool.true_or, expGo_bad] at h; cases h
    · have e := expGo_stop x n (k + 1) i false out t (by simp [hin])
      rw [e]
      refine ⟨go, fun f => ?_⟩
      rw [show n.toNat = i by omega]
      exact ho f
theorem oneS_fn : fn oneS = fone := by
  rw [show oneS = .cons .nil 1 1 .nil by unfold oneS termP; rw [if_neg (by omega)]]
  exact fn_one
theorem sGood_oneS : sGood oneS = true := by unfold oneS; exact sGood_real (by decide)
/-- an exponential -/
theorem expT_fn {x e : Sur} {n : Int} (h : expT x n = some e) : sGood x = true ∧ smallS x = true ∧ sGood e = true ∧ 0 ≤ n ∧ n ≤ 12 ∧ ∀ f, fn e f = sm n.toNat (fun j => ifac j * fpow (fn x) j f) := by
  unfold expT at h
  split at h
  · rename_i hg
    simp only [Bool.and_eq_true] at hg
    obtain ⟨h1, h2⟩ := stepsB_true hg.2.1
    cases hb : (expGo x n 13 0 false .nil oneS).1
    · simp only [hb, Bool.false_eq_true, if_false, Option.some.injEq] at h
      subst h
      have := expGo_fn x n h2 13 0 .nil oneS rfl h1 sGood_nil (fun f => by rw [oneS_fn]; show fone f = 1 * fone f; grind) (fun f => rfl) hb
      exact ⟨hg.1, hg.2.2, this.1, h1, h2, this.2⟩
    · simp only [hb, if_true] at h
      cases h
  · cases h

theorem sgA_par : ∀ i : Nat, sgA i = if i % 2 = 0 then 1 else -1
  | 0 => rfl
  | i + 1 => by
    have := sgA_par i
    simp only [sgA]
    rw [this]
    by_cases h : i % 2 = 0
    · rw [if_pos h, if_neg (by omega)]
    · rw [if_neg h, if_pos (by omega)]; grind
theorem sgn_rat (j : Nat) : rat (2 * ((j + 1 : Nat) : Int).tmod 2 - 1) ((j + 1 : Nat) : Int) = sgA j * rat 1 ((j + 1 : Nat) : Int) := by
  rw [sgA_par, Int.tmod_eq_emod_of_nonneg (by omega)]
  by_cases h : j % 2 = 0
  · rw [if_pos h, show 2 * (((j + 1 : Nat) : Int) % 2) - 1 = 1 by omega]; grind
  · rw [if_neg h, show 2 * (((j + 1 : Nat) : Int) % 2) - 1 = -1 by omega]
    unfold rat
    rw [show ((-1 : Int) : Rat) = -1 from rfl, show ((1 : Int) : Rat) = 1 from rfl]
    grind
theorem logGo_bad (z : Sur) (n : Int) (k : Nat) (i : Int) (out p : Sur) : (logGo z n k i true out p).1 = true := by
  rw [logGo_stop _ _ _ _ _ _ _ (by simp)]
theorem logGo_fn (z : Sur) (n : Int) (hn : n ≤ 12) : ∀ (k i : Nat) (out p : Sur), k + i = 13 → (i : Int) ≤ n → sGood out = true → (i = 0 → p = z) → (0 < i → ∀ f, fn p f = fpow (fn z) i f) → (∀ f, fn out f = sm i (fun j => sgA j * rat 1 ((j + 1 : Nat) : Int) * fpow (fn z) (j + 1) f)) →
    (logGo z n k ((i + 1 : Nat) : Int) false out p).1 = false → sGood (logGo z n k ((i + 1 : Nat) : Int) false out p).2 = true ∧ ∀ f, fn (logGo z n k ((i + 1 : Nat) : Int) false out p).2 f = sm n.toNat (fun j => sgA j * rat 1 ((j + 1 : Nat) : Int) * fpow (fn z) (j + 1) f)
  | 0, i, out, p, hk, hi, go, hp0, hp, ho, h => by omega
  | k + 1, i, out, p, hk, hi, go, hp0, hp, ho, h => by
    by_cases hin : ((i + 1 : Nat) : Int) ≤ n
    · have e : logGo z n (k + 1) ((i + 1 : Nat) : Int) false out p = logGo z n k ((i + 1 + 1 : Nat) : Int) (((false || !(logPow z p ((i + 1 : Nat) : Int)).isSome) || !(logSc ((logPow z p ((i + 1 : Nat) : Int)).getD .nil) ((i + 1 : Nat) : Int)).isSome) || !(addS out ((logSc ((logPow z p ((i + 1 : Nat) : Int)).getD .nil) ((i + 1 : Nat) : Int)).getD .nil)).isSome)
          ((addS out ((logSc ((logPow z p ((i + 1 : Nat) : Int)).getD .nil) ((i + 1 : Nat) : Int)).getD .nil)).getD .nil) ((logPow z p ((i + 1 : Nat) : Int)).getD .nil) := by
        simp only [logGo]
        rw [if_pos (by simp; omega)]
        rfl
      rw [e] at h ⊢
      cases hq : logPow z p ((i + 1 : Nat) : Int) with
      | none =>
        rw [hq] at h
        simp only [Option.isSome_none, Bool.not_false, Bool.or_true, Bool.true_or] at h
        rw [logGo_bad] at h; cases h
      | some q =>
        have hqf : ∀ f, fn q f = fpow (fn z) (i + 1) f := by
          intro f
          unfold logPow at hq
          split at hq
          · rename_i h1
            have h2 := fn_mulS hq
            have h3 : fn p = fpow (fn z) i := by funext f; exact hp (by omega) f
            rw [h2, h3]; rfl
          · rename_i h1
            obtain rfl : i = 0 := by omega
            simp only [Option.some.injEq] at hq
            subst hq
            rw [hp0 rfl]
            exact (congrFun (fone_mul (fn z)) f).symm
        cases hs : logSc q ((i + 1 : Nat) : Int) with
        | none =>
          rw [hq] at h
          simp only [Option.getD_some] at h
          rw [hs] at h
          simp only [Option.isSome_none, Bool.not_false, Bool.or_true, Bool.true_or] at h
          rw [logGo_bad] at h; cases h
        | some s =>
          have hsf : ∀ f, fn s f = sgA i * rat 1 ((i + 1 : Nat) : Int) * fpow (fn z) (i + 1) f := by
            intro f
            have h1 := (scaleS_some hs).2.2.2
            rw [h1, sgn_rat]
            simp only []
            rw [hqf f]
          cases ha : addS out s with
          | none =>
            rw [hq] at h
            simp only [Option.getD_some] at h
            rw [hs] at h
            simp only [Option.getD_some] at h
            rw [ha] at h
            simp only [Option.isSome_none, Bool.not_false, Bool.or_true, Bool.true_or] at h
            rw [logGo_bad] at h; cases h
          | some o =>
            rw [hq] at h
            simp only [Option.getD_some] at h ⊢
            rw [hs] at h ⊢
            simp only [Option.getD_some] at h ⊢
            rw [ha] at h ⊢
            simp only [Option.isSome_some, Bool.not_true, Bool.or_false, Option.getD_some] at h ⊢
            exact logGo_fn z n hn k (i + 1) o q (by omega) (by omega) (addS_good ha) (fun h => by omega) (fun _ => hqf) (fun f => by
              rw [fn_addS ha]
              simp only [sm]
              rw [ho f, hsf f]) h
    · have e := logGo_stop z n (k + 1) ((i + 1 : Nat) : Int) false out p (by simp only [not_and]; intro h1; omega)
      rw [e]
      refine ⟨go, fun f => ?_⟩
      rw [show n.toNat = i by omega]
      exact ho f
theorem oneS_all : oneS.All FOk := (sGood_len sGood_oneS).2.2
theorem lessOne_fn {x z : Sur} (h : lessOne x = some z) : sGood x = true ∧ sGood z = true ∧ ∀ f, fn z f = fn x f - fone f := by
  obtain ⟨a, b, c⟩ := subS_some (show subS x oneS = some z from h) oneS_all
  refine ⟨a, b, fun f => ?_⟩
  rw [c, oneS_fn]
/-- a logarithm -/
theorem logT_fn {x l : Sur} {n : Int} (h : logT x n = some l) : ∃ z, lessOne x = some z ∧ sGood l = true ∧ 0 ≤ n ∧ n ≤ 12 ∧ ∀ f, fn l f = sm n.toNat (fun j => sgA j * rat 1 ((j + 1 : Nat) : Int) * fpow (fn z) (j + 1) f) := by
  unfold logT at h
  split at h
  · rename_i hg
    simp only [Bool.and_eq_true] at hg
    obtain ⟨h1, h2⟩ := stepsB_true hg.2
    cases hz : lessOne x with
    | none =>
      have : nearBad false x = true := by unfold nearBad; rw [hz]; rfl
      rw [this] at h
      simp only [logGo_bad, if_true] at h
      cases h
    | some z =>
      rw [hz] at h
      simp only [Option.getD_some] at h
      cases hnb : nearBad false x
      · rw [hnb] at h
        cases hb : (logGo z n 13 1 false .nil z).1
        · simp only [hb, Bool.false_eq_true, if_false, Option.some.injEq] at h
          subst h
          have := logGo_fn z n h2 13 0 .nil z rfl h1 sGood_nil (fun _ => rfl) (fun h => by omega) (fun f => rfl) hb
          exact ⟨z, rfl, this.1, h1, h2, this.2⟩
        · simp only [hb, if_true] at h
          cases h
      · rw [hnb] at h
        simp only [logGo_bad, if_true] at h
        cases h
  · cases h

/-- PowerOfSurreal -/
def powK (x : Sur) (k : Int) : Option Sur := if (sGood x && stepsB k) = true then (if (mpow x k false).1 = true then none else some (mpow x k false).2) else none
theorem mpowGo_bad (x : Sur) (n : Int) (k : Nat) (i : Int) (out : Sur) : (mpowGo x n k i true out).1 = true := by
  rw [mpowGo_stop _ _ _ _ _ _ (by simp)]
theorem mpowGo_fn (x : Sur) (n : Int) (hn : n ≤ 12) : ∀ (k i : Nat) (out : Sur), k + i = 13 → (i : Int) ≤ n → sGood out = true → fn out = fpow (fn x) i → (mpowGo x n k i false out).1 = false →
    sGood (mpowGo x n k i false out).2 = true ∧ fn (mpowGo x n k i false out).2 = fpow (fn x) n.toNat
  | 0, i, out, hk, hi, go, ho, h => by omega
  | k + 1, i, out, hk, hi, go, ho, h => by
    by_cases hin : (i : Int) < n
    · have e : mpowGo x n (k + 1) i false out = mpowGo x n k ((i + 1 : Nat) : Int) (false || !(mulS out x).isSome) ((mulS out x).getD .nil) := by
        simp only [mpowGo]
        rw [if_pos (by simp [hin])]
        rfl
      rw [e] at h ⊢
      cases hm : mulS out x with
      | none =>
        rw [hm] at h
        simp only [Option.isSome_none, Bool.not_false, Bool.or_true] at h
        rw [mpowGo_bad] at h; cases h
      | some m =>
        rw [hm] at h
        simp only [Option.isSome_some, Bool.not_true, Bool.or_false, Option.getD_some] at h ⊢
        exact mpowGo_fn x n hn k (i + 1) m (by omega) (by omega) (mulS_some hm).2.2.2 (by rw [fn_mulS hm, ho]; rfl) h
    · have e := mpowGo_stop x n (k + 1) i false out (by simp [hin])
      rw [e]
      refine ⟨go, ?_⟩
      rw [show n.toNat = i by omega]
      exact ho
theorem powK_fn {x p : Sur} {k : Int} (h : powK x k = some p) : sGood x = true ∧ sGood p = true ∧ 0 ≤ k ∧ k ≤ 12 ∧ fn p = fpow (fn x) k.toNat := by
  unfold powK at h
  split at h
  · rename_i hg
    simp only [Bool.and_eq_true] at hg
    obtain ⟨h1, h2⟩ := stepsB_true hg.2
    split at h
    · cases h
    · rename_i hb
      simp only [Option.some.injEq] at h
      subst h
      have := mpowGo_fn x k h2 13 0 oneS rfl h1 sGood_oneS oneS_fn (show (mpow x k false).1 = false by simpa using hb)
      exact ⟨hg.1, this.1, h1, h2, this.2⟩
  · cases h

/- what is negligible -/
def neglB : Sur → Sur → Bool
  | _, .nil => false
  | .nil, .cons _ _ _ _ => true
  | .cons e _ _ _, .cons e' _ _ _ => decide (order e e' < 0)
def hd1 : Sur → Sur
  | .nil => .nil
  | .cons e n d _ => .cons e n d .nil
def mostS (x y : Sur) : Sur := if ((sGood x && sGood y) && neglB x y) = true then y else x
def qbT (d : Sur) : Option Sur → Bool
  | none => true
  | some p => (sGood d && sGood p) && neglB d p
def qbB (d x y : Sur) (n : Int) : Bool := if n = 0 then true else qbT d (powK (hd1 (mostS x y)) (n - 1))
theorem gsm_one (m : Gam) : gsm 1 m = m := by
  rw [gsm_succ, gsm_zero, zero_gadd]
theorem small_gt {e r : Sur} {n d : Int} (g : sGood (.cons e n d r) = true) (h : smallS (.cons e n d r) = true) : GtF gz (co e) := by
  have h1 : order e .nil = -1 := by
    simp only [smallS, decide_eq_true_eq] at h
    rcases order_range e .nil with q | q | q <;> omega
  have hx := sGood_exG g
  exact gt_of_order (show Sur.All GOk .nil from trivial) (show Dec .nil from trivial) hx.1.1 hx.1.2 (order_flip.1 h1)
theorem fpow_single (e : Sur) (n d : Int) (h : rat n d ≠ 0) : ∀ k, ∃ c : Rat, c ≠ 0 ∧ ∀ f, fpow (fn (.cons e n d .nil)) k f = c * f (gsm k (co e))
  | 0 => ⟨1, by grind, fun f => by rw [gsm_zero]; show f gz = 1 * f gz; grind⟩
  | k + 1 => by
    obtain ⟨c, hc, ih⟩ := fpow_single e n d h k
    refine ⟨c * rat n d, fun q => ?_, fun f => ?_⟩
    · rcases Rat.mul_eq_zero.1 q with q | q
      · exact hc q
      · exact h q
    · have : fpow (fn (.cons e n d .nil)) (k + 1) f = fpow (fn (.cons e n d .nil)) k (fun g => fn (.cons e n d .nil) fun u => f (gadd g u)) := rfl
      rw [this, ih]
      simp only [fn]
      rw [gsm_succ]; grind
theorem lead_ups {e r : Sur} {n d : Int} {m : Gam} (g : sGood (.cons e n d r) = true) (h : LeF (co e) m) : Ups m 1 (fn (.cons e n d r)) :=
  Sup.mono (fn_lead g) fun u hu => by rw [gsm_one]; exact hu.trans h
/-- what is beyond the power n of both is negligible beside the power n - 1 of the greater one -/
theorem beyond {d x y : Sur} {n : Nat} (hx : x ≠ .nil) (hy : y ≠ .nil) (gx : sGood x = true) (gy : sGood y = true) (sx : smallS x = true) (sy : smallS y = true) (gd : sGood d = true)
    (H : ∀ m, GtF gz m → Ups m 1 (fn x) → Ups m 1 (fn y) → Ups m n (fn d)) : qbB d x y n = true := by
  unfold qbB
  split
  · rfl
  · rename_i hn0
    cases x with
    | nil => exact absurd rfl hx
    | cons ex nx dx rx =>
    cases y with
    | nil => exact absurd rfl hy
    | cons ey ny dy ry =>
    have kx := (sGood_exG gx).1
    have ky := (sGood_exG gy).1
    have key : ∃ em a b r, mostS (.cons ex nx dx rx) (.cons ey ny dy ry) = .cons em a b r ∧ sGood (.cons em a b r) = true ∧ smallS (.cons em a b r) = true ∧ LeF (co ex) (co em) ∧ LeF (co ey) (co em) := by
      unfold mostS
      rw [gx, gy]
      simp only [neglB, Bool.true_and, decide_eq_true_eq]
      rcases order_range ex ey with q | q | q
      · rw [if_pos (by omega)]
        exact ⟨_, _, _, _, rfl, gy, sy, .inr (gt_of_order ky.1 ky.2 kx.1 kx.2 (order_flip.1 q)), .inl rfl⟩
      · rw [if_neg (by omega)]
        exact ⟨_, _, _, _, rfl, gx, sx, .inl rfl, .inl (by rw [order_eqI kx.1 ky.1 q])⟩
      · rw [if_neg (by omega)]
        exact ⟨_, _, _, _, rfl, gx, sx, .inl rfl, .inr (gt_of_order kx.1 kx.2 ky.1 ky.2 q)⟩
    obtain ⟨em, a, b, r, e, gm, sm', l1, l2⟩ := key
    rw [e]
    have hm := small_gt gm sm'
    have U := H (co em) hm (lead_ups gx l1) (lead_ups gy l2)
    cases hp : powK (hd1 (.cons em a b r)) ((n : Int) - 1) with
    | none => rfl
    | some p =>
      obtain ⟨_, gp, h1, h2, hf⟩ := powK_fn hp
      simp only [qbT]
      obtain ⟨c, hc, hs⟩ := fpow_single em a b (rat_ne (sGood_g gm).1.2.1) ((n : Int) - 1).toNat
      have hfp : ∀ f, fn p f = c * f (gsm (n - 1) (co em)) := fun f => by
        rw [hf, show ((n : Int) - 1).toNat = n - 1 by omega]
        rw [show ((n : Int) - 1).toNat = n - 1 by omega] at hs
        exact hs f
      rw [gd, gp]
      simp only [Bool.true_and]
      cases p with
      | nil =>
        have := hfp fun _ => 1
        simp only [fn] at this
        exact absurd (by grind) hc
      | cons E p1 p2 pr =>
        have hE : co E = gsm (n - 1) (co em) := lead_in (P := fun g => g = gsm (n - 1) (co em)) gp fun f k hk => by rw [hfp, hfp, hk _ rfl]
        cases d with
        | nil => rfl
        | cons ed d1 d2 dr =>
          have hd := lead_in gd U
          have kd := (sGood_exG gd).1
          have kp := (sGood_exG gp).1
          have g1 : GtF (co E) (co ed) := by
            rw [hE]
            have := gsm_down hm (n - 1)
            rw [show n - 1 + 1 = n by omega] at this
            exact hd.gt this
          have := order_flip.2 (order_of_gt kp.1 kp.2 kd.1 kd.2 g1)
          simp only [neglB, decide_eq_true_eq]
          omega
/-- the law of sums -/
theorem exp_law {x y e f s g h d : Sur} {n : Int} (hx : x ≠ .nil) (hy : y ≠ .nil) (he : expT x n = some e) (hf : expT y n = some f) (hs : addS x y = some s) (hg : expT s n = some g) (hh : mulS e f = some h) (hd : subS h g = some d) : qbB d x y n = true := by
  obtain ⟨gx, sx, ge, h0, h12, ee⟩ := expT_fn he
  obtain ⟨gy, sy, gf, _, _, ef⟩ := expT_fn hf
  obtain ⟨gs, ss, gg, _, _, eg⟩ := expT_fn hg
  obtain ⟨gh, gd, ed⟩ := subS_some hd (sGood_len gg).2.2
  obtain ⟨N, rfl⟩ : ∃ N : Nat, n = N := ⟨n.toNat, by omega⟩
  rw [Int.toNat_natCast] at ee ef eg
  refine beyond hx hy gx gy sx sy gd fun m hm ux uy => ups_of_off (fn_lin d) fun t ht => ?_
  have e1 := exp_prod (fn_nice x) (fn_nice y) hm ux uy ht
  have e2 : fn h t = sm N (fun i => ifac i * fpow (fn x) i (fun g => sm N (fun j => ifac j * fpow (fn y) j (fun h => t (gadd g h))))) := by
    rw [fn_mulS hh]
    show fn e (fun g => fn f fun h => t (gadd g h)) = _
    rw [ee]
    exact sm_congr fun i hi => by
      congr 2
      funext u
      exact ef _
  have e3 : fn g t = sm N (fun k => ifac k * fpow (fad (fn x) (fn y)) k t) := by
    rw [eg, show fn s = fad (fn x) (fn y) from fn_addS hs]
  rw [ed]
  simp only []
  rw [e2, e3, e1]; grind
/-- the law of logarithms -/
theorem log_law {x e l d : Sur} {n : Int} (hn : 1 < n) (hx : x ≠ .nil) (he : expT x n = some e) (hl : logT e (n - 1) = some l) (hd : subS l x = some d) : qbB d x x n = true := by
  obtain ⟨gx, sx, ge, h0, h12, ee⟩ := expT_fn he
  obtain ⟨z, hz, gl, _, _, el⟩ := logT_fn hl
  obtain ⟨_, gz', ez⟩ := lessOne_fn hz
  obtain ⟨_, gd, ed⟩ := subS_some hd (sGood_len gx).2.2
  obtain ⟨N, rfl⟩ : ∃ N : Nat, n = N := ⟨n.toNat, by omega⟩
  rw [Int.toNat_natCast] at ee
  rw [show ((N : Int) - 1).toNat = N - 1 by omega] at el
  refine beyond hx hx gx gx sx sx gd fun m hm ux _ => ups_of_off (fn_lin d) fun t ht => ?_
  have eZ : ∀ f, fn z f = sm N (fun j => wex j * fpow (fn x) j f) := fun f => by
    rw [ez, ee]
    obtain ⟨M, rfl⟩ : ∃ M, N = M + 1 := ⟨N - 1, by omega⟩
    rw [sm_shift, sm_shift]
    have e0 : ifac 0 * fpow (fn x) 0 f = fone f := by show 1 * fone f = fone f; grind
    have e1 : wex 0 * fpow (fn x) 0 f = 0 := by show (if 0 = 0 then 0 else ifac 0) * fone f = 0; rw [if_pos rfl]; grind
    rw [e0, e1]
    have e2 : sm M (fun i => wex (i + 1) * fpow (fn x) (i + 1) f) = sm M (fun i => ifac (i + 1) * fpow (fn x) (i + 1) f) := sm_congr fun i hi => by unfold wex; rw [if_neg (by omega)]
    rw [e2]; grind
  have e1 := log_exp_f (fn_nice x) (fn_nice z) hm ux (by omega) eZ ht
  rw [ed]
  simp only []
  rw [el, e1]; grind
end Go.Proofs.YtonlfnbjbmgegaaGreat

namespace Go.Proofs.YtonlfnbjbmgegaaGreat
open Go.RowKit
set_option linter.unusedSimpArgs false
set_option linter.unusedVariables false

/-- the coefficient of a step -/
def cfS (a b i : Int) : Option (Int × Int) := fSubtract a b (i - 1) 1
def cfQ (a b i : Int) : Option (Int × Int) := fDivide ((cfS a b i).getD (0, 0)).1 ((cfS a b i).getD (0, 0)).2 i 1
def cfM (a b i : Int) (c : Int × Int) : Option (Int × Int) := fMultiply c.1 c.2 ((cfQ a b i).getD (0, 0)).1 ((cfQ a b i).getD (0, 0)).2
/-- what a step makes of the power, of the coefficient, and whether it failed -/
def powP (z p : Sur) (i : Int) : Sur := if 0 < i then (mulS p z).getD .nil else p
def powC (a b i : Int) (c : Int × Int) : Int × Int := if 0 < i then (cfM a b i c).getD (0, 0) else c
def powB (z p : Sur) (a b i : Int) (c : Int × Int) : Bool := if 0 < i then (((false || !(mulS p z).isSome) || !(cfS a b i).isSome) || !(cfQ a b i).isSome) || !(cfM a b i c).isSome else false
/-- the steps of a power, as the program makes them -/
def powGo (z : Sur) (n a b : Int) : Nat → Int → Bool → Sur → Sur → Int × Int → Bool × Sur
  | 0, _, bad, out, _, _ => (bad, out)
  | k + 1, i, bad, out, p, c =>
    if i < n ∧ bad = false then
      powGo z n a b k (i + 1) ((powB z p a b i c || !(scaleS (powP z p i) (powC a b i c).1 (powC a b i c).2).isSome) || !(addS out ((scaleS (powP z p i) (powC a b i c).1 (powC a b i c).2).getD .nil)).isSome)
        ((addS out ((scaleS (powP z p i) (powC a b i c).1 (powC a b i c).2).getD .nil)).getD .nil) (powP z p i) (powC a b i c)
    else (bad, out)
def powT (x : Sur) (a b n : Int) : Option Sur :=
  if (sGood x && (fracOk a b && stepsB n)) = true then
    let z := (lessOne x).getD .nil
    let r := powGo z n a b 13 0 (nearBad false x) .nil oneS (1, 1)
    if r.1 = true then none else some r.2
  else none
theorem powGo_stop (z : Sur) (n a b : Int) (k : Nat) (i : Int) (bad : Bool) (out p : Sur) (c : Int × Int) (h : ¬ (i < n ∧ bad = false)) : powGo z n a b k i bad out p c = (bad, out) := by
  cases k with
  | zero => rfl
  | succ k => simp only [powGo]; rw [if_neg h]
theorem powGo_step (z : Sur) (n a b : Int) (i : Nat) (out p : Sur) (c : Int × Int) (h : (i : Int) < n) (hi : i ≤ 12) : powGo z n a b (13 - i) i false out p c =
    powGo z n a b (13 - (i + 1)) ((i + 1 : Nat) : Int) ((powB z p a b i c || !(scaleS (powP z p i) (powC a b i c).1 (powC a b i c).2).isSome) || !(addS out ((scaleS (powP z p i) (powC a b i c).1 (powC a b i c).2).getD .nil)).isSome)
        ((addS out ((scaleS (powP z p i) (powC a b i c).1 (powC a b i c).2).getD .nil)).getD .nil) (powP z p i) (powC a b i c) := by
  rw [show 13 - i = (13 - (i + 1)) + 1 from by omega]
  simp only [powGo]
  rw [if_pos (by simp [h])]
  rfl

end Go.Proofs.YtonlfnbjbmgegaaGreat

namespace Go.Proofs.YtonlfnbjbmgegaaGreat
open Go.RowKit
set_option linter.unusedSimpArgs false
set_option linter.unusedVariables false

/-- the product of two series in the same number, as far as a test function sees -/
theorem ser_prod {X : Fnl} (hX : Nice X) {m : Gam} (hm : GtF gz m) (uX : Ups m 1 X) {n : Nat} (a b : Nat → Rat) {f : Gam → Rat} (hf : Off m n f) :
    sm n (fun i => a i * fpow X i (fun g => sm n (fun j => b j * fpow X j (fun h => f (gadd g h))))) = sm n (fun k => sm (k + 1) (fun i => a i * b (k - i)) * fpow X k f) := by
  have e2 : sm n (fun k => a k * fpow X k (fun g => sm n (fun j => b j * fpow X j (fun h => f (gadd g h))))) = sm n (fun k => sm n (fun j => a k * b j * fpow X (k + j) f)) := sm_congr fun k hk => by
    rw [lin_sm (hX.pow k).lin b (fun j g => fpow X j (fun h => f (gadd g h))) n, ← sm_smul]
    exact sm_congr fun j hj => by
      have : fpow X k (fun g => fpow X j (fun h => f (gadd g h))) = fpow X (k + j) f := congrFun (fpow_add k j) f
      rw [this]; grind
  rw [e2, sm_tri (b := fun k j => a k * b j * fpow X (k + j) f) fun k j hkj => by
    have : fpow X (k + j) f = 0 := ((uX.pow (k + j)).down hm hkj).off (hX.pow _).lin hf
    rw [this]; grind]
  refine sm_congr fun k hk => ?_
  have : sm (k + 1) (fun i => a i * b (k - i) * fpow X (i + (k - i)) f) = sm (k + 1) (fun i => fpow X k f * (a i * b (k - i))) := sm_congr fun i hi => by
    rw [show i + (k - i) = k by omega]; grind
  rw [this, sm_smul]; grind
theorem rat_int (k : Int) : rat k 1 = (k : Rat) := by
  unfold rat
  rw [show ((1 : Int) : Rat) = 1 from rfl]
  grind
theorem bin_one_high : ∀ j, bin 1 (j + 2) = 0
  | 0 => by
    show bin 1 0 * ((1 - ((0 : Nat) : Rat)) * rat 1 ((0 + 1 : Nat) : Int)) * ((1 - ((1 : Nat) : Rat)) * rat 1 ((1 + 1 : Nat) : Int)) = 0
    rw [show ((1 : Nat) : Rat) = 1 from rfl]
    grind
  | j + 1 => by
    show bin 1 (j + 2) * _ = 0
    rw [bin_one_high j]; grind
theorem bin_one_one : bin 1 1 = 1 := by
  have := bin_D 1 0
  rw [show ((0 + 1 : Nat) : Rat) = 1 from rfl, show ((0 : Nat) : Rat) = 0 from rfl] at this
  have h0 : bin 1 0 = 1 := rfl
  rw [h0] at this
  grind
theorem bin_pascal (a : Rat) (i : Nat) : bin (1 + a) (i + 1) = bin a (i + 1) + bin a i := by
  have h := bin_add 1 a (i + 1)
  rw [sm_shift, sm_shift, sm_zero fun j hj => by rw [bin_one_high j]; grind] at h
  rw [← h]
  have e0 : bin 1 0 = 1 := rfl
  have e1 : bin 1 (0 + 1) = 1 := bin_one_one
  have e2 : i + 1 - (0 + 1) = i := by omega
  have e3 : i + 1 - 0 = i + 1 := rfl
  rw [e0, e1, e2, e3]; grind
theorem bin_high : ∀ (m i : Nat), m < i → bin (m : Rat) i = 0
  | 0, i, h => by
    obtain ⟨j, rfl⟩ : ∃ j, i = j + 1 := ⟨i - 1, by omega⟩
    induction j with
    | zero => show bin _ 0 * ((((0 : Nat) : Rat) - ((0 : Nat) : Rat)) * _) = 0; grind
    | succ j ih => show bin _ (j + 1) * _ = 0; rw [ih (by omega)]; grind
  | m + 1, i, h => by
    obtain ⟨j, rfl⟩ : ∃ j, i = j + 1 := ⟨i - 1, by omega⟩
    have e : ((m + 1 : Nat) : Rat) = 1 + (m : Rat) := by rw [castS]; grind
    rw [e, bin_pascal, bin_high m (j + 1) (by omega), bin_high m j (by omega)]; grind
/-- the powers of 1 + z -/
theorem pow_bin {Z : Fnl} (hZ : Nice Z) : ∀ (m : Nat) (f : Gam → Rat), fpow (fad Z fone) m f = sm (m + 1) (fun i => bin (m : Rat) i * fpow Z i f)
  | 0, f => by show fone f = 0 + 1 * fone f; grind
  | m + 1, f => by
    have nX : Nice (fad Z fone) := hZ.add fone_nice
    have ih := pow_bin hZ m
    have e1 : fpow (fad Z fone) (m + 1) f = fpow (fad Z fone) m (fun g => Z fun h => f (gadd g h)) + fpow (fad Z fone) m f := by
      have := congrFun (fmul_add_right (nX.pow m) Z fone) f
      have e : fmul (fpow (fad Z fone) m) fone = fpow (fad Z fone) m := fmul_one _
      rw [e] at this
      exact this
    rw [e1, ih, ih]
    have e2 : sm (m + 1) (fun i => bin (m : Rat) i * fpow Z i (fun g => Z fun h => f (gadd g h))) = sm (m + 1) (fun i => bin (m : Rat) i * fpow Z (i + 1) f) := rfl
    rw [e2]
    have e3 : sm (m + 2) (fun i => bin ((m + 1 : Nat) : Rat) i * fpow Z i f) = fpow Z 0 f + sm (m + 1) (fun i => bin (m : Rat) (i + 1) * fpow Z (i + 1) f + bin (m : Rat) i * fpow Z (i + 1) f) := by
      rw [sm_shift]
      congr 1
      · show 1 * fpow Z 0 f = _; grind
      · exact sm_congr fun i hi => by
          have e : ((m + 1 : Nat) : Rat) = 1 + (m : Rat) := by rw [castS]; grind
          rw [e, bin_pascal]; grind
    rw [e3, sm_add]
    have e4 : sm (m + 1) (fun i => bin (m : Rat) i * fpow Z i f) = fpow Z 0 f + sm m (fun i => bin (m : Rat) (i + 1) * fpow Z (i + 1) f) := by
      rw [sm_shift]
      congr 1
      show 1 * fpow Z 0 f = _; grind
    have e5 : sm (m + 1) (fun i => bin (m : Rat) (i + 1) * fpow Z (i + 1) f) = sm m (fun i => bin (m : Rat) (i + 1) * fpow Z (i + 1) f) := by
      simp only [sm]
      rw [bin_high m (m + 1) (by omega)]; grind
    rw [e4, e5]; grind

/- the steps of a power -/
theorem fSub_iff {n d n' d' p q : Int} (hs : fSubtract n d n' d' = some (p, q)) : FOk n d ∧ FOk n' d' ∧ FOk p q ∧ rat p q = rat n d - rat n' d' := by
  unfold fSubtract two at hs
  split at hs
  · rename_i h
    have h1 : FOk n d := h.1
    have h2 : FOk n' d' := h.2
    obtain ⟨a, b⟩ := (made_iff (Int.mul_pos h1.pos h2.pos)).1 hs
    refine ⟨h1, h2, a, ?_⟩
    have k1 := castNe h1.pos
    have k2 := castNe h2.pos
    have k3 := castNe a.pos
    have k4 : (p : Rat) * (d * d') = (n * d' - n' * d) * q := by exact_mod_cast b
    unfold rat
    grind
  · cases hs
theorem fDiv_iff {n d n' p q : Int} (h0 : 0 < n') (hs : fDivide n d n' 1 = some (p, q)) : FOk p q ∧ rat p q = rat n d * rat 1 n' := by
  unfold fDivide two at hs
  split at hs
  · rename_i h
    have h1 : FOk n d := h.1
    obtain ⟨a, b⟩ := (made_iff (Int.mul_pos h1.pos h0)).1 hs
    refine ⟨a, ?_⟩
    have k1 := castNe h1.pos
    have k2 := castNe h0
    have k3 := castNe a.pos
    have k4 : (p : Rat) * (d * n') = (n * 1) * q := by exact_mod_cast b
    unfold rat
    rw [show ((1 : Int) : Rat) = 1 from rfl]
    grind
  · cases hs
theorem fMul_some {n d n' d' p q : Int} (hs : fMultiply n d n' d' = some (p, q)) : FOk p q ∧ rat p q = rat n d * rat n' d' := by
  have hs' := hs
  unfold fMultiply two at hs
  split at hs
  · rename_i h
    exact ⟨((fMul_iff h.1 h.2).1 hs').1, rat_mul h.1 h.2 hs'⟩
  · cases hs
theorem powGo_bad (z : Sur) (n a b : Int) (k : Nat) (i : Int) (out p : Sur) (c : Int × Int) : (powGo z n a b k i true out p c).1 = true := by
  rw [powGo_stop _ _ _ _ _ _ _ _ _ _ (by simp)]
theorem powGo_fn (z : Sur) (n a b : Int) (hn : n ≤ 12) : ∀ (k i : Nat) (out p : Sur) (c : Int × Int), k + i = 13 → (i : Int) ≤ n → sGood out = true → FOk c.1 c.2 → rat c.1 c.2 = bin (rat a b) (i - 1) → (∀ f, fn p f = fpow (fn z) (i - 1) f) → (∀ f, fn out f = sm i (fun j => bin (rat a b) j * fpow (fn z) j f)) →
    (powGo z n a b k i false out p c).1 = false → sGood (powGo z n a b k i false out p c).2 = true ∧ ∀ f, fn (powGo z n a b k i false out p c).2 f = sm n.toNat (fun j => bin (rat a b) j * fpow (fn z) j f)
  | 0, i, out, p, c, hk, hi, go, hc, hr, hp, ho, h => by omega
  | k + 1, i, out, p, c, hk, hi, go, hc, hr, hp, ho, h => by
    by_cases hin : (i : Int) < n
    · have e : powGo z n a b (k + 1) i false out p c = powGo z n a b k ((i + 1 : Nat) : Int) ((powB z p a b i c || !(scaleS (powP z p i) (powC a b i c).1 (powC a b i c).2).isSome) || !(addS out ((scaleS (powP z p i) (powC a b i c).1 (powC a b i c).2).getD .nil)).isSome)
          ((addS out ((scaleS (powP z p i) (powC a b i c).1 (powC a b i c).2).getD .nil)).getD .nil) (powP z p i) (powC a b i c) := by
        simp only [powGo]
        rw [if_pos (by simp [hin])]
        rfl
      rw [e] at h ⊢
      cases hb : powB z p a b i c
      · have key : FOk (powC a b i c).1 (powC a b i c).2 ∧ rat (powC a b i c).1 (powC a b i c).2 = bin (rat a b) i ∧ ∀ f, fn (powP z p i) f = fpow (fn z) i f := by
          by_cases h0 : 0 < (i : Int)
          · obtain ⟨j, rfl⟩ : ∃ j, i = j + 1 := ⟨i - 1, by omega⟩
            unfold powB at hb
            rw [if_pos h0] at hb
            unfold powC powP
            rw [if_pos h0, if_pos h0]
            cases hm : mulS p z with
            | none => rw [hm] at hb; simp at hb
            | some m =>
            cases hs : cfS a b ((j + 1 : Nat) : Int) with
            | none => rw [hs] at hb; simp at hb
            | some s =>
            cases hq : cfQ a b ((j + 1 : Nat) : Int) with
            | none => rw [hq] at hb; simp at hb
            | some q =>
            cases hM : cfM a b ((j + 1 : Nat) : Int) c with
            | none => rw [hM] at hb; simp at hb
            | some c' =>
              simp only [Option.getD_some]
              have hq' := hq
              have hM' := hM
              unfold cfQ at hq'
              rw [hs] at hq'
              simp only [Option.getD_some] at hq'
              unfold cfM at hM'
              rw [hq] at hM'
              simp only [Option.getD_some] at hM'
              obtain ⟨_, _, _, r1⟩ := fSub_iff (p := s.1) (q := s.2) (by unfold cfS at hs; exact hs)
              obtain ⟨_, r2⟩ := fDiv_iff (p := q.1) (q := q.2) h0 hq'
              obtain ⟨f3, r3⟩ := fMul_some (p := c'.1) (q := c'.2) hM'
              refine ⟨f3, ?_, fun f => ?_⟩
              · rw [r3, r2, r1, hr, rat_int]
                have e1 : ((((j + 1 : Nat) : Int) - 1 : Int) : Rat) = (j : Rat) := by
                  rw [show (((j + 1 : Nat) : Int) - 1 : Int) = ((j : Nat) : Int) by omega]; rfl
                rw [e1]
                simp only [bin, Nat.add_sub_cancel]
              · rw [fn_mulS hm]
                have h3 : fn p = fpow (fn z) j := by funext f; exact hp f
                rw [h3]; rfl
          · obtain rfl : i = 0 := by omega
            unfold powC powP
            rw [if_neg h0, if_neg h0]
            exact ⟨hc, hr, hp⟩
        obtain ⟨k1, k2, k3⟩ := key
        cases hs : scaleS (powP z p i) (powC a b i c).1 (powC a b i c).2 with
        | none =>
          rw [hs] at h
          simp only [Option.isSome_none, Bool.not_false, Bool.or_true, Bool.true_or] at h
          rw [powGo_bad] at h; cases h
        | some s =>
          cases ha : addS out s with
          | none =>
            rw [hb, hs] at h
            simp only [Option.getD_some] at h
            rw [ha] at h
            simp only [Option.isSome_none, Bool.not_false, Bool.or_true] at h
            rw [powGo_bad] at h; cases h
          | some o =>
            rw [hb, hs] at h
            simp only [Option.getD_some] at h ⊢
            rw [ha] at h ⊢
            simp only [Option.isSome_some, Bool.not_true, Bool.or_false, Option.getD_some] at h ⊢
            exact powGo_fn z n a b hn k (i + 1) o _ _ (by omega) (by omega) (addS_good ha) k1 k2 k3 (fun f => by
              rw [fn_addS ha]
              simp only [sm]
              rw [ho f, (scaleS_some hs).2.2.2, k2]
              simp only []
              rw [k3 f]) h
      · rw [hb] at h
        rw [Bool.true_or, Bool.true_or, powGo_bad] at h; cases h
    · have e := powGo_stop z n a b (k + 1) i false out p c (by simp [hin])
      rw [e]
      refine ⟨go, fun f => ?_⟩
      rw [show n.toNat = i by omega]
      exact ho f
/-- power terms -/
theorem powT_fn {x p : Sur} {a b n : Int} (h : powT x a b n = some p) : ∃ z, lessOne x = some z ∧ smallS z = true ∧ FOk a b ∧ sGood p = true ∧ 0 ≤ n ∧ n ≤ 12 ∧ ∀ f, fn p f = sm n.toNat (fun j => bin (rat a b) j * fpow (fn z) j f) := by
  unfold powT at h
  split at h
  · rename_i hg
    simp only [Bool.and_eq_true] at hg
    obtain ⟨h1, h2⟩ := stepsB_true hg.2.2
    cases hz : lessOne x with
    | none =>
      have : nearBad false x = true := by unfold nearBad; rw [hz]; rfl
      rw [this] at h
      simp only [powGo_bad, if_true] at h
      cases h
    | some z =>
      rw [hz] at h
      simp only [Option.getD_some] at h
      cases hnb : nearBad false x
      · have hsm : smallS z = true := by
          unfold nearBad at hnb
          rw [hz] at hnb
          simpa using hnb
        rw [hnb] at h
        cases hb : (powGo z n a b 13 0 false .nil oneS (1, 1)).1
        · simp only [hb, Bool.false_eq_true, if_false, Option.some.injEq] at h
          subst h
          have := powGo_fn z n a b h2 13 0 .nil oneS (1, 1) rfl h1 sGood_nil (show fracOk 1 1 = true by decide) (by rw [rat_int]; rfl) (fun f => by rw [oneS_fn]; rfl) (fun f => rfl) hb
          exact ⟨z, rfl, hsm, hg.2.1, this.1, h1, h2, this.2⟩
        · simp only [hb, if_true] at h
          cases h
      · rw [hnb] at h
        simp only [powGo_bad, if_true] at h
        cases h
  · cases h
/-- the law of sums of exponents -/
theorem pows_law {x p q r s d z : Sur} {a b a' b' u v n : Int} (hz : lessOne x = some z) (nz : z ≠ .nil) (hp : powT x a b n = some p) (hq : powT x a' b' n = some q) (hf : fAdd a b a' b' = some (u, v)) (hr : powT x u v n = some r) (hs : mulS p q = some s) (hd : subS s r = some d) : qbB d z z n = true := by
  obtain ⟨z1, e1, sz, fab, gp, h0, h12, ep⟩ := powT_fn hp
  rw [hz] at e1
  obtain rfl : z = z1 := by injection e1
  obtain ⟨z2, e2, _, fab', gq, _, _, eq⟩ := powT_fn hq
  rw [hz] at e2
  obtain rfl : z = z2 := by injection e2
  obtain ⟨z3, e3, _, _, gr, _, _, er⟩ := powT_fn hr
  rw [hz] at e3
  obtain rfl : z = z3 := by injection e3
  obtain ⟨_, gz', _⟩ := lessOne_fn hz
  obtain ⟨_, gd, ed⟩ := subS_some hd (sGood_len gr).2.2
  obtain ⟨N, rfl⟩ : ∃ N : Nat, n = N := ⟨n.toNat, by omega⟩
  rw [Int.toNat_natCast] at ep eq er
  have hrat := rat_add fab fab' hf
  refine beyond nz nz gz' gz' sz sz gd fun m hm uz _ => ups_of_off (fn_lin d) fun t ht => ?_
  have k1 := ser_prod (fn_nice z) hm uz (bin (rat a b)) (bin (rat a' b')) ht
  have k2 : fn s t = sm N (fun i => bin (rat a b) i * fpow (fn z) i (fun g => sm N (fun j => bin (rat a' b') j * fpow (fn z) j (fun h => t (gadd g h))))) := by
    rw [fn_mulS hs]
    show fn p (fun g => fn q fun h => t (gadd g h)) = _
    rw [ep]
    exact sm_congr fun i hi => by
      congr 2
      funext w
      exact eq _
  have k3 : sm N (fun k => sm (k + 1) (fun i => bin (rat a b) i * bin (rat a' b') (k - i)) * fpow (fn z) k t) = fn r t := by
    rw [er, hrat]
    exact sm_congr fun k hk => by rw [bin_add]
  rw [ed]
  simp only []
  rw [k2, k1, k3]; grind
/-- the power itself, for an integer -/
theorem pows_int {x p q : Sur} {a n : Int} (hp : powT x a 1 n = some p) (h0 : 0 ≤ a) (hn : a < n) (hq : powK x a = some q) : q = p := by
  obtain ⟨z, hz, _, _, gp, _, _, ep⟩ := powT_fn hp
  obtain ⟨_, gq, _, _, eq⟩ := powK_fn hq
  obtain ⟨_, _, ez⟩ := lessOne_fn hz
  refine fn_inj gq gp ?_
  funext f
  have e1 : fn x = fad (fn z) fone := by
    funext f
    show fn x f = fn z f + fone f
    rw [ez]; grind
  obtain ⟨M, rfl⟩ : ∃ M : Nat, a = M := ⟨a.toNat, by omega⟩
  rw [eq, ep, e1, Int.toNat_natCast, pow_bin (fn_nice z), rat_int]
  have e2 : (((M : Nat) : Int) : Rat) = (M : Rat) := rfl
  rw [e2]
  exact (sm_cut (m := M + 1) (n := n.toNat) (by omega) (fun i hi _ => by rw [bin_high M i (by omega)]; grind)).symm
end Go.Proofs.YtonlfnbjbmgegaaGreat
