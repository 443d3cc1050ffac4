/-
  Roots by terms: what the reference computes, plain.
  Roots by terms: what the terms of a root are (plain), and that program and reference have the same ones.
  Roots by terms: each step lowers what remains (plain).
  Roots by terms: program and reference have the same ones (plain).
  The check of a root: what both compute. Plain.
  Roots and powers: the laws, plain.
-/
import Derived.Test.YtonlfnbjbmgegaaGreatQF
import Derived.Test.YtonlfnbjbmgegaaGreatRC
import Derived.Test.YtonlfnbjbmgegaaGreatBJ
import Derived.Test.YtonlfnbjbmgegaaGreatSPowFn
import Derived.Test.YtonlfnbjbmgegaaGreatWRtFn
import Derived.Test.YtonlfnbjbmgegaaGreatSQuo
namespace Go.Proofs.YtonlfnbjbmgegaaGreat
open Go.RowKit
set_option linter.unusedSimpArgs false
set_option linter.unusedVariables false

/- powers -/
def kpowGo (x : Sur) : Nat → Bool → Sur → Bool × Sur
  | 0, bad, out => (bad, out)
  | m + 1, bad, out => kpowGo x m (bad || !(prodS out x).isSome) (keepS bad (prodS out x))
def kpow (x : Sur) (k : Nat) (bad : Bool) : Bool × Sur := kpowGo x k bad oneS
/- the first term -/
def sfE (r : Sur) (k : Nat) : Option Sur := prodS (fE r) (termP .nil 1 k)
def sfB1 (r : Sur) (k : Nat) : Bool := false || !(sfE r k).isSome
def sfX (r : Sur) (k : Nat) : Sur := keepS false (sfE r k)
def sfA (r : Sur) (k : Nat) : Int × Int := (sCoef (fC r).1 (fC r).2 k).getD (0, 0)
def sfK (r : Sur) (k : Nat) : Option Sur := told (termP (sfX r k) (sfA r k).1 (sfA r k).2) true
def sfB2 (r : Sur) (k : Nat) : Bool := sfB1 r k || !(sfK r k).isSome
def sfT (r : Sur) (k : Nat) : Sur := keepS (sfB1 r k) (sfK r k)
/- a further term -/
def tmB (b : Bool) (v c : Int × Int) : Bool := frB b (muN v.1 v.2 c.1 c.2) (muD v.1 v.2 c.1 c.2)
def tmV (b : Bool) (v c : Int × Int) : Int × Int := (frN (tmB b v c) (muN v.1 v.2 c.1 c.2), frN (tmB b v c) (muD v.1 v.2 c.1 c.2))
def tmGo (c : Int × Int) : Nat → Bool → Int × Int → Bool × (Int × Int)
  | 0, b, v => (b, v)
  | i + 1, b, v => tmGo c i (tmB b v c) (tmV b v c)
def snW (s : Sur) (k : Nat) : Bool × (Int × Int) := tmGo (fC s) (k - 1) false (k, 1)
def snE1 (s : Sur) (k : Nat) : Option Sur := prodS (fE s) (termP .nil ((k : Int) - 1) 1)
def snB1 (s : Sur) (k : Nat) : Bool := (snW s k).1 || !(snE1 s k).isSome
def snX1 (s : Sur) (k : Nat) : Sur := keepS (snW s k).1 (snE1 s k)
def snE (s r : Sur) (k : Nat) : Option Sur := sumS (fE r) (negP (snX1 s k))
def snB2 (s r : Sur) (k : Nat) : Bool := snB1 s k || !(snE s r k).isSome
def snX (s r : Sur) (k : Nat) : Sur := keepS (snB1 s k) (snE s r k)
def snN (s r : Sur) (k : Nat) : Int := mkN ((fC r).1 * (snW s k).2.2) ((fC r).2 * (snW s k).2.1)
def snD (s r : Sur) (k : Nat) : Int := mkD ((fC r).1 * (snW s k).2.2) ((fC r).2 * (snW s k).2.1)
def snB3 (s r : Sur) (k : Nat) : Bool := frB (snB2 s r k) (snN s r k) (snD s r k)
def snK (s r : Sur) (k : Nat) : Option Sur := told (termP (snX s r k) (frN (snB3 s r k) (snN s r k)) (frN (snB3 s r k) (snD s r k))) true
def snB4 (s r : Sur) (k : Nat) : Bool := snB3 s r k || !(snK s r k).isSome
def snT (s r : Sur) (k : Nat) : Sur := keepS (snB3 s r k) (snK s r k)
def snS (s r : Sur) (k : Nat) : Option Sur := sumS s (snT s r k)
def snB5 (s r : Sur) (k : Nat) : Bool := snB4 s r k || !(snS s r k).isSome
def snQ (s r : Sur) (k : Nat) : Sur := keepS (snB4 s r k) (snS s r k)
/- a step -/
def ssS (s r : Sur) (k : Nat) : Sur := if s.len = 0 then sfT r k else snQ s r k
def ssB (s r : Sur) (k : Nat) : Bool := if s.len = 0 then sfB2 r k else snB5 s r k
def ssP (s r : Sur) (k : Nat) : Bool × Sur := kpow (ssS s r k) k (ssB s r k)
def ssR (x s r : Sur) (k : Nat) : Option Sur := sumS x (negP (ssP s r k).2)
def ssB6 (x s r : Sur) (k : Nat) : Bool := (ssP s r k).1 || !(ssR x s r k).isSome
def ssR1 (x s r : Sur) (k : Nat) : Sur := keepS (ssP s r k).1 (ssR x s r k)
def srGo (x : Sur) (k : Nat) : Nat → Bool → Sur → Sur → Option (Bool × Sur × Sur)
  | 0, bad, s, r => some (bad, s, r)
  | m + 1, bad, s, r => if r.len ≠ 0 ∧ bad = false then (if s.len = 0 ∧ sCoef (fC r).1 (fC r).2 k = none then none else srGo x k m (ssB6 x s r k) (ssS s r k) (ssR1 x s r k)) else some (bad, s, r)
theorem srGo_stop {x s r : Sur} {k : Nat} {bad : Bool} (m : Nat) (h : ¬ (r.len ≠ 0 ∧ bad = false)) : srGo x k m bad s r = some (bad, s, r) := by
  cases m with
  | zero => rfl
  | succ m => simp only [srGo]; rw [if_neg h]
theorem srGo_step {x s r : Sur} {k m : Nat} (nr : r.len ≠ 0) (h : ¬ (s.len = 0 ∧ sCoef (fC r).1 (fC r).2 k = none)) : srGo x k (m + 1) false s r = srGo x k m (ssB6 x s r k) (ssS s r k) (ssR1 x s r k) := by
  simp only [srGo]
  rw [if_pos ⟨nr, trivial⟩, if_neg h]
theorem srGo_none {x s r : Sur} {k m : Nat} (nr : r.len ≠ 0) (h : s.len = 0 ∧ sCoef (fC r).1 (fC r).2 k = none) : srGo x k (m + 1) false s r = none := by
  simp only [srGo]
  rw [if_pos ⟨nr, trivial⟩, if_pos h]
def srR (x : Sur) (k n : Nat) : Bool × Sur × Sur := (srGo x k n false .nil x).getD (true, .nil, .nil)
theorem tm_ok {b : Bool} {v c : Int × Int} (hv : FOk v.1 v.2 ∧ v.1 ≠ 0) (hc : FOk c.1 c.2 ∧ c.1 ≠ 0) : FOk (tmV b v c).1 (tmV b v c).2 ∧ (tmV b v c).1 ≠ 0 := by
  refine ⟨frV_ok b _ _, ?_⟩
  show frN (tmB b v c) _ ≠ 0
  unfold frN
  split
  · omega
  · rename_i h
    have h1 : fracOk (muN v.1 v.2 c.1 c.2) (muD v.1 v.2 c.1 c.2) = true := by
      cases hb : fracOk (muN v.1 v.2 c.1 c.2) (muD v.1 v.2 c.1 c.2)
      · exact absurd (show tmB b v c = true by unfold tmB frB; rw [hb]; simp) h
      · rfl
    intro h0
    have h2 := mk_crossD (v.1 * c.1) (v.2 * c.2)
    have h3 : muN v.1 v.2 c.1 c.2 = mkN (v.1 * c.1) (v.2 * c.2) := rfl
    have h4 : muD v.1 v.2 c.1 c.2 = mkD (v.1 * c.1) (v.2 * c.2) := rfl
    rw [← h3, ← h4, h0, Int.zero_mul] at h2
    have h5 := (show FOk _ _ from h1).pos
    rcases Int.mul_eq_zero.1 h2.symm with h6 | h6
    · rcases Int.mul_eq_zero.1 h6 with h7 | h7
      · exact hv.2 h7
      · exact hc.2 h7
    · omega
theorem tmGo_ok {c : Int × Int} (hc : FOk c.1 c.2 ∧ c.1 ≠ 0) : ∀ (i : Nat) (b : Bool) (v : Int × Int), FOk v.1 v.2 ∧ v.1 ≠ 0 → FOk (tmGo c i b v).2.1 (tmGo c i b v).2.2 ∧ (tmGo c i b v).2.1 ≠ 0
  | 0, _, _, hv => hv
  | i + 1, b, v, hv => tmGo_ok hc i _ _ (tm_ok hv hc)
theorem kpow_good (x : Sur) : ∀ (k : Nat) (b : Bool) (out : Sur), sGood out = true → sGood (kpowGo x k b out).2 = true
  | 0, _, _, h => h
  | k + 1, b, out, h => kpow_good x k _ _ (keepS_good fun z hz => prodS_good hz)
theorem ssS_good {s r : Sur} {k : Nat} : sGood (ssS s r k) = true := by
  unfold ssS
  split
  · exact keepS_good fun z h => (told_eq h).1 ▸ (told_eq h).2.2
  · exact keepS_good fun z h => sumS_good h
theorem frac_inv {k : Nat} (h2 : 2 ≤ k) (h4 : k ≤ 4) : fracOk 1 k = true := by
  obtain rfl | rfl | rfl : k = 2 ∨ k = 3 ∨ k = 4 := by omega
  all_goals decide
theorem frac_less {k : Nat} (h2 : 2 ≤ k) (h4 : k ≤ 4) : fracOk ((k : Int) - 1) 1 = true := by
  obtain rfl | rfl | rfl : k = 2 ∨ k = 3 ∨ k = 4 := by omega
  all_goals decide
theorem frac_k {k : Nat} (h2 : 2 ≤ k) (h4 : k ≤ 4) : fracOk k 1 = true := by
  obtain rfl | rfl | rfl : k = 2 ∨ k = 3 ∨ k = 4 := by omega
  all_goals decide
end Go.Proofs.YtonlfnbjbmgegaaGreat

namespace Go.Proofs.YtonlfnbjbmgegaaGreat
open Go.RowKit
set_option linter.unusedSimpArgs false
set_option linter.unusedVariables false

def rp (c : Rat) : Nat → Rat
  | 0 => 1
  | j + 1 => rp c j * c
/-- a power's first term -/
theorem fpow_lead {S S' : Fnl} {c : Rat} {e : Gam} (h : ∀ f, S f = c * f e + S' f) (hs : Sup S' fun u => GtF e u) : ∀ j, ∃ Q : Fnl, (∀ f, fpow S j f = rp c j * f (gsm j e) + Q f) ∧ Sup Q fun u => GtF (gsm j e) u
  | 0 => ⟨fun _ => 0, fun f => by simp only [fpow, fone, rp, gsm_zero]; grind, fun f k _ => rfl⟩
  | j + 1 => by
    obtain ⟨Q, hq, hQ⟩ := fpow_lead h hs j
    refine ⟨fun f => rp c j * S' (fun u => f (gadd (gsm j e) u)) + Q (fun g => S fun u => f (gadd g u)), fun f => ?_, fun f k hfk => ?_⟩
    · show fpow S j (fun g => S fun u => f (gadd g u)) = _
      rw [hq, h, ← gsm_succ]
      simp only [rp]
      grind
    · have e1 : S' (fun u => f (gadd (gsm j e) u)) = S' (fun u => k (gadd (gsm j e) u)) := hs _ _ fun u hu => hfk _ (by rw [gsm_succ]; exact hu.addL)
      have e2 : Q (fun g => S fun u => f (gadd g u)) = Q (fun g => S fun u => k (gadd g u)) := hQ _ _ fun g hg => by
        rw [h, h, hfk _ (by rw [gsm_succ]; exact hg.addR), hs (fun u => f (gadd g u)) (fun u => k (gadd g u)) fun u hu => hfk _ (by rw [gsm_succ]; exact GtF.add hg hu)]
      simp only []
      rw [e1, e2]
theorem Sup.pow {S : Fnl} {e : Gam} (h : Sup S fun u => LeF u e) (j : Nat) : Sup (fpow S j) fun u => LeF u (gsm j e) :=
  Ups.pow (m := e) (by unfold Ups; rw [gsm_one]; exact h) j
/-- a power of a sum, up to what is lower -/
theorem fpow_plus {S T : Fnl} {e e' : Gam} (nS : Nice S) (nT : Nice T) (hS : Sup S fun u => LeF u e) (hT : Sup T fun u => LeF u e') (he : GtF e e') : ∀ j, ∃ R : Fnl, (∀ f, fpow (fun f => S f + T f) (j + 1) f = fpow S (j + 1) f + ((j + 1 : Nat) : Rat) * fmul (fpow S j) T f + R f) ∧ Sup R fun u => GtF (gadd (gsm j e) e') u
  | 0 => ⟨fun _ => 0, fun f => by
      show fmul fone (fun f => S f + T f) f = fmul fone S f + _ * fmul fone T f + 0
      rw [fone_mul, fone_mul, fone_mul, castS]
      have : ((0 : Nat) : Rat) = 0 := rfl
      grind, fun f k _ => rfl⟩
  | j + 1 => by
    obtain ⟨R, hr, hR⟩ := fpow_plus nS nT hS hT he j
    have hU : Sup (fun f => S f + T f) fun u => LeF u e := fun f k hfk => by
      show S f + T f = S k + T k
      rw [hS f k hfk, hT f k fun u hu => hfk u (.inr (hu.gt he))]
    refine ⟨fun f => ((j + 1 : Nat) : Rat) * fmul (fmul (fpow S j) T) T f + R (fun g => S (fun u => f (gadd g u)) + T (fun u => f (gadd g u))), fun f => ?_, fun f k hfk => ?_⟩
    · show fpow (fun f => S f + T f) (j + 1) (fun g => S (fun u => f (gadd g u)) + T (fun u => f (gadd g u))) = _
      rw [hr]
      have e1 : fpow S (j + 1) (fun g => S (fun u => f (gadd g u)) + T (fun u => f (gadd g u))) = fpow S (j + 1 + 1) f + fmul (fpow S (j + 1)) T f := (nS.pow (j + 1)).lin.add _ _
      have e2 : fmul (fpow S j) T (fun g => S (fun u => f (gadd g u)) + T (fun u => f (gadd g u))) = fmul (fmul (fpow S j) T) S f + fmul (fmul (fpow S j) T) T f := ((nS.pow j).mul nT).lin.add _ _
      have e3 : fmul (fmul (fpow S j) T) S = fmul (fpow S (j + 1)) T := by
        rw [fmul_assoc, fmul_comm nT nS, ← fmul_assoc]; rfl
      rw [e1, e2, e3, castS (j + 1)]
      grind
    · have e1 : fmul (fmul (fpow S j) T) T f = fmul (fmul (fpow S j) T) T k := by
        refine Sup.mul (Sup.mul (hS.pow j) hT (R := fun u => LeF u (gadd (gsm j e) e')) fun g h hg hh => hg.add hh) hT (R := fun u => GtF (gadd (gsm (j + 1) e) e') u) (fun g h hg hh => ?_) f k hfk
        refine (hg.add hh).gt ?_
        rw [gsm_succ]
        exact (he.addL (w := gsm j e)).addR
      have e2 : R (fun g => S (fun u => f (gadd g u)) + T (fun u => f (gadd g u))) = R (fun g => S (fun u => k (gadd g u)) + T (fun u => k (gadd g u))) := hR _ _ fun g hg => hU (fun u => f (gadd g u)) (fun u => k (gadd g u)) fun u hu => hfk _ (by
        have h1 : gadd (gsm (j + 1) e) e' = gadd (gadd (gsm j e) e') e := by rw [gsm_succ, gadd_assoc, gadd_comm e e', ← gadd_assoc]
        rw [h1]
        rcases hu with rfl | hu
        · exact hg.addR
        · exact GtF.add hg hu)
      simp only []
      rw [e1, e2]
theorem co_scaleS {x z : Sur} {a b : Int} (h : scaleS x a b = some z) : co z = fun s => rat a b * co x s := by
  obtain ⟨gx, _, gz, hf⟩ := scaleS_some h
  funext s
  by_cases hs : s.All GOk ∧ Dec s
  · have h1 := congrFun hf (ind (co s))
    rw [fn_ind hs.1 hs.2 (sGood_exG gz), fn_ind hs.1 hs.2 (sGood_exG gx)] at h1
    exact h1
  · rw [co_bad hs (sGood_exG gz), co_bad hs (sGood_exG gx)]; grind
theorem rat_nat (k : Nat) : rat (k : Int) 1 = (k : Rat) := by
  unfold rat
  rw [show (((k : Nat) : Int) : Rat) = ((k : Nat) : Rat) by exact_mod_cast rfl, show ((1 : Int) : Rat) = 1 by exact_mod_cast rfl]
  grind
theorem frac_kk {k : Nat} (h2 : 2 ≤ k) (h4 : k ≤ 4) : FOk (k : Int) 1 := by
  obtain rfl | rfl | rfl : k = 2 ∨ k = 3 ∨ k = 4 := by omega
  all_goals
    show fracOk _ _ = true
    decide
theorem rat_11 : rat 1 1 = 1 := by
  have := rat_nat 1
  rw [show ((1 : Nat) : Rat) = 1 from rfl] at this
  exact this
/-- a number whose n-th power is at most 10^6 -/
theorem root_le {a k : Nat} (h2 : 2 ≤ k) (h4 : k ≤ 4) (h : a ^ k ≤ 1000000) (j : Nat) (hj : j + 1 ≤ k) : k * a ^ j ≤ 1000000 := by
  have ha : a = 0 ∨ 1 ≤ a := by omega
  rcases ha with rfl | ha
  · cases j with
    | zero => simp; omega
    | succ j => simp
  have hm : a ^ j ≤ a ^ (k - 1) := Nat.pow_le_pow_right ha (by omega)
  have hk : k * a ^ j ≤ k * a ^ (k - 1) := Nat.mul_le_mul_left _ hm
  refine Nat.le_trans hk ?_
  obtain rfl | rfl | rfl : k = 2 ∨ k = 3 ∨ k = 4 := by omega
  · have : a ≤ 1000 := Classical.byContradiction fun hc => by
      have h1 := Nat.pow_le_pow_left (show 1001 ≤ a by omega) 2
      have h2 : (1001 : Nat) ^ 2 = 1002001 := by decide
      omega
    simp only [Nat.reduceSub, Nat.pow_one]; omega
  · have : a ≤ 100 := Classical.byContradiction fun hc => by
      have h1 := Nat.pow_le_pow_left (show 101 ≤ a by omega) 3
      have h2 : (101 : Nat) ^ 3 = 1030301 := by decide
      omega
    have h1 := Nat.pow_le_pow_left this 2
    have h2 : (100 : Nat) ^ 2 = 10000 := by decide
    simp only [Nat.reduceSub]; omega
  · have : a ≤ 31 := Classical.byContradiction fun hc => by
      have h1 := Nat.pow_le_pow_left (show 32 ≤ a by omega) 4
      have h2 : (32 : Nat) ^ 4 = 1048576 := by decide
      omega
    have h1 := Nat.pow_le_pow_left this 3
    have h2 : (31 : Nat) ^ 3 = 29791 := by decide
    simp only [Nat.reduceSub]; omega
theorem mk_fit {n d : Int} (hn : n.natAbs ≤ 1000000) (hd : 1 ≤ d ∧ d ≤ 1000000) : FOk (mkN n d) (mkD n d) ∧ (mkN n d).natAbs ≤ n.natAbs ∧ (mkD n d).natAbs ≤ d.natAbs := by
  obtain ⟨_, h2, h3⟩ := mk_cross n d (by omega)
  have e1 : (mkN n d).natAbs ≤ n.natAbs := by unfold mkN; rw [Int.natAbs_tdiv]; exact Nat.div_le_self _ _
  have e2 : (mkD n d).natAbs ≤ d.natAbs := by unfold mkD; rw [Int.natAbs_tdiv]; exact Nat.div_le_self _ _
  exact ⟨fracOk_iff.2 ⟨by omega, by omega, by omega, by omega, h3⟩, e1, e2⟩
/-- what is known of a root of a fraction -/
theorem root_facts {n d a b : Int} {k : Nat} (hf : fracOk n d = true) (h2 : 2 ≤ k) (h4 : k ≤ 4) (h : rootC n d k = some (a, b)) : FOk a b ∧ a.natAbs ^ k ≤ 1000000 ∧ b.natAbs ^ k ≤ 1000000 ∧ rp (rat a b) k = rat n d := by
  obtain ⟨g1, g2, g3, g4, _⟩ := fracOk_iff.1 hf
  have hs := (sCoef_rootC hf h2).trans h
  have hok : FOk a b := by
    unfold rootC at h
    split at h
    · cases h
    · exact made_ok h
  have hok' := hok
  unfold sCoef at hs
  split at hs
  · cases hs
  · rename_i hc
    simp only [Option.some.injEq, Prod.mk.injEq] at hs
    obtain ⟨ha, hb⟩ := hs
    have pa := rootP_pow (n := (n.natAbs : Int)) (k := k) (by omega)
    have pb := rootP_pow (n := d) (k := k) (by omega)
    have ba : 0 ≤ rootP (n.natAbs : Int) k := by omega
    have bb : 0 ≤ rootP d k := by omega
    generalize rootP (n.natAbs : Int) k = r at *
    generalize rootP d k = q at *
    obtain ⟨r, rfl⟩ : ∃ r' : Nat, r = r' := ⟨r.toNat, by omega⟩
    obtain ⟨q, rfl⟩ : ∃ q' : Nat, q = q' := ⟨q.toNat, by omega⟩
    rw [Int.toNat_natCast] at pa pb
    have pa' : r ^ k = n.natAbs := by exact_mod_cast pa
    have cases3 : (n < 0 ∧ cmpI n 0 = -1) ∨ (0 ≤ n ∧ (cmpI n 0 = 1 ∨ r = 0)) := by
      unfold cmpI
      rcases Int.lt_trichotomy n 0 with h | h | h
      · exact .inl ⟨h, by rw [if_pos h]⟩
      · refine .inr ⟨by omega, .inr ?_⟩
        rw [h] at pa'
        rcases Nat.eq_zero_or_pos r with h0 | h0
        · exact h0
        · have := Nat.pow_pos (n := k) h0
          simp at pa'; omega
      · exact .inr ⟨by omega, .inl (by rw [if_neg (by omega), if_pos (by omega)])⟩
    have haa : a.natAbs = r := by
      rw [← ha]
      rcases cases3 with ⟨_, e⟩ | ⟨_, e | e⟩
      · rw [e]; omega
      · rw [e]; omega
      · rw [e]; simp
    have hbb : b.natAbs = q := by rw [← hb]; rfl
    have pb' : q ^ k = d.natAbs := by have : ((q ^ k : Nat) : Int) = d := pb; omega
    refine ⟨hok, by rw [haa, pa']; omega, by rw [hbb, pb']; omega, ?_⟩
    have k1 := castNe hok.pos
    have k2 := castNe (show 0 < d by omega)
    subst hb
    clear hok hok' h hf hbb haa
    have key : ∀ A : Int, (A = a) → (rp (rat A (q : Int)) k = rat n d) := fun A hA => by
      subst hA
      have en : (A : Int) ^ k = n := by
        rcases cases3 with ⟨hn, e⟩ | ⟨hn, e⟩
        · have hk : k = 3 := by omega
          subst hk
          rw [← ha, e]
          have h3 : ((r ^ 3 : Nat) : Int) = -n := by omega
          have h4 : ((r ^ 3 : Nat) : Int) = (r : Int) ^ 3 := by exact_mod_cast rfl
          rw [h4] at h3
          grind
        · have hA : A = r := by
            rcases e with e | e
            · rw [← ha, e]; omega
            · rw [← ha, e]; simp
          rw [hA]
          have h4 : ((r ^ k : Nat) : Int) = (r : Int) ^ k := by exact_mod_cast rfl
          omega
      have ed : (q : Int) ^ k = d := by
        have h4 : ((q ^ k : Nat) : Int) = (q : Int) ^ k := by exact_mod_cast rfl
        omega
      have en' : (A : Rat) ^ k = n := by exact_mod_cast en
      have ed' : ((q : Int) : Rat) ^ k = d := by exact_mod_cast ed
      obtain rfl | rfl | rfl : k = 2 ∨ k = 3 ∨ k = 4 := by omega
      all_goals
        unfold rat
        rw [← en', ← ed']
        simp only [rp]
        grind
    exact key a rfl
end Go.Proofs.YtonlfnbjbmgegaaGreat

namespace Go.Proofs.YtonlfnbjbmgegaaGreat
open Go.RowKit
set_option linter.unusedSimpArgs false
set_option linter.unusedVariables false

/-- what is known of a root's terms and of what remains -/
structure RInv (x s r : Sur) (k m : Nat) : Prop where
  gs : sGood s = true
  gr : sGood r = true
  eq : ∀ f, fn x f = fpow (fn s) k f + fn r f
  hd : ∃ e0 n0 d0 s', s = .cons e0 n0 d0 s' ∧ rootC (fC x).1 (fC x).2 k = some (n0, d0)
  ab : r ≠ .nil → ExP (fun u => GtF (gadd u (gsm (k - 1) (co (fE s)))) (co (fE r))) s
  ls : ∃ q0 e n d, s = .app q0 (.cons e n d .nil) ∧ Sup (fn r) fun u => GtF (gadd (co e) (gsm (k - 1) (co (fE s)))) u
  ln : s.len ≤ m
theorem mpow_true' (x : Sur) (k : Int) : (mpow x k true).1 = true := by unfold mpow; rw [mpowGo_stop x k 13 0 true oneS (by simp)]
theorem mpow_fn {x : Sur} {k : Nat} (hk : k ≤ 12) (h : (mpow x k false).1 = false) : sGood (mpow x k false).2 = true ∧ fn (mpow x k false).2 = fpow (fn x) k := by
  have := mpowGo_fn x k (by omega) 13 0 oneS rfl (by omega) (by decide) (by rw [show fpow (fn x) 0 = fone from rfl, ← fn_one]; rfl) h
  rw [Int.toNat_natCast] at this
  exact this
theorem rnP_rat (c : Int × Int) (hc : FOk c.1 c.2) (b : Bool) : ∀ i, (rnP c b i).1 = false → b = false ∧ FOk (rnP c b i).2.1 (rnP c b i).2.2 ∧ rat (rnP c b i).2.1 (rnP c b i).2.2 = rp (rat c.1 c.2) i
  | 0, h => ⟨h, show fracOk 1 1 = true by decide, rat_11⟩
  | i + 1, h => by
    simp only [rnP, Bool.or_eq_false_iff] at h
    obtain ⟨h1, h2, h3⟩ := rnP_rat c hc b i h.1
    simp only [rnP, rp]
    cases hm : fMultiply (rnP c b i).2.1 (rnP c b i).2.2 c.1 c.2 with
    | none => rw [hm] at h; simp at h
    | some v =>
      obtain ⟨p, q⟩ := v
      refine ⟨h1, two_ok hm, ?_⟩
      simp only [Option.getD_some]
      rw [rat_mul h2 hc hm, h3]
/-- what a step that did not fail gives -/
theorem rs_some {x s r : Sur} {k i : Nat} (hk : k ≤ 12) (h : rsB3 x s r k i = false) : ∃ S R, rsB x s r k i = false ∧ addS s (rsT x s r k i) = some S ∧ rsS x s r k i = some S ∧ rsR x s r k i = some R ∧ sGood S = true ∧ sGood R = true ∧ ∀ f, fn x f = fpow (fn S) k f + fn R f := by
  unfold rsB3 at h
  rw [Bool.or_eq_false_iff] at h
  obtain ⟨h1, h2⟩ := h
  have hb2 : rsB2 x s r k i = false := by
    cases hb : rsB2 x s r k i
    · rfl
    · unfold rsP at h1
      rw [hb, mpow_true'] at h1
      cases h1
  have h1' := h1
  unfold rsP at h1'
  rw [hb2] at h1'
  unfold rsB2 at hb2
  rw [Bool.or_eq_false_iff] at hb2
  cases hS : rsS x s r k i with
  | none => rw [hS] at hb2; simp at hb2
  | some S =>
  cases hR : rsR x s r k i with
  | none => rw [hR] at h2; simp at h2
  | some R =>
  rw [hS] at h1'
  simp only [Option.getD_some] at h1'
  obtain ⟨gp, hp⟩ := mpow_fn hk h1'
  have hR' : subS x (mpow S k false).2 = some R := by
    have := hR
    unfold rsR rsP rsB2 at this
    rw [hS, hb2.1] at this
    exact this
  obtain ⟨_, gR, eR⟩ := subS_some hR' (sGood_len gp).2.2
  refine ⟨S, R, hb2.1, hS, rfl, rfl, addS_good (show addS s (rsT x s r k i) = some S from hS), gR, fun f => ?_⟩
  rw [eR, hp]; grind
theorem gsm_pred {k : Nat} (h : 1 ≤ k) (e : Gam) : gadd (gsm (k - 1) e) e = gsm k e := by
  rw [← gsm_succ]; congr 1; omega
theorem rat_div {n d n' d' p q : Int} (h : FOk n d) (h' : FOk n' d') (h0 : n' ≠ 0) (hs : fDivide n d n' d' = some (p, q)) : FOk p q ∧ rat p q * rat n' d' = rat n d := by
  unfold fDivide two at hs
  rw [if_pos ⟨h, h'⟩] at hs
  have hd : d * n' ≠ 0 := fun e => by
    rcases Int.mul_eq_zero.1 e with e | e
    · have := h.pos; omega
    · exact h0 e
  have hok := made_ok hs
  refine ⟨hok, ?_⟩
  unfold made at hs
  rw [if_neg hd] at hs
  split at hs
  · simp only [Option.some.injEq, Prod.mk.injEq] at hs
    have hx := mk_crossD (n * d') (d * n')
    rw [hs.1, hs.2] at hx
    have k1 := castNe h.pos
    have k2 := castNe h'.pos
    have k3 := castNe (show FOk p q from hok).pos
    have k4 : (p : Rat) * (d * n') = (n * d') * q := by exact_mod_cast hx
    unfold rat
    grind
  · cases hs
/-- the first step -/
theorem root_first {x : Sur} {k : Nat} (gx : sGood x = true) (nx : x.len ≠ 0) (h2 : 2 ≤ k) (h4 : k ≤ 4) (hb : rsB3 x .nil x k 0 = false) : RInv x ((rsS x .nil x k 0).getD .nil) ((rsR x .nil x k 0).getD .nil) k 1 := by
  obtain ⟨S, R, b0, hS, eS, eR, gS, gR, heq⟩ := rs_some (by omega) hb
  rw [eS, eR]
  simp only [Option.getD_some]
  cases x with
  | nil => exact absurd rfl nx
  | cons ex xn xd x' =>
  have kx := (sGood_g gx).1.2.1
  unfold rsB rfB at b0
  rw [if_pos rfl] at b0
  simp only [Bool.or_eq_false_iff, Bool.not_eq_false'] at b0
  obtain ⟨⟨_, b1⟩, b2⟩ := b0
  cases hE : rfE (.cons ex xn xd x') k with
  | none => rw [hE] at b1; simp at b1
  | some e0 =>
  cases hC : rfC (.cons ex xn xd x') k with
  | none => rw [hC] at b2; simp at b2
  | some c =>
  obtain ⟨cn, cd⟩ := c
  have hC' : rootC xn xd k = some (cn, cd) := hC
  obtain ⟨hok, _, _, hrp⟩ := root_facts kx.1 h2 h4 hC'
  have hc0 : cn ≠ 0 := fun h0 => by
    rw [h0, rat_zero] at hrp
    have : rp 0 k = 0 := by
      obtain ⟨j, rfl⟩ : ∃ j, k = j + 1 := ⟨k - 1, by omega⟩
      simp only [rp]; grind
    rw [this] at hrp
    exact rat_ne kx hrp.symm
  have hT : rsT (.cons ex xn xd x') .nil (.cons ex xn xd x') k 0 = .cons e0 cn cd .nil := by
    unfold rsT rfT
    rw [if_pos rfl, hE, hC]
    simp only [Option.getD_some, termP, if_neg hc0]
  rw [hT] at hS
  have hS1 : S = .cons e0 cn cd .nil := by
    have h1 := (addS_some hS).2.2.1
    have abv0 : Above (.cons e0 cn cd .nil) .nil := trivial
    have h2 := sumP_above abv0
    rw [h2] at h1
    injection h1 with h1
    exact h1.symm
  subst hS1
  have hco : gsm k (co e0) = co ex := by
    have hE' : scaleS ex 1 k = some e0 := hE
    rw [co_scaleS hE']
    funext u
    have hk : (k : Rat) ≠ 0 := by
      obtain ⟨j, rfl⟩ : ∃ j, k = j + 1 := ⟨k - 1, by omega⟩
      exact castP j
    show (k : Rat) * (rat 1 k * co ex u) = co ex u
    unfold rat
    rw [show ((1 : Int) : Rat) = 1 by exact_mod_cast rfl, show (((k : Nat) : Int) : Rat) = ((k : Nat) : Rat) by exact_mod_cast rfl]
    grind
  have hsup : Sup (fn R) fun u => GtF (gadd (co e0) (gsm (k - 1) (co e0))) u := by
    obtain ⟨Q, hq, hQ⟩ := fpow_lead (S := fn (.cons e0 cn cd .nil)) (S' := fun _ => 0) (c := rat cn cd) (e := co e0) (fun f => by simp only [fn]) (fun f k _ => rfl) k
    have e1 : gadd (co e0) (gsm (k - 1) (co e0)) = co ex := by rw [gadd_comm, gsm_pred (by omega), hco]
    rw [e1]
    have key : ∀ f, fn R f = fn x' f - Q f := fun f => by
      have h1 := heq f
      rw [hq, hrp, hco] at h1
      simp only [fn] at h1
      simp only [fn] at hq
      grind
    intro f k' hfk
    rw [key, key, fn_sup (rest_low gx) f k' hfk, hQ f k' (by rw [hco]; exact hfk)]
  refine ⟨gS, gR, heq, ⟨e0, cn, cd, .nil, rfl, hC'⟩, fun hr1 => ?_, ⟨.nil, e0, cn, cd, rfl, hsup⟩, Nat.le_refl _⟩
  cases R with
  | nil => exact absurd rfl hr1
  | cons e1 n1 d1 r2 => exact ⟨lead_in gR hsup, trivial⟩
/-- a further step -/
theorem root_step {x s r : Sur} {k m i : Nat} (gx : sGood x = true) (nx : x.len ≠ 0) (h2 : 2 ≤ k) (h4 : k ≤ 4) (h : RInv x s r k m) (nr : r.len ≠ 0) (hi : i ≠ 0) (hb : rsB3 x s r k i = false) : RInv x ((rsS x s r k i).getD .nil) ((rsR x s r k i).getD .nil) k (m + 1) := by
  obtain ⟨S, R, b0, hS, eS, eR, gS, gR, heq⟩ := rs_some (by omega) hb
  rw [eS, eR]
  simp only [Option.getD_some]
  obtain ⟨gs, gr, hxs, ⟨E0, n0, d0, s', hs, hC0⟩, hab, hls, hln⟩ := h
  subst hs
  cases r with
  | nil => exact absurd rfl nr
  | cons er rn rd r' =>
  have hab' : ExP (fun u => GtF (gadd u (gsm (k - 1) (co E0))) (co er)) (.cons E0 n0 d0 s') := hab (by intro h; cases h)
  clear hab hls
  have kr := (sGood_g gr).1.2.1
  have ks := (sGood_g gs).1.2.1
  obtain ⟨j, rfl⟩ : ∃ j, k = j + 1 := ⟨k - 1, by omega⟩
  rw [Nat.add_sub_cancel] at *
  unfold rsB rnB at b0
  rw [if_neg hi, if_neg (by simp [Sur.len])] at b0
  simp only [Bool.or_eq_false_iff, Bool.not_eq_false'] at b0
  obtain ⟨⟨bq, bm⟩, bc⟩ := b0
  unfold rnQ at bq
  obtain ⟨b1, hqok, hqr⟩ := rnP_rat (fC (.cons E0 n0 d0 s')) ks.1 _ _ bq
  unfold rnB1 at b1
  simp only [Bool.or_eq_false_iff, Bool.not_eq_false'] at b1
  obtain ⟨⟨_, bk⟩, be⟩ := b1
  cases hK : rnK (.cons E0 n0 d0 s') (j + 1) with
  | none => rw [hK] at bk; simp at bk
  | some K =>
  cases hE : rnE (.cons E0 n0 d0 s') (.cons er rn rd r') (j + 1) with
  | none => rw [hE] at be; simp at be
  | some e' =>
  cases hM : rnM (.cons E0 n0 d0 s') (.cons er rn rd r') (j + 1) with
  | none => rw [hM] at bm; simp at bm
  | some M =>
  cases hC : rnC (.cons E0 n0 d0 s') (.cons er rn rd r') (j + 1) with
  | none => rw [hC] at bc; simp at bc
  | some c =>
  obtain ⟨Mn, Md⟩ := M
  obtain ⟨cn, cd⟩ := c
  have hcoK : co K = gsm j (co E0) := by
    have hK' : scaleS E0 (((j + 1 : Nat) : Int) - 1) 1 = some K := hK
    rw [co_scaleS hK', show ((j + 1 : Nat) : Int) - 1 = (j : Int) by omega, rat_nat]
    rfl
  have gK : sGood K = true := (scaleS_some (show scaleS E0 (((j + 1 : Nat) : Int) - 1) 1 = some K from hK)).2.2.1
  have hE' : subS er K = some e' := by
    have := hE
    unfold rnE at this
    rw [hK] at this
    exact this
  have co0 : gadd (co e') (gsm j (co E0)) = co er := by rw [← hcoK]; exact co_subS hE' (sGood_len gK).2.2
  have ge' : sGood e' = true := addS_good (show addS er (negP K) = some e' from hE')
  have hMok : FOk Mn Md ∧ rat Mn Md = rp (rat n0 d0) j * ((j + 1 : Nat) : Rat) := by
    have hM' : fMultiply (rnP (fC (.cons E0 n0 d0 s')) _ (j + 1 - 1)).2.1 _ ((j + 1 : Nat) : Int) 1 = some (Mn, Md) := hM
    refine ⟨two_ok hM', ?_⟩
    rw [rat_mul hqok (frac_kk h2 h4) hM', hqr, rat_nat]
    rfl
  have hr0 : rat n0 d0 ≠ 0 := rat_ne ks
  have hrp0 : ∀ i, rp (rat n0 d0) i ≠ 0 := fun i => by
    induction i with
    | zero => simp only [rp]; decide
    | succ i ih => simp only [rp]; intro hz; rcases Rat.mul_eq_zero.1 hz with hz | hz <;> contradiction
  have hM0 : Mn ≠ 0 := fun h0 => by
    have h1 := hMok.2
    rw [h0, rat_zero] at h1
    rcases Rat.mul_eq_zero.1 h1.symm with hz | hz
    · exact hrp0 j hz
    · exact castP j hz
  have hc : FOk cn cd ∧ rat cn cd * rat Mn Md = rat rn rd := by
    have hC' : fDivide rn rd Mn Md = some (cn, cd) := by
      have := hC
      unfold rnC at this
      rw [hM] at this
      exact this
    exact rat_div kr.1 hMok.1 hM0 hC'
  have hc0 : cn ≠ 0 := fun h0 => by
    have h1 := hc.2
    rw [h0, rat_zero] at h1
    exact rat_ne kr (by grind)
  have hT : rsT x (.cons E0 n0 d0 s') (.cons er rn rd r') (j + 1) i = .cons e' cn cd .nil := by
    unfold rsT rnT
    rw [if_neg hi, if_neg (by simp [Sur.len]), hE, hC]
    simp only [Option.getD_some, termP, if_neg hc0]
  rw [hT] at hS
  have abv : Above (.cons e' cn cd .nil) (.cons E0 n0 d0 s') := by
    have hx := sGood_exG gs
    have ke := sGood_g ge'
    have key : ∀ {q : Sur}, ExP (fun u => GtF (gadd u (gsm j (co E0))) (co er)) q → ExG q → Above (.cons e' cn cd .nil) q := fun {q} => by
      induction q with
      | nil => exact fun _ _ => trivial
      | cons e n d q' _ ih =>
        intro hab hx
        refine ⟨⟨order_of_gt hx.1.1 hx.1.2 ke.1 ke.2 ?_, trivial⟩, ih hab.2 hx.2⟩
        have h1 := hab.1
        rw [← co0] at h1
        exact h1.cancel
    exact key hab' hx
  have hlow : GtF (co E0) (co e') := by
    have h1 := hab'.1
    rw [← co0] at h1
    exact h1.cancel
  have hS1 : S = (Sur.cons E0 n0 d0 s').app (.cons e' cn cd .nil) := by
    have h1 := (addS_some hS).2.2.1
    rw [sumP_above abv] at h1
    injection h1 with h1
    exact h1.symm
  have hsup : Sup (fn R) fun u => GtF (co er) u := by
    obtain ⟨Q, hq, hQ⟩ := fpow_lead (S := fn (.cons E0 n0 d0 s')) (S' := fn s') (c := rat n0 d0) (e := co E0) (fun f => rfl) (fn_sup (rest_low gs)) j
    obtain ⟨B, hB, hBs⟩ := fpow_plus (fn_nice (.cons E0 n0 d0 s')) (fn_nice (.cons e' cn cd .nil)) (fn_lead gs) (T := fn (.cons e' cn cd .nil)) (e' := co e') (fun f k hfk => by simp only [fn]; rw [hfk _ (.inl rfl)]) hlow j
    have hSf : fn S = fun f => fn (.cons E0 n0 d0 s') f + fn (.cons e' cn cd .nil) f := fn_addS hS
    have key : ∀ f, fn R f = fn r' f - ((j + 1 : Nat) : Rat) * (rat cn cd * Q (fun g => f (gadd g (co e')))) - B f := fun f => by
      have h1 := heq f
      have h2 := hxs f
      rw [hSf, hB] at h1
      have h3 : fmul (fpow (fn (.cons E0 n0 d0 s')) j) (fn (.cons e' cn cd .nil)) f = rat cn cd * (rp (rat n0 d0) j * f (co er) + Q (fun g => f (gadd g (co e')))) := by
        have h4 : fmul (fpow (fn (.cons E0 n0 d0 s')) j) (fn (.cons e' cn cd .nil)) f = fpow (fn (.cons E0 n0 d0 s')) j (fun g => rat cn cd * f (gadd g (co e'))) := by
          show fpow _ j (fun g => fn (.cons e' cn cd .nil) fun h => f (gadd g h)) = _
          congr 1
          funext g
          simp only [fn]; grind
        rw [h4, ((fn_nice _).pow j).lin.smul, hq, gadd_comm, co0]
      rw [h3] at h1
      have h5 := hc.2
      rw [hMok.2] at h5
      have h6 : fn (.cons er rn rd r') f = rat rn rd * f (co er) + fn r' f := rfl
      rw [h6, ← h5] at h2
      grind
    intro f k' hfk
    rw [key, key, fn_sup (rest_low gr) f k' hfk, hQ (fun g => f (gadd g (co e'))) (fun g => k' (gadd g (co e'))) fun u hu => hfk _ (by rw [← co0, gadd_comm (co e')]; exact hu.addR), hBs f k' fun u hu => hfk _ (by rw [← co0, gadd_comm (co e')]; exact hu)]
  have hfE : fE S = E0 := by rw [hS1]; rfl
  refine ⟨gS, gR, heq, ⟨E0, n0, d0, s'.app (.cons e' cn cd .nil), hS1, hC0⟩, fun hr1 => ?_, ⟨.cons E0 n0 d0 s', e', cn, cd, hS1, by rw [hfE, Nat.add_sub_cancel, co0]; exact hsup⟩, by rw [hS1, Sur.len_snoc]; omega⟩
  cases R with
  | nil => exact absurd rfl hr1
  | cons e1 n1 d1 r2 =>
    have hl := lead_in gR hsup
    rw [hfE, hS1, Nat.add_sub_cancel]
    refine ExP.app (ExP.mono (fun u hu => hu.trans hl) hab') ⟨?_, trivial⟩
    show GtF (gadd (co e') (gsm j (co E0))) (co e1)
    rw [co0]; exact hl
end Go.Proofs.YtonlfnbjbmgegaaGreat

namespace Go.Proofs.YtonlfnbjbmgegaaGreat
open Go.RowKit
set_option linter.unusedSimpArgs false
set_option linter.unusedVariables false

theorem kpowGo_bad (x : Sur) : ∀ (m : Nat) (out : Sur), (kpowGo x m true out).1 = true
  | 0, _ => rfl
  | m + 1, out => by simp only [kpowGo, Bool.true_or]; exact kpowGo_bad x m _
theorem kpowGo_mpow {x : Sur} {k : Nat} (gx : sGood x = true) (hk : k ≤ 12) : ∀ (m i : Nat) (out : Sur), i + m = k → sGood out = true → (kpowGo x m false out).1 = (mpowGo x k (13 - i) i false out).1 ∧ ((kpowGo x m false out).1 = false → (kpowGo x m false out).2 = (mpowGo x k (13 - i) i false out).2)
  | 0, i, out, h, _ => by rw [mpowGo_stop _ _ _ _ _ _ (by omega)]; exact ⟨rfl, fun _ => rfl⟩
  | m + 1, i, out, h, go => by
    rw [mpowGo_step x k i out (by omega) (by omega)]
    simp only [kpowGo]
    rw [prodS_mulS go gx]
    cases hz : mulS out x with
    | none =>
      have e1 : (kpowGo x m (false || !(none : Option Sur).isSome) (keepS false none)).1 = true := kpowGo_bad x m _
      have e2 : (mpowGo x k (13 - (i + 1)) ((i + 1 : Nat) : Int) (false || !(none : Option Sur).isSome) ((none : Option Sur).getD .nil)).1 = true := by rw [mpowGo_stop _ _ _ _ _ _ (by simp)]; rfl
      rw [e1, e2]
      exact ⟨rfl, fun h => by cases h⟩
    | some z => exact kpowGo_mpow gx hk m (i + 1) z (by omega) (mulS_some hz).2.2.2
theorem kpow_mpow {x : Sur} {k : Nat} (gx : sGood x = true) (hk : k ≤ 12) (b : Bool) : (kpow x k b).1 = (mpow x k b).1 ∧ ((kpow x k b).1 = false → (kpow x k b).2 = (mpow x k b).2) := by
  cases b
  · exact kpowGo_mpow gx hk k 0 oneS (by omega) (by decide)
  · rw [mpow_true']
    exact ⟨kpowGo_bad x k oneS, fun h => by unfold kpow at h; rw [kpowGo_bad] at h; cases h⟩
/-- the partial products are right fractions -/
theorem tm_fit {v c : Int × Int} (hv : FOk v.1 v.2) (hc : FOk c.1 c.2) {K i : Nat} (h1 : v.1.natAbs ≤ K * c.1.natAbs ^ i) (h2 : v.2.natAbs ≤ c.2.natAbs ^ i) (l1 : K * c.1.natAbs ^ (i + 1) ≤ 1000000) (l2 : c.2.natAbs ^ (i + 1) ≤ 1000000) :
    FOk (muN v.1 v.2 c.1 c.2) (muD v.1 v.2 c.1 c.2) ∧ (muN v.1 v.2 c.1 c.2).natAbs ≤ K * c.1.natAbs ^ (i + 1) ∧ (muD v.1 v.2 c.1 c.2).natAbs ≤ c.2.natAbs ^ (i + 1) := by
  have e1 : (v.1 * c.1).natAbs ≤ K * c.1.natAbs ^ (i + 1) := by
    rw [Int.natAbs_mul, Nat.pow_succ, ← Nat.mul_assoc]
    exact Nat.mul_le_mul_right _ h1
  have e2 : (v.2 * c.2).natAbs ≤ c.2.natAbs ^ (i + 1) := by
    rw [Int.natAbs_mul, Nat.pow_succ]
    exact Nat.mul_le_mul_right _ h2
  have e3 : 0 < v.2 * c.2 := Int.mul_pos hv.pos hc.pos
  obtain ⟨m1, m2, m3⟩ := mk_fit (n := v.1 * c.1) (d := v.2 * c.2) (by omega) (by omega)
  exact ⟨m1, by show (mkN _ _).natAbs ≤ _; omega, by show (mkD _ _).natAbs ≤ _; omega⟩
theorem tmGo_fit {c : Int × Int} (hc : FOk c.1 c.2) {K J : Nat} (l1 : ∀ j, j ≤ J → K * c.1.natAbs ^ j ≤ 1000000) (l2 : ∀ j, j ≤ J → c.2.natAbs ^ j ≤ 1000000) : ∀ (m i : Nat) (v : Int × Int), i + m = J → FOk v.1 v.2 → v.1.natAbs ≤ K * c.1.natAbs ^ i → v.2.natAbs ≤ c.2.natAbs ^ i →
    (tmGo c m false v).1 = false ∧ FOk (tmGo c m false v).2.1 (tmGo c m false v).2.2 ∧ rat (tmGo c m false v).2.1 (tmGo c m false v).2.2 = rat v.1 v.2 * rp (rat c.1 c.2) m
  | 0, i, v, _, hv, _, _ => ⟨rfl, hv, by show rat v.1 v.2 = _; simp only [rp]; grind⟩
  | m + 1, i, v, h, hv, h1, h2 => by
    obtain ⟨f1, f2, f3⟩ := tm_fit hv hc h1 h2 (l1 _ (by omega)) (l2 _ (by omega))
    have eb : tmB false v c = false := by
      unfold tmB frB
      rw [show fracOk (muN v.1 v.2 c.1 c.2) (muD v.1 v.2 c.1 c.2) = true from f1]; rfl
    have ev : tmV false v c = (muN v.1 v.2 c.1 c.2, muD v.1 v.2 c.1 c.2) := by unfold tmV; rw [eb]; rfl
    simp only [tmGo]
    rw [eb, ev]
    obtain ⟨g1, g2, g3⟩ := tmGo_fit hc l1 l2 m (i + 1) (muN v.1 v.2 c.1 c.2, muD v.1 v.2 c.1 c.2) (by omega) f1 f2 f3
    refine ⟨g1, g2, ?_⟩
    rw [g3]
    have hm : fMultiply v.1 v.2 c.1 c.2 = some (muN v.1 v.2 c.1 c.2, muD v.1 v.2 c.1 c.2) := (fMul_sh hv hc).trans (if_pos f1)
    simp only []
    rw [rat_mul hv hc hm]
    have : rp (rat c.1 c.2) (m + 1) = rat c.1 c.2 * rp (rat c.1 c.2) m := by
      have comm : ∀ m, rp (rat c.1 c.2) (m + 1) = rat c.1 c.2 * rp (rat c.1 c.2) m := fun m => by
        induction m with
        | zero => simp only [rp]; grind
        | succ m ih => rw [show rp (rat c.1 c.2) (m + 1 + 1) = rp (rat c.1 c.2) (m + 1) * rat c.1 c.2 from rfl, ih]; grind
      exact comm m
    rw [this]; grind
theorem rnP_fit {c : Int × Int} (hc : FOk c.1 c.2) (b : Bool) {J : Nat} (l1 : ∀ j, j ≤ J → 1 * c.1.natAbs ^ j ≤ 1000000) (l2 : ∀ j, j ≤ J → c.2.natAbs ^ j ≤ 1000000) : ∀ i, i ≤ J → (rnP c b i).1 = b ∧ FOk (rnP c b i).2.1 (rnP c b i).2.2 ∧ (rnP c b i).2.1.natAbs ≤ 1 * c.1.natAbs ^ i ∧ (rnP c b i).2.2.natAbs ≤ c.2.natAbs ^ i ∧ rat (rnP c b i).2.1 (rnP c b i).2.2 = rp (rat c.1 c.2) i
  | 0, _ => ⟨rfl, show fracOk 1 1 = true by decide, by simp [rnP], by simp [rnP], rat_11⟩
  | i + 1, hi => by
    obtain ⟨h1, h2, h3, h4, h5⟩ := rnP_fit hc b l1 l2 i (by omega)
    obtain ⟨f1, f2, f3⟩ := tm_fit h2 hc h3 h4 (l1 _ hi) (l2 _ hi)
    have hm : fMultiply (rnP c b i).2.1 (rnP c b i).2.2 c.1 c.2 = some (muN (rnP c b i).2.1 (rnP c b i).2.2 c.1 c.2, muD (rnP c b i).2.1 (rnP c b i).2.2 c.1 c.2) := (fMul_sh h2 hc).trans (if_pos f1)
    simp only [rnP]
    rw [hm, h1]
    simp only [Option.getD_some, Option.isSome_some, Bool.not_true, Bool.or_false]
    exact ⟨trivial, f1, f2, f3, by rw [rat_mul h2 hc hm, h5]; rfl⟩
/-- what a further term is divided by: the same in both -/
theorem below_same {s r : Sur} {k : Nat} (h2 : 2 ≤ k) (h4 : k ≤ 4) (hc : FOk (fC s).1 (fC s).2) (l1 : (fC s).1.natAbs ^ k ≤ 1000000) (l2 : (fC s).2.natAbs ^ k ≤ 1000000) :
    (rnQ s r k).1 = rnB1 s r k ∧ (snW s k).1 = false ∧ rnM s r k = some (snW s k).2 ∧ FOk (snW s k).2.1 (snW s k).2.2 := by
  have hb1 : 1 ≤ (fC s).2.natAbs := by have := hc.pos; omega
  have m1 : ∀ j, j ≤ k - 1 → k * (fC s).1.natAbs ^ j ≤ 1000000 := fun j hj => root_le h2 h4 l1 j (by omega)
  have m2 : ∀ j, j ≤ k - 1 → (fC s).2.natAbs ^ j ≤ 1000000 := fun j hj => Nat.le_trans (Nat.pow_le_pow_right hb1 (by omega)) l2
  have m3 : ∀ j, j ≤ k - 1 → 1 * (fC s).1.natAbs ^ j ≤ 1000000 := fun j hj => Nat.le_trans (Nat.mul_le_mul_right _ (by omega)) (m1 j hj)
  obtain ⟨p1, p2, p3, p4, p5⟩ := rnP_fit hc (rnB1 s r k) m3 m2 (k - 1) (Nat.le_refl _)
  obtain ⟨q1, q2, q3⟩ := tmGo_fit hc m1 m2 (k - 1) 0 ((k : Int), 1) (by omega) (frac_kk h2 h4) (by simp) (by simp)
  have hn : ((rnP (fC s) (rnB1 s r k) (k - 1)).2.1 * (k : Int)).natAbs ≤ 1000000 := by
    rw [Int.natAbs_mul, Nat.mul_comm, Int.natAbs_natCast]
    have := m1 (k - 1) (Nat.le_refl _)
    exact Nat.le_trans (Nat.mul_le_mul_left _ (by omega)) this
  have hd : 1 ≤ (rnP (fC s) (rnB1 s r k) (k - 1)).2.2 * 1 ∧ (rnP (fC s) (rnB1 s r k) (k - 1)).2.2 * 1 ≤ 1000000 := by
    have h1 := fracOk_iff.1 (show fracOk _ _ = true from p2)
    omega
  obtain ⟨f1, _, _⟩ := mk_fit hn hd
  have hM : fMultiply (rnP (fC s) (rnB1 s r k) (k - 1)).2.1 (rnP (fC s) (rnB1 s r k) (k - 1)).2.2 (k : Int) 1 = some (muN (rnP (fC s) (rnB1 s r k) (k - 1)).2.1 (rnP (fC s) (rnB1 s r k) (k - 1)).2.2 (k : Int) 1, muD (rnP (fC s) (rnB1 s r k) (k - 1)).2.1 (rnP (fC s) (rnB1 s r k) (k - 1)).2.2 (k : Int) 1) := (fMul_sh p2 (frac_kk h2 h4)).trans (if_pos f1)
  have hr := rat_mul p2 (frac_kk h2 h4) hM
  rw [p5] at hr
  have hq : rat (snW s k).2.1 (snW s k).2.2 = rat (k : Int) 1 * rp (rat (fC s).1 (fC s).2) (k - 1) := q3
  obtain ⟨e1, e2⟩ := rat_inj f1 q2 (show rat _ _ = rat (snW s k).2.1 (snW s k).2.2 by rw [hq, show rat (mkN _ _) (mkD _ _) = _ from hr]; grind)
  refine ⟨p1, q1, ?_, q2⟩
  show fMultiply (rnP (fC s) (rnB1 s r k) (k - 1)).2.1 (rnP (fC s) (rnB1 s r k) (k - 1)).2.2 (k : Int) 1 = _
  rw [hM]
  show some (mkN _ _, mkD _ _) = some (snW s k).2
  rw [e1, e2]; rfl
theorem rsP_bad {x s r : Sur} {k i : Nat} (h : rsB2 x s r k i = true) : rsB3 x s r k i = true := by
  unfold rsB3 rsP
  rw [h, mpow_true']; rfl
theorem ssB6_bad {x s r : Sur} {k : Nat} (h : ssB s r k = true) : ssB6 x s r k = true := by
  unfold ssB6 ssP kpow
  rw [h, kpowGo_bad]; rfl
/-- behind the term both do the same -/
theorem st_tail {x s r : Sur} {k i : Nat} (gx : sGood x = true) (hk : k ≤ 12) (hB : ssB s r k = rsB2 x s r k i) (hS : ssB s r k = false → ssS s r k = (rsS x s r k i).getD .nil) :
    ssB6 x s r k = rsB3 x s r k i ∧ (ssB6 x s r k = false → ssS s r k = (rsS x s r k i).getD .nil ∧ ssR1 x s r k = (rsR x s r k i).getD .nil) := by
  cases hb : ssB s r k
  · have hb2 := hB.symm.trans hb
    have hs := hS hb
    have gS : sGood (ssS s r k) = true := ssS_good
    obtain ⟨h1, h2⟩ := kpow_mpow gS hk false
    have eP : ssP s r k = kpow (ssS s r k) k false := by unfold ssP; rw [hb]
    have eQ : rsP x s r k i = mpow (ssS s r k) k false := by unfold rsP; rw [hb2, hs]
    cases hp : (kpow (ssS s r k) k false).1
    · have hv := h2 hp
      have gp : sGood (kpow (ssS s r k) k false).2 = true := kpow_good _ _ _ _ (by decide)
      have eR : ssR x s r k = rsR x s r k i := by
        unfold ssR rsR subS
        rw [eP, eQ, ← hv]
        exact sumS_addS gx (sGood_neg gp)
      have e6 : ssB6 x s r k = rsB3 x s r k i := by unfold ssB6 rsB3; rw [eP, eQ, eR, h1]
      refine ⟨e6, fun h6 => ⟨hs, ?_⟩⟩
      unfold ssR1
      rw [eP, hp, eR]
      rw [e6] at h6
      unfold rsB3 at h6
      cases hR : rsR x s r k i with
      | none => rw [hR] at h6; simp at h6
      | some z => rfl
    · have a1 : ssB6 x s r k = true := by unfold ssB6; rw [eP, hp]; rfl
      have a2 : rsB3 x s r k i = true := by unfold rsB3; rw [eQ, ← h1, hp]; rfl
      rw [a1, a2]
      exact ⟨rfl, fun h => by cases h⟩
  · rw [ssB6_bad hb, rsP_bad (hB.symm.trans hb)]
    exact ⟨rfl, fun h => by cases h⟩
theorem addS_bad {s t : Sur} (h : sGood t = false) : addS s t = none := by unfold addS; rw [h]; simp
theorem addS_nil_left {t : Sur} (h : sGood t = true) : addS .nil t = some t := by
  unfold addS
  rw [h]
  simp only [sGood_nil, Bool.true_and, if_true]
  rw [show sumP .nil t = some t by simp [sumP]]
  exact told_good h
/-- the first step -/
theorem st_first {x : Sur} {k : Nat} (gx : sGood x = true) (nx : x.len ≠ 0) (h2 : 2 ≤ k) (h4 : k ≤ 4) (hc : sCoef (fC x).1 (fC x).2 k ≠ none) :
    ssB6 x .nil x k = rsB3 x .nil x k 0 ∧ (ssB6 x .nil x k = false → ssS .nil x k = (rsS x .nil x k 0).getD .nil ∧ ssR1 x .nil x k = (rsR x .nil x k 0).getD .nil) := by
  have hC : sCoef (fC x).1 (fC x).2 k = rfC x k := sCoef_rootC (fC_ok gx nx).1 h2
  have hE : sfE x k = rfE x k := prodS_scale (fE_good gx) (frac_inv h2 h4)
  have eB : ssB .nil x k = sfB2 x k := rfl
  have eS : ssS .nil x k = sfT x k := rfl
  cases e : rfC x k with
  | none => rw [hC, e] at hc; exact absurd rfl hc
  | some c =>
  have hA : sfA x k = c := by unfold sfA; rw [hC, e]; rfl
  cases ee : rfE x k with
  | none =>
    have b1 : sfB1 x k = true := by unfold sfB1; rw [hE, ee]; rfl
    refine st_tail gx (by omega) ?_ ?_
    · rw [eB]
      have r1 : rsB2 x .nil x k 0 = true := by unfold rsB2 rsB rfB; rw [if_pos rfl, ee]; rfl
      rw [r1]
      unfold sfB2; rw [b1]; rfl
    · intro h
      rw [eB] at h
      unfold sfB2 at h
      rw [b1] at h; cases h
  | some e0 =>
    have b1 : sfB1 x k = false := by unfold sfB1; rw [hE, ee]; rfl
    have hX : sfX x k = e0 := by unfold sfX; rw [hE, ee]; rfl
    have hT : rsT x .nil x k 0 = termP e0 c.1 c.2 := by unfold rsT rfT; rw [if_pos rfl, ee, e]; rfl
    have hK : sfK x k = told (termP e0 c.1 c.2) true := by unfold sfK; rw [hX, hA]
    have hb : rsB x .nil x k 0 = false := by unfold rsB rfB; rw [if_pos rfl, ee, e]; rfl
    have hS : rsS x .nil x k 0 = addS .nil (termP e0 c.1 c.2) := by unfold rsS; rw [hT]
    cases gt : sGood (termP e0 c.1 c.2)
    · have k0 : sfK x k = none := by rw [hK]; unfold told; rw [gt]; rfl
      refine st_tail gx (by omega) ?_ ?_
      · rw [eB]
        unfold rsB2 sfB2
        rw [hb, b1, k0, hS, addS_bad gt]
      · intro h
        rw [eB] at h
        unfold sfB2 at h
        rw [b1, k0] at h; cases h
    · have k0 : sfK x k = some (termP e0 c.1 c.2) := by rw [hK]; exact told_good gt
      refine st_tail gx (by omega) ?_ ?_
      · rw [eB]
        unfold rsB2 sfB2
        rw [hb, b1, k0, hS, addS_nil_left gt]
      · intro _
        rw [eS, hS, addS_nil_left gt]
        unfold sfT
        rw [b1, k0]; rfl
theorem fDiv_sh2 {n d n' d' : Int} (h : FOk n d) (h' : FOk n' d') (h0 : n' ≠ 0) : fDivide n d n' d' = if fracOk (mkN (n * d') (d * n')) (mkD (n * d') (d * n')) = true then some (mkN (n * d') (d * n'), mkD (n * d') (d * n')) else none := by
  have hd : d * n' ≠ 0 := fun e => by
    rcases Int.mul_eq_zero.1 e with e | e
    · have := h.pos; omega
    · exact h0 e
  unfold fDivide two made
  rw [if_pos (show fracOk n d = true ∧ fracOk n' d' = true from ⟨h, h'⟩), if_neg hd]
/-- a further step -/
theorem st_next {x s r : Sur} {k m i : Nat} (gx : sGood x = true) (nx : x.len ≠ 0) (h2 : 2 ≤ k) (h4 : k ≤ 4) (h : RInv x s r k m) (nr : r.len ≠ 0) (hi : i ≠ 0) :
    ssB6 x s r k = rsB3 x s r k i ∧ (ssB6 x s r k = false → ssS s r k = (rsS x s r k i).getD .nil ∧ ssR1 x s r k = (rsR x s r k i).getD .nil) := by
  obtain ⟨gs, gr, _, ⟨E0, n0, d0, s', hs, hC0⟩, _, _, _⟩ := h
  have ns : s.len ≠ 0 := by rw [hs]; simp [Sur.len]
  have fs := fC_ok gs ns
  have fr := fC_ok gr nr
  have hcs : fC s = (n0, d0) := by rw [hs]; rfl
  obtain ⟨_, l1, l2, _⟩ := root_facts (fC_ok gx nx).1 h2 h4 hC0
  obtain ⟨c1, c2, c3, c4⟩ := below_same (s := s) (r := r) h2 h4 fs.1 (by rw [hcs]; exact l1) (by rw [hcs]; exact l2)
  have hW := tmGo_ok fs (k - 1) false ((k : Int), 1) ⟨frac_kk h2 h4, by show (k : Int) ≠ 0; omega⟩
  have eB : ssB s r k = snB5 s r k := by unfold ssB; rw [if_neg ns]
  have eS : ssS s r k = snQ s r k := by unfold ssS; rw [if_neg ns]
  have eRB : rsB x s r k i = (((rnQ s r k).1 || !(rnM s r k).isSome) || !(rnC s r k).isSome) := by unfold rsB rnB; rw [if_neg hi, if_neg ns]
  have hK1 : snE1 s k = rnK s k := prodS_scale (fE_good gs) (frac_less h2 h4)
  have hCd : rnC s r k = if fracOk (snN s r k) (snD s r k) = true then some (snN s r k, snD s r k) else none := by
    unfold rnC
    rw [c3]
    exact fDiv_sh2 fr.1 c4 hW.2
  have bad : snB5 s r k = true → rsB2 x s r k i = true → ssB6 x s r k = rsB3 x s r k i ∧ (ssB6 x s r k = false → ssS s r k = (rsS x s r k i).getD .nil ∧ ssR1 x s r k = (rsR x s r k i).getD .nil) := fun h1 h2 =>
    st_tail gx (by omega) (by rw [eB, h1, h2]) (fun h => by rw [eB, h1] at h; cases h)
  cases eK : rnK s k with
  | none =>
    refine bad ?_ ?_
    · unfold snB5 snB4 snB3 frB snB2 snB1; rw [hK1, eK]; simp
    · unfold rsB2; rw [eRB, c1]; unfold rnB1; rw [eK]; simp
  | some K =>
  have gK : sGood K = true := (scaleS_some (show scaleS (fE s) ((k : Int) - 1) 1 = some K from eK)).2.2.1
  have b1 : snB1 s k = false := by unfold snB1; rw [c2, hK1, eK]; rfl
  have x1 : snX1 s k = K := by unfold snX1; rw [c2, hK1, eK]; rfl
  have hE : snE s r k = rnE s r k := by
    unfold snE rnE subS
    rw [x1, eK]
    exact sumS_addS (fE_good gr) (sGood_neg gK)
  cases eE : rnE s r k with
  | none =>
    refine bad ?_ ?_
    · unfold snB5 snB4 snB3 frB snB2; rw [hE, eE]; simp
    · unfold rsB2; rw [eRB, c1]; unfold rnB1; rw [eE]; simp
  | some e =>
  have b2 : snB2 s r k = false := by unfold snB2; rw [b1, hE, eE]; rfl
  have x2 : snX s r k = e := by unfold snX; rw [b1, hE, eE]; rfl
  have rb1 : rnB1 s r k = false := by unfold rnB1; rw [eK, eE]; rfl
  cases ef : fracOk (snN s r k) (snD s r k)
  · rw [ef] at hCd
    simp only [Bool.false_eq_true, if_false] at hCd
    refine bad ?_ ?_
    · unfold snB5 snB4 snB3 frB; rw [ef]; simp
    · unfold rsB2; rw [eRB, hCd]; simp
  · rw [ef] at hCd
    simp only [if_true] at hCd
    have b3 : snB3 s r k = false := by unfold snB3 frB; rw [b2, ef]; rfl
    have hT : rsT x s r k i = termP e (snN s r k) (snD s r k) := by
      unfold rsT rnT
      rw [if_neg hi, if_neg ns, eE, hCd]; rfl
    have hK : snK s r k = told (termP e (snN s r k) (snD s r k)) true := by
      unfold snK
      rw [x2, b3]; rfl
    have hb : rsB x s r k i = false := by rw [eRB, c1, rb1, c3, hCd]; rfl
    have hS : rsS x s r k i = addS s (termP e (snN s r k) (snD s r k)) := by unfold rsS; rw [hT]
    cases gt : sGood (termP e (snN s r k) (snD s r k))
    · have k0 : snK s r k = none := by rw [hK]; unfold told; rw [gt]; rfl
      refine bad ?_ ?_
      · unfold snB5 snB4; rw [k0]; simp
      · unfold rsB2; rw [hS, addS_bad gt]; simp
    · have k0 : snK s r k = some (termP e (snN s r k) (snD s r k)) := by rw [hK]; exact told_good gt
      have b4 : snB4 s r k = false := by unfold snB4; rw [b3, k0]; rfl
      have hT2 : snT s r k = termP e (snN s r k) (snD s r k) := by unfold snT; rw [b3, k0]; rfl
      have hS2 : snS s r k = rsS x s r k i := by unfold snS; rw [hT2, hS]; exact sumS_addS gs gt
      refine st_tail gx (by omega) ?_ ?_
      · rw [eB]
        unfold snB5 rsB2
        rw [b4, hb, hS2]
      · intro h
        rw [eB] at h
        unfold snB5 at h
        rw [eS]
        unfold snQ
        rw [b4, hS2] at *
        cases hz : rsS x s r k i with
        | none => rw [hz] at h; cases h
        | some z => rfl
theorem rootsGo_bad (x s r : Sur) (k n m : Nat) : (rootsGo x k n m true s r).1 = true := by rw [rootsGo_stop m (by simp)]
/-- further steps: the same -/
theorem sr_next {x : Sur} {k n : Nat} (gx : sGood x = true) (nx : x.len ≠ 0) (h2 : 2 ≤ k) (h4 : k ≤ 4) : ∀ (j : Nat) (s r : Sur) (m : Nat), j < n → RInv x s r k m → ∃ b z, srGo x k j false s r = some (b, z) ∧ (rootsGo x k n j false s r).1 = b ∧ (b = false → (rootsGo x k n j false s r).2 = z)
  | 0, s, r, m, _, _ => ⟨false, (s, r), rfl, rfl, fun _ => rfl⟩
  | j + 1, s, r, m, hj, h => by
    by_cases nr : r.len ≠ 0
    · obtain ⟨e0, n0, d0, s', hs, _⟩ := h.hd
      have ns : s.len ≠ 0 := by rw [hs]; simp [Sur.len]
      have hi : n - (j + 1) ≠ 0 := by omega
      obtain ⟨h1, h3⟩ := st_next (i := n - (j + 1)) gx nx h2 h4 h nr hi
      rw [srGo_step nr (fun e => ns e.1)]
      have e : rootsGo x k n (j + 1) false s r = rootsGo x k n j (rsB3 x s r k (n - (j + 1))) ((rsS x s r k (n - (j + 1))).getD .nil) ((rsR x s r k (n - (j + 1))).getD .nil) := by
        simp only [rootsGo]
        rw [if_pos ⟨trivial, nr⟩]
      rw [e, ← h1]
      cases hb : ssB6 x s r k
      · obtain ⟨e1, e2⟩ := h3 hb
        rw [e1, e2]
        exact sr_next gx nx h2 h4 j _ _ (m + 1) (by omega) (root_step gx nx h2 h4 h nr hi (h1.symm.trans hb))
      · exact ⟨true, (ssS s r k, ssR1 x s r k), srGo_stop j (by simp), rootsGo_bad .., fun h => by cases h⟩
    · rw [srGo_stop _ (fun e => nr e.1), rootsGo_stop _ (fun e => nr e.2)]
      exact ⟨false, (s, r), rfl, rfl, fun _ => rfl⟩
/-- the reference's roots, told -/
def srootT (x : Sur) (k n : Int) : Option (Sur × Sur) :=
  if (sGood x && (inB k 2 4 && stepsB n)) = true then
    if (srR x k.toNat n.toNat).1 = true then none else some (srR x k.toNat n.toNat).2
  else none
theorem sr_same {x : Sur} {k n : Nat} (gx : sGood x = true) (h2 : 2 ≤ k) (h4 : k ≤ 4) : (srR x k n).1 = (rootsGo x k n n false .nil x).1 ∧ ((srR x k n).1 = false → (srR x k n).2 = (rootsGo x k n n false .nil x).2) := by
  unfold srR
  by_cases nx : x.len ≠ 0
  · cases n with
    | zero => exact ⟨rfl, fun _ => rfl⟩
    | succ n =>
      have e : rootsGo x k (n + 1) (n + 1) false .nil x = rootsGo x k (n + 1) n (rsB3 x .nil x k 0) ((rsS x .nil x k 0).getD .nil) ((rsR x .nil x k 0).getD .nil) := by
        simp only [rootsGo]
        rw [if_pos ⟨trivial, nx⟩, Nat.sub_self]
      rw [e]
      by_cases hno : sCoef (fC x).1 (fC x).2 k = none
      · rw [srGo_none nx ⟨rfl, hno⟩]
        have hb : rsB3 x .nil x k 0 = true := by
          refine rsP_bad ?_
          have hC : rfC x k = none := (sCoef_rootC (fC_ok gx nx).1 h2).symm.trans hno
          unfold rsB2 rsB rfB
          rw [if_pos rfl, hC]; simp
        rw [hb, rootsGo_bad]
        exact ⟨rfl, fun h => by cases h⟩
      · obtain ⟨h1, h3⟩ := st_first gx nx h2 h4 hno
        rw [srGo_step nx (fun e => hno e.2), ← h1]
        cases hb : ssB6 x .nil x k
        · obtain ⟨e1, e2⟩ := h3 hb
          rw [e1, e2]
          obtain ⟨b, z, g1, g2, g3⟩ := sr_next gx nx h2 h4 n _ _ 1 (Nat.lt_succ_self n) (root_first gx nx h2 h4 (h1.symm.trans hb))
          rw [g1, g2]
          exact ⟨rfl, fun h => (g3 h).symm⟩
        · rw [rootsGo_bad, srGo_stop n (by simp)]
          exact ⟨rfl, fun h => by cases h⟩
  · rw [srGo_stop _ (fun e => nx e.1), rootsGo_stop _ (fun e => nx e.2)]
    exact ⟨rfl, fun _ => rfl⟩
theorem srootT_rootT (x : Sur) (k n : Int) : srootT x k n = rootT x k n := by
  unfold srootT rootT
  split
  · rename_i h
    simp only [Bool.and_eq_true] at h
    have hk : 2 ≤ k ∧ k ≤ 4 := by simpa [inB] using h.2.1
    obtain ⟨h1, h3⟩ := sr_same (n := n.toNat) h.1 (k := k.toNat) (by omega) (by omega)
    simp only []
    rw [← h1]
    cases hb : (srR x k.toNat n.toNat).1
    · simp only [Bool.false_eq_true, if_false]
      rw [h3 hb]
    · rfl
  · rfl
end Go.Proofs.YtonlfnbjbmgegaaGreat

namespace Go.Proofs.YtonlfnbjbmgegaaGreat
open Go.RowKit
set_option linter.unusedSimpArgs false
set_option linter.unusedVariables false

def rkB1 (k : Int) (s r : Sur) : Bool := (mpow s k false).1 || !(addS (mpow s k false).2 r).isSome
def rkR (x : Sur) (k : Int) (s r : Sur) : Bool := decide (order ((addS (mpow s k false).2 r).getD .nil) x = 0)
def rkQ (k : Int) (s r : Sur) : Bool × Sur := mpow (hd1 s) (k - 1) (rkB1 k s r)
def rkL (k : Int) (s r : Sur) : Option Sur := mulS (lastS s) (rkQ k s r).2
def rkB2 (k : Int) (s r : Sur) : Bool := (rkQ k s r).1 || !(rkL k s r).isSome
def rkN (k : Int) (s r : Sur) : Bool := neglB r ((rkL k s r).getD .nil)
def rkG (x : Sur) (k : Int) (s r : Sur) : Bool := (sGood x && (sGood s && sGood r)) && inB k 2 4
/-- the check: whether it is one, and whether it could be told -/
def rchk (x : Sur) (k : Int) (s r : Sur) : Bool × Bool :=
  if rkG x k s r = true then
    if s.len ≠ 0 ∧ r.len ≠ 0 then ((rkN k s r && rkR x k s r) && !rkB2 k s r, !rkB2 k s r) else (rkR x k s r && !rkB1 k s r, !rkB1 k s r)
  else (false, false)
theorem rchk_bad {x s r : Sur} {k : Int} (h : rkG x k s r = false) : rchk x k s r = (false, false) := by unfold rchk; rw [if_neg (by simp [h])]
theorem hd1_len {x : Sur} (h : x.len ≠ 0) : (hd1 x).len = 1 := by
  cases x with
  | nil => exact absurd rfl h
  | cons e n d r => rfl
theorem hd1_good {x : Sur} (h : sGood x = true) : sGood (hd1 x) = true := by
  cases x with
  | nil => exact sGood_nil
  | cons e n d r =>
    have e1 : Sur.app (.cons e n d .nil) r = .cons e n d r := rfl
    rw [← e1] at h
    exact sGood_pre h
end Go.Proofs.YtonlfnbjbmgegaaGreat

namespace Go.Proofs.YtonlfnbjbmgegaaGreat
open Go.RowKit
set_option linter.unusedSimpArgs false
set_option linter.unusedVariables false

theorem rootsGo_inv {x : Sur} {k n : Nat} (gx : sGood x = true) (nx : x.len ≠ 0) (h2 : 2 ≤ k) (h4 : k ≤ 4) : ∀ (j : Nat) (s r : Sur) (m : Nat), j < n → RInv x s r k m → (rootsGo x k n j false s r).1 = false → ∃ m', RInv x (rootsGo x k n j false s r).2.1 (rootsGo x k n j false s r).2.2 k m'
  | 0, s, r, m, _, h, _ => ⟨m, h⟩
  | j + 1, s, r, m, hj, h, hb => by
    by_cases nr : r.len ≠ 0
    · have e : rootsGo x k n (j + 1) false s r = rootsGo x k n j (rsB3 x s r k (n - (j + 1))) ((rsS x s r k (n - (j + 1))).getD .nil) ((rsR x s r k (n - (j + 1))).getD .nil) := by
        simp only [rootsGo]
        rw [if_pos ⟨trivial, nr⟩]
      rw [e] at hb ⊢
      cases hd : rsB3 x s r k (n - (j + 1))
      · rw [hd] at hb
        exact rootsGo_inv gx nx h2 h4 j _ _ (m + 1) (by omega) (root_step gx nx h2 h4 h nr (by omega) hd) hb
      · rw [hd, rootsGo_bad] at hb; cases hb
    · rw [rootsGo_stop _ (fun e => nr e.2)]
      exact ⟨m, h⟩
/-- what is known of root terms -/
theorem rootT_inv {x s r : Sur} {k n : Int} (h : rootT x k n = some (s, r)) : sGood x = true ∧ 2 ≤ k ∧ k ≤ 4 ∧ ((s = .nil ∧ r = x) ∨ ∃ m, RInv x s r k.toNat m) := by
  unfold rootT at h
  split at h
  · rename_i hg
    simp only [Bool.and_eq_true] at hg
    have hk : 2 ≤ k ∧ k ≤ 4 := by simpa [inB] using hg.2.1
    refine ⟨hg.1, hk.1, hk.2, ?_⟩
    simp only [] at h
    split at h
    · cases h
    · rename_i hb
      simp only [Option.some.injEq] at h
      simp only [Bool.not_eq_true] at hb
      by_cases nx : x.len ≠ 0
      · cases hn : n.toNat with
        | zero => rw [hn] at h; simp only [rootsGo, Prod.mk.injEq] at h; exact .inl ⟨h.1.symm, h.2.symm⟩
        | succ N =>
          rw [hn] at h hb
          have e : rootsGo x k.toNat (N + 1) (N + 1) false .nil x = rootsGo x k.toNat (N + 1) N (rsB3 x .nil x k.toNat 0) ((rsS x .nil x k.toNat 0).getD .nil) ((rsR x .nil x k.toNat 0).getD .nil) := by
            simp only [rootsGo]
            rw [if_pos ⟨trivial, nx⟩, Nat.sub_self]
          rw [e] at h hb
          cases hd : rsB3 x .nil x k.toNat 0
          · rw [hd] at h hb
            obtain ⟨m', hi⟩ := rootsGo_inv hg.1 nx (by omega) (by omega) N _ _ 1 (Nat.lt_succ_self N) (root_first hg.1 nx (by omega) (by omega) hd) hb
            rw [h] at hi
            exact .inr ⟨m', hi⟩
          · rw [hd, rootsGo_bad] at hb; cases hb
      · rw [rootsGo_stop _ (fun e => nx e.2)] at h
        simp only [Prod.mk.injEq] at h
        exact .inl ⟨h.1.symm, h.2.symm⟩
  · cases h
theorem fpow_zero {k : Nat} (h : 1 ≤ k) (f : Gam → Rat) : fpow (fn .nil) k f = 0 := by
  obtain ⟨j, rfl⟩ : ∃ j, k = j + 1 := ⟨k - 1, by omega⟩
  show fpow (fn .nil) j (fun g => fn .nil fun h => f (gadd g h)) = 0
  have e : (fun g => fn .nil fun h => f (gadd g h)) = fun _ => (0 : Rat) := by funext g; rfl
  rw [e]
  exact ((fn_nice .nil).pow j).lin.zero
theorem root_eq {x s r : Sur} {k n : Int} (h : rootT x k n = some (s, r)) (f : Gam → Rat) : fn x f = fpow (fn s) k.toNat f + fn r f := by
  obtain ⟨_, h2, h4, h | ⟨m, h⟩⟩ := rootT_inv h
  · rw [h.1, h.2, fpow_zero (by omega)]; grind
  · exact h.eq f
/-- the power of root terms and what remains make up the number -/
theorem root_back {x s r p v : Sur} {k n : Int} (h : rootT x k n = some (s, r)) (hp : powK s k = some p) (hv : addS p r = some v) : v = x := by
  obtain ⟨gx, _⟩ := rootT_inv h
  refine fn_inj (addS_good hv) gx ?_
  obtain ⟨_, _, _, _, hf⟩ := powK_fn hp
  funext f
  rw [fn_addS hv, hf, root_eq h]
theorem fpow_term (c : Rat) (e : Gam) : ∀ (j : Nat) (f : Gam → Rat), fpow (fun f => c * f e) j f = rp c j * f (gsm j e)
  | 0, f => by simp only [fpow, fone, rp, gsm_zero]; grind
  | j + 1, f => by
    show fpow (fun f => c * f e) j (fun g => c * f (gadd g e)) = _
    rw [fpow_term c e j, ← gsm_succ]
    simp only [rp]; grind
theorem rp_ne {c : Rat} (h : c ≠ 0) : ∀ j, rp c j ≠ 0
  | 0 => by simp only [rp]; decide
  | j + 1 => by simp only [rp]; intro hz; rcases Rat.mul_eq_zero.1 hz with hz | hz; exact rp_ne h j hz; exact h hz
/-- the check of root terms, where it can be told -/
theorem root_chk {x s r : Sur} {k n : Int} (h : rootT x k n = some (s, r)) (hc : (rchk x k s r).2 = true) : (rchk x k s r).1 = true := by
  obtain ⟨gx, h2, h4, hi⟩ := rootT_inv h
  unfold rchk at hc ⊢
  split at hc
  · rename_i hg
    rw [if_pos hg]
    have key : rkB1 k s r = false → rkR x k s r = true := fun hb => by
      have hb' := hb
      unfold rkB1 at hb
      simp only [Bool.or_eq_false_iff, Bool.not_eq_false'] at hb
      obtain ⟨b1, b2⟩ := hb
      obtain ⟨K, rfl⟩ : ∃ K : Nat, k = K := ⟨k.toNat, by omega⟩
      obtain ⟨gp, hf⟩ := mpow_fn (by omega) b1
      unfold rkR
      cases hv : addS (mpow s K false).2 r with
      | none => rw [hv] at b2; simp at b2
      | some v =>
        have hvx : v = x := by
          refine fn_inj (addS_good hv) gx ?_
          funext f
          have := root_eq h f
          rw [Int.toNat_natCast] at this
          rw [fn_addS hv, hf, this]
        rw [Option.getD_some, hvx, order_self]; rfl
    split at hc
    · rename_i hl
      rw [if_pos hl]
      simp only [Bool.not_eq_true'] at hc
      simp only []
      rw [hc]
      have hc' := hc
      unfold rkB2 rkQ at hc
      simp only [Bool.or_eq_false_iff, Bool.not_eq_false'] at hc
      obtain ⟨c1, c2⟩ := hc
      have hb1 : rkB1 k s r = false := by
        cases hb : rkB1 k s r
        · rfl
        · rw [hb, mpow_true'] at c1; cases c1
      rw [key hb1]
      simp only [Bool.and_true, Bool.not_false]
      rcases hi with hi | ⟨m, hi⟩
      · rw [hi.1] at hl; exact absurd rfl hl.1
      · obtain ⟨K, rfl⟩ : ∃ K : Nat, k = K := ⟨k.toNat, by omega⟩
        rw [Int.toNat_natCast] at hi
        rw [hb1] at c1
        have ek : ((K : Nat) : Int) - 1 = ((K - 1 : Nat) : Int) := by omega
        have eQ : rkQ K s r = mpow (hd1 s) ((K - 1 : Nat) : Int) false := by unfold rkQ; rw [hb1, ek]
        rw [ek] at c1
        obtain ⟨gp, hf⟩ := mpow_fn (by omega) c1
        obtain ⟨E0, n0, d0, s', hs, _⟩ := hi.hd
        obtain ⟨q0, e, n', d', hq, hsup⟩ := hi.ls
        cases hL : rkL K s r with
        | none => rw [hL] at c2; simp at c2
        | some L =>
          have hL' := hL
          unfold rkL at hL'
          rw [eQ, hq, lastS_app] at hL'
          have gL := (mulS_some hL').2.2.2
          have gl := (mulS_some hL').1
          have gs := hi.gs
          have ke := (sGood_g gl).1.2.1
          have ks : GOk n0 d0 := by rw [hs] at gs; exact (sGood_g gs).1.2.1
          have hfE : fE s = E0 := by rw [hs]; rfl
          have hh : hd1 s = .cons E0 n0 d0 .nil := by rw [hs]; rfl
          have hP : ∀ f, fn (mpow (hd1 s) ((K - 1 : Nat) : Int) false).2 f = rp (rat n0 d0) (K - 1) * f (gsm (K - 1) (co E0)) := fun f => by
            rw [hf, hh]
            have e1 : fn (.cons E0 n0 d0 .nil) = fun f => rat n0 d0 * f (co E0) := by funext f; simp only [fn]; grind
            rw [e1, fpow_term]
          rw [← hq] at hL'
          have fL : ∀ f, fn L f = rat n' d' * (rp (rat n0 d0) (K - 1) * f (gadd (co e) (gsm (K - 1) (co E0)))) := fun f => by
            rw [fn_mulS hL']
            simp only [fmul, fn]
            rw [hP]; grind
          unfold rkN
          rw [hL, Option.getD_some]
          rw [hfE] at hsup
          cases r with
          | nil => exact absurd rfl hl.2
          | cons er rn rd r' =>
          have hr := lead_in hi.gr hsup
          cases L with
          | nil =>
            have h1 := fL fun _ => 1
            simp only [fn] at h1
            have h0 : rat n' d' * rp (rat n0 d0) (K - 1) ≠ 0 := fun hz => by
              rcases Rat.mul_eq_zero.1 hz with hz | hz
              · exact rat_ne ke hz
              · exact rp_ne (rat_ne ks) _ hz
            exact absurd (by grind) h0
          | cons el ln ld l' =>
            have hl1 := lead_in (P := fun u => u = gadd (co e) (gsm (K - 1) (co E0))) gL (fun f k' hfk => by rw [fL, fL, hfk _ rfl])
            have kL := sGood_g gL
            have kr := sGood_g hi.gr
            have xL := sGood_exG gL
            have xr := sGood_exG hi.gr
            have ho := order_of_gt xL.1.1 xL.1.2 xr.1.1 xr.1.2 (by rw [hl1]; exact hr)
            show decide (order er el < 0) = true
            rw [order_flip.2 ho]; rfl
    · rename_i hl
      rw [if_neg hl]
      simp only [Bool.not_eq_true'] at hc
      simp only []
      rw [hc, key hc]; rfl
  · cases hc
theorem kpowGo_snoc (x : Sur) : ∀ (m : Nat) (b : Bool) (out : Sur), kpowGo x (m + 1) b out = ((kpowGo x m b out).1 || !(prodS (kpowGo x m b out).2 x).isSome, keepS (kpowGo x m b out).1 (prodS (kpowGo x m b out).2 x))
  | 0, b, out => rfl
  | m + 1, b, out => by
    rw [show kpowGo x (m + 1 + 1) b out = kpowGo x (m + 1) (b || !(prodS out x).isSome) (keepS b (prodS out x)) from rfl, kpowGo_snoc x m]
    rfl
/-- a power more is once more times the number -/
theorem pow_next {y p q : Sur} {m : Int} (hp : powK y m = some p) (hq : powK y (m + 1) = some q) : mulS p y = some q := by
  obtain ⟨gy, gp, h0, _, _⟩ := powK_fn hp
  obtain ⟨_, _, _, h12, _⟩ := powK_fn hq
  obtain ⟨M, rfl⟩ : ∃ M : Nat, m = M := ⟨m.toNat, by omega⟩
  have val : ∀ {j : Nat} {z : Sur}, j ≤ 12 → powK y (j : Int) = some z → kpow y j false = (false, z) := fun {j z} hj hz => by
    unfold powK at hz
    split at hz
    · split at hz
      · cases hz
      · rename_i hb
        simp only [Bool.not_eq_true] at hb
        simp only [Option.some.injEq] at hz
        obtain ⟨h1, h2⟩ := kpow_mpow gy hj false
        rw [hb] at h1
        have h3 := h2 h1
        rw [hz] at h3
        exact Prod.ext h1 h3
    · cases hz
  have e1 := val (by omega) hp
  have e2 := val (j := M + 1) (by omega) hq
  unfold kpow at e1 e2
  rw [kpowGo_snoc, e1] at e2
  simp only [Bool.false_or, Prod.mk.injEq, Bool.not_eq_false'] at e2
  rw [prodS_mulS gp gy] at e2
  obtain ⟨z, hz⟩ := Option.isSome_iff_exists.1 e2.1
  rw [hz] at e2 ⊢
  rw [← e2.2]; rfl
end Go.Proofs.YtonlfnbjbmgegaaGreat
