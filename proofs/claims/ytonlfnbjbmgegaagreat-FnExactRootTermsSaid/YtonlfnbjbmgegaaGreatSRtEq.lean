/-
  Roots by terms: what the terms of a root are (plain), and that program and reference have the same ones.
-/
import Derived.Test.YtonlfnbjbmgegaaGreatSRtFn
import Derived.Test.YtonlfnbjbmgegaaGreatWRtFn
namespace Go.Proofs.YtonlfnbjbmgegaaGreat
open Go.RowKit
set_option linter.unusedSimpArgs false
set_option linter.unusedVariables false

def rp (c : Rat) : Nat → Rat
  | 0 => 1
  | j + 1 => rp c j * c
/-- a power's first term -/
theorem fpow_lead {S S' : Fnl} {c : Rat} {e : Gam} (h : ∀ f, S f = c * f e + S' f) (hs : Sup S' fun u => GtF e u) : ∀ j, ∃ Q : Fnl, (∀ f, fpow S j f = rp c j * f (gsm j e) + Q f) ∧ Sup Q fun u => GtF (gsm j e) u
  | 0 => ⟨fun _ => 0, fun f => by simp only [fpow, fone, rp, gsm_zero]; grind, fun f k _ => rfl⟩
  | j + 1 => by
    obtain ⟨Q, hq, hQ⟩ := fpow_lead h hs j
    refine ⟨fun f => rp c j * S' (fun u => f (gadd (gsm j e) u)) + Q (fun g => S fun u => f (gadd g u)), fun f => ?_, fun f k hfk => ?_⟩
    · show fpow S j (fun g => S fun u => f (gadd g u)) = _
      rw [hq, h, ← gsm_succ]
      simp only [rp]
      grind
    · have e1 : S' (fun u => f (gadd (gsm j e) u)) = S' (fun u => k (gadd (gsm j e) u)) := hs _ _ fun u hu => hfk _ (by rw [gsm_succ]; exact hu.addL)
      have e2 : Q (fun g => S fun u => f (gadd g u)) = Q (fun g => S fun u => k (gadd g u)) := hQ _ _ fun g hg => by
        rw [h, h, hfk _ (by rw [gsm_succ]; exact hg.addR), hs (fun u => f (gadd g u)) (fun u => k (gadd g u)) fun u hu => hfk _ (by rw [gsm_succ]; exact GtF.add hg hu)]
      simp only []
      rw [e1, e2]
theorem Sup.pow {S : Fnl} {e : Gam} (h : Sup S fun u => LeF u e) (j : Nat) : Sup (fpow S j) fun u => LeF u (gsm j e) :=
  Ups.pow (m := e) (by unfold Ups; rw [gsm_one]; exact h) j
/-- a power of a sum, up to what is lower -/
theorem fpow_plus {S T : Fnl} {e e' : Gam} (nS : Nice S) (nT : Nice T) (hS : Sup S fun u => LeF u e) (hT : Sup T fun u => LeF u e') (he : GtF e e') : ∀ j, ∃ R : Fnl, (∀ f, fpow (fun f => S f + T f) (j + 1) f = fpow S (j + 1) f + ((j + 1 : Nat) : Rat) * fmul (fpow S j) T f + R f) ∧ Sup R fun u => GtF (gadd (gsm j e) e') u
  | 0 => ⟨fun _ => 0, fun f => by
      show fmul fone (fun f => S f + T f) f = fmul fone S f + _ * fmul fone T f + 0
      rw [fone_mul, fone_mul, fone_mul, castS]
      have : ((0 : Nat) : Rat) = 0 := rfl
      grind, fun f k _ => rfl⟩
  | j + 1 => by
    obtain ⟨R, hr, hR⟩ := fpow_plus nS nT hS hT he j
    have hU : Sup (fun f => S f + T f) fun u => LeF u e := fun f k hfk => by
      show S f + T f = S k + T k
      rw [hS f k hfk, hT f k fun u hu => hfk u (.inr (hu.gt he))]
    refine ⟨fun f => ((j + 1 : Nat) : Rat) * fmul (fmul (fpow S j) T) T f + R (fun g => S (fun u => f (gadd g u)) + T (fun u => f (gadd g u))), fun f => ?_, fun f k hfk => ?_⟩
    · show fpow (fun f => S f + T f) (j + 1) (fun g => S (fun u => f (gadd g u)) + T (fun u => f (gadd g u))) = _
      rw [hr]
      have e1 : fpow S (j + 1) (fun g => S (fun u => f (gadd g u)) + T (fun u => f (gadd g u))) = fpow S (j + 1 + 1) f + fmul (fpow S (j + 1)) T f := (nS.pow (j + 1)).lin.add _ _
      have e2 : fmul (fpow S j) T (fun g => S (fun u => f (gadd g u)) + T (fun u => f (gadd g u))) = fmul (fmul (fpow S j) T) S f + fmul (fmul (fpow S j) T) T f := ((nS.pow j).mul nT).lin.add _ _
      have e3 : fmul (fmul (fpow S j) T) S = fmul (fpow S (j + 1)) T := by
        rw [fmul_assoc, fmul_comm nT nS, ← fmul_assoc]; rfl
      rw [e1, e2, e3, castS (j + 1)]
      grind
    · have e1 : fmul (fmul (fpow S j) T) T f = fmul (fmul (fpow S j) T) T k := by
        refine Sup.mul (Sup.mul (hS.pow j) hT (R := fun u => LeF u (gadd (gsm j e) e')) fun g h hg hh => hg.add hh) hT (R := fun u => GtF (gadd (gsm (j + 1) e) e') u) (fun g h hg hh => ?_) f k hfk
        refine (hg.add hh).gt ?_
        rw [gsm_succ]
        exact (he.addL (w := gsm j e)).addR
      have e2 : R (fun g => S (fun u => f (gadd g u)) + T (fun u => f (gadd g u))) = R (fun g => S (fun u => k (gadd g u)) + T (fun u => k (gadd g u))) := hR _ _ fun g hg => hU (fun u => f (gadd g u)) (fun u => k (gadd g u)) fun u hu => hfk _ (by
        have h1 : gadd (gsm (j + 1) e) e' = gadd (gadd (gsm j e) e') e := by rw [gsm_succ, gadd_assoc, gadd_comm e e', ← gadd_assoc]
        rw [h1]
        rcases hu with rfl | hu
        · exact hg.addR
        · exact GtF.add hg hu)
      simp only []
      rw [e1, e2]
theorem co_scaleS {x z : Sur} {a b : Int} (h : scaleS x a b = some z) : co z = fun s => rat a b * co x s := by
  obtain ⟨gx, _, gz, hf⟩ := scaleS_some h
  funext s
  by_cases hs : s.All GOk ∧ Dec s
  · have h1 := congrFun hf (ind (co s))
    rw [fn_ind hs.1 hs.2 (sGood_exG gz), fn_ind hs.1 hs.2 (sGood_exG gx)] at h1
    exact h1
  · rw [co_bad hs (sGood_exG gz), co_bad hs (sGood_exG gx)]; grind
theorem rat_nat (k : Nat) : rat (k : Int) 1 = (k : Rat) := by
  unfold rat
  rw [show (((k : Nat) : Int) : Rat) = ((k : Nat) : Rat) by exact_mod_cast rfl, show ((1 : Int) : Rat) = 1 by exact_mod_cast rfl]
  grind
theorem frac_kk {k : Nat} (h2 : 2 ≤ k) (h4 : k ≤ 4) : FOk (k : Int) 1 := by
  obtain rfl | rfl | rfl : k = 2 ∨ k = 3 ∨ k = 4 := by omega
  all_goals
    show fracOk _ _ = true
    decide
theorem rat_11 : rat 1 1 = 1 := by
  have := rat_nat 1
  rw [show ((1 : Nat) : Rat) = 1 from rfl] at this
  exact this
/-- a number whose n-th power is at most 10^6 -/
theorem root_le {a k : Nat} (h2 : 2 ≤ k) (h4 : k ≤ 4) (h : a ^ k ≤ 1000000) (j : Nat) (hj : j + 1 ≤ k) : k * a ^ j ≤ 1000000 := by
  have ha : a = 0 ∨ 1 ≤ a := by omega
  rcases ha with rfl | ha
  · cases j with
    | zero => simp; omega
    | succ j => simp
  have hm : a ^ j ≤ a ^ (k - 1) := Nat.pow_le_pow_right ha (by omega)
  have hk : k * a ^ j ≤ k * a ^ (k - 1) := Nat.mul_le_mul_left _ hm
  refine Nat.le_trans hk ?_
  obtain rfl | rfl | rfl : k = 2 ∨ k = 3 ∨ k = 4 := by omega
  · have : a ≤ 1000 := Classical.byContradiction fun hc => by
      have h1 := Nat.pow_le_pow_left (show 1001 ≤ a by omega) 2
      have h2 : (1001 : Nat) ^ 2 = 1002001 := by decide
      omega
    simp only [Nat.reduceSub, Nat.pow_one]; omega
  · have : a ≤ 100 := Classical.byContradiction fun hc => by
      have h1 := Nat.pow_le_pow_left (show 101 ≤ a by omega) 3
      have h2 : (101 : Nat) ^ 3 = 1030301 := by decide
      omega
    have h1 := Nat.pow_le_pow_left this 2
    have h2 : (100 : Nat) ^ 2 = 10000 := by decide
    simp only [Nat.reduceSub]; omega
  · have : a ≤ 31 := Classical.byContradiction fun hc => by
      have h1 := Nat.pow_le_pow_left (show 32 ≤ a by omega) 4
      have h2 : (32 : Nat) ^ 4 = 1048576 := by decide
      omega
    have h1 := Nat.pow_le_pow_left this 3
    have h2 : (31 : Nat) ^ 3 = 29791 := by decide
    simp only [Nat.reduceSub]; omega
theorem mk_fit {n d : Int} (hn : n.natAbs ≤ 1000000) (hd : 1 ≤ d ∧ d ≤ 1000000) : FOk (mkN n d) (mkD n d) ∧ (mkN n d).natAbs ≤ n.natAbs ∧ (mkD n d).natAbs ≤ d.natAbs := by
  obtain ⟨_, h2, h3⟩ := mk_cross n d (by omega)
  have e1 : (mkN n d).natAbs ≤ n.natAbs := by unfold mkN; rw [Int.natAbs_tdiv]; exact Nat.div_le_self _ _
  have e2 : (mkD n d).natAbs ≤ d.natAbs := by unfold mkD; rw [Int.natAbs_tdiv]; exact Nat.div_le_self _ _
  exact ⟨fracOk_iff.2 ⟨by omega, by omega, by omega, by omega, h3⟩, e1, e2⟩
/-- what is known of a root of a fraction -/
theorem root_facts {n d a b : Int} {k : Nat} (hf : fracOk n d = true) (h2 : 2 ≤ k) (h4 : k ≤ 4) (h : rootC n d k = some (a, b)) : FOk a b ∧ a.natAbs ^ k ≤ 1000000 ∧ b.natAbs ^ k ≤ 1000000 ∧ rp (rat a b) k = rat n d := by
  obtain ⟨g1, g2, g3, g4, _⟩ := fracOk_iff.1 hf
  have hs := (sCoef_rootC hf h2).trans h
  have hok : FOk a b := by
    unfold rootC at h
    split at h
    · cases h
    · exact made_ok h
  have hok' := hok
  unfold sCoef at hs
  split at hs
  · cases hs
  · rename_i hc
    simp only [Option.some.injEq, Prod.mk.injEq] at hs
    obtain ⟨ha, hb⟩ := hs
    have pa := rootP_pow (n := (n.natAbs : Int)) (k := k) (by omega)
    have pb := rootP_pow (n := d) (k := k) (by omega)
    have ba : 0 ≤ rootP (n.natAbs : Int) k := by omega
    have bb : 0 ≤ rootP d k := by omega
    generalize rootP (n.natAbs : Int) k = r at *
    generalize rootP d k = q at *
    obtain ⟨r, rfl⟩ : ∃ r' : Nat, r = r' := ⟨r.toNat, by omega⟩
    obtain ⟨q, rfl⟩ : ∃ q' : Nat, q = q' := ⟨q.toNat, by omega⟩
    rw [Int.toNat_natCast] at pa pb
    have pa' : r ^ k = n.natAbs := by exact_mod_cast pa
    have cases3 : (n < 0 ∧ cmpI n 0 = -1) ∨ (0 ≤ n ∧ (cmpI n 0 = 1 ∨ r = 0)) := by
      unfold cmpI
      rcases Int.lt_trichotomy n 0 with h | h | h
      · exact .inl ⟨h, by rw [if_pos h]⟩
      · refine .inr ⟨by omega, .inr ?_⟩
        rw [h] at pa'
        rcases Nat.eq_zero_or_pos r with h0 | h0
        · exact h0
        · have := Nat.pow_pos (n := k) h0
          simp at pa'; omega
      · exact .inr ⟨by omega, .inl (by rw [if_neg (by omega), if_pos (by omega)])⟩
    have haa : a.natAbs = r := by
      rw [← ha]
      rcases cases3 with ⟨_, e⟩ | ⟨_, e | e⟩
      · rw [e]; omega
      · rw [e]; omega
      · rw [e]; simp
    have hbb : b.natAbs = q := by rw [← hb]; rfl
    have pb' : q ^ k = d.natAbs := by have : ((q ^ k : Nat) : Int) = d := pb; omega
    refine ⟨hok, by rw [haa, pa']; omega, by rw [hbb, pb']; omega, ?_⟩
    have k1 := castNe hok.pos
    have k2 := castNe (show 0 < d by omega)
    subst hb
    clear hok hok' h hf hbb haa
    have key : ∀ A : Int, (A = a) → (rp (rat A (q : Int)) k = rat n d) := fun A hA => by
      subst hA
      have en : (A : Int) ^ k = n := by
        rcases cases3 with ⟨hn, e⟩ | ⟨hn, e⟩
        · have hk : k = 3 := by omega
          subst hk
          rw [← ha, e]
          have h3 : ((r ^ 3 : Nat) : Int) = -n := by omega
          have h4 : ((r ^ 3 : Nat) : Int) = (r : Int) ^ 3 := by exact_mod_cast rfl
          rw [h4] at h3
          grind
        · have hA : A = r := by
            rcases e with e | e
            · rw [← ha, e]; omega
            · rw [← ha, e]; simp
          rw [hA]
          have h4 : ((r ^ k : Nat) : Int) = (r : Int) ^ k := by exact_mod_cast rfl
          omega
      have ed : (q : Int) ^ k = d := by
        have h4 : ((q ^ k : Nat) : Int) = (q : Int) ^ k := by exact_mod_cast rfl
        omega
      have en' : (A : Rat) ^ k = n := by exact_mod_cast en
      have ed' : ((q : Int) : Rat) ^ k = d := by exact_mod_cast ed
      obtain rfl | rfl | rfl : k = 2 ∨ k = 3 ∨ k = 4 := by omega
      all_goals
        unfold rat
        rw [← en', ← ed']
        simp only [rp]
        grind
    exact key a rfl
end Go.Proofs.YtonlfnbjbmgegaaGreat
