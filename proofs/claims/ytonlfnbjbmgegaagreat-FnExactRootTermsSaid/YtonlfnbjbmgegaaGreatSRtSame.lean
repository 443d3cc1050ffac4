/-
  Roots by terms: program and reference have the same ones (plain).
-/
import Derived.Test.YtonlfnbjbmgegaaGreatSRtInv
import Derived.Test.YtonlfnbjbmgegaaGreatSQuo
namespace Go.Proofs.YtonlfnbjbmgegaaGreat
open Go.RowKit
set_option linter.unusedSimpArgs false
set_option linter.unusedVariables false

theorem kpowGo_bad (x : Sur) : ∀ (m : Nat) (out : Sur), (kpowGo x m true out).1 = true
  | 0, _ => rfl
  | m + 1, out => by simp only [kpowGo, Bool.true_or]; exact kpowGo_bad x m _
theorem kpowGo_mpow {x : Sur} {k : Nat} (gx : sGood x = true) (hk : k ≤ 12) : ∀ (m i : Nat) (out : Sur), i + m = k → sGood out = true → (kpowGo x m false out).1 = (mpowGo x k (13 - i) i false out).1 ∧ ((kpowGo x m false out).1 = false → (kpowGo x m false out).2 = (mpowGo x k (13 - i) i false out).2)
  | 0, i, out, h, _ => by rw [mpowGo_stop _ _ _ _ _ _ (by omega)]; exact ⟨rfl, fun _ => rfl⟩
  | m + 1, i, out, h, go => by
    rw [mpowGo_step x k i out (by omega) (by omega)]
    simp only [kpowGo]
    rw [prodS_mulS go gx]
    cases hz : mulS out x with
    | none =>
      have e1 : (kpowGo x m (false || !(none : Option Sur).isSome) (keepS false none)).1 = true := kpowGo_bad x m _
      have e2 : (mpowGo x k (13 - (i + 1)) ((i + 1 : Nat) : Int) (false || !(none : Option Sur).isSome) ((none : Option Sur).getD .nil)).1 = true := by rw [mpowGo_stop _ _ _ _ _ _ (by simp)]; rfl
      rw [e1, e2]
      exact ⟨rfl, fun h => by cases h⟩
    | some z => exact kpowGo_mpow gx hk m (i + 1) z (by omega) (mulS_some hz).2.2.2
theorem kpow_mpow {x : Sur} {k : Nat} (gx : sGood x = true) (hk : k ≤ 12) (b : Bool) : (kpow x k b).1 = (mpow x k b).1 ∧ ((kpow x k b).1 = false → (kpow x k b).2 = (mpow x k b).2) := by
  cases b
  · exact kpowGo_mpow gx hk k 0 oneS (by omega) (by decide)
  · rw [mpow_true']
    exact ⟨kpowGo_bad x k oneS, fun h => by unfold kpow at h; rw [kpowGo_bad] at h; cases h⟩
/-- the partial products are right fractions -/
theorem tm_fit {v c : Int × Int} (hv : FOk v.1 v.2) (hc : FOk c.1 c.2) {K i : Nat} (h1 : v.1.natAbs ≤ K * c.1.natAbs ^ i) (h2 : v.2.natAbs ≤ c.2.natAbs ^ i) (l1 : K * c.1.natAbs ^ (i + 1) ≤ 1000000) (l2 : c.2.natAbs ^ (i + 1) ≤ 1000000) :
    FOk (muN v.1 v.2 c.1 c.2) (muD v.1 v.2 c.1 c.2) ∧ (muN v.1 v.2 c.1 c.2).natAbs ≤ K * c.1.natAbs ^ (i + 1) ∧ (muD v.1 v.2 c.1 c.2).natAbs ≤ c.2.natAbs ^ (i + 1) := by
  have e1 : (v.1 * c.1).natAbs ≤ K * c.1.natAbs ^ (i + 1) := by
    rw [Int.natAbs_mul, Nat.pow_succ, ← Nat.mul_assoc]
    exact Nat.mul_le_mul_right _ h1
  have e2 : (v.2 * c.2).natAbs ≤ c.2.natAbs ^ (i + 1) := by
    rw [Int.natAbs_mul, Nat.pow_succ]
    exact Nat.mul_le_mul_right _ h2
  have e3 : 0 < v.2 * c.2 := Int.mul_pos hv.pos hc.pos
  obtain ⟨m1, m2, m3⟩ := mk_fit (n := v.1 * c.1) (d := v.2 * c.2) (by omega) (by omega)
  exact ⟨m1, by show (mkN _ _).natAbs ≤ _; omega, by show (mkD _ _).natAbs ≤ _; omega⟩
theorem tmGo_fit {c : Int × Int} (hc : FOk c.1 c.2) {K J : Nat} (l1 : ∀ j, j ≤ J → K * c.1.natAbs ^ j ≤ 1000000) (l2 : ∀ j, j ≤ J → c.2.natAbs ^ j ≤ 1000000) : ∀ (m i : Nat) (v : Int × Int), i + m = J → FOk v.1 v.2 → v.1.natAbs ≤ K * c.1.natAbs ^ i → v.2.natAbs ≤ c.2.natAbs ^ i →
    (tmGo c m false v).1 = false ∧ FOk (tmGo c m false v).2.1 (tmGo c m false v).2.2 ∧ rat (tmGo c m false v).2.1 (tmGo c m false v).2.2 = rat v.1 v.2 * rp (rat c.1 c.2) m
  | 0, i, v, _, hv, _, _ => ⟨rfl, hv, by show rat v.1 v.2 = _; simp only [rp]; grind⟩
  | m + 1, i, v, h, hv, h1, h2 => by
    obtain ⟨f1, f2, f3⟩ := tm_fit hv hc h1 h2 (l1 _ (by omega)) (l2 _ (by omega))
    have eb : tmB false v c = false := by
      unfold tmB frB
      rw [show fracOk (muN v.1 v.2 c.1 c.2) (muD v.1 v.2 c.1 c.2) = true from f1]; rfl
    have ev : tmV false v c = (muN v.1 v.2 c.1 c.2, muD v.1 v.2 c.1 c.2) := by unfold tmV; rw [eb]; rfl
    simp only [tmGo]
    rw [eb, ev]
    obtain ⟨g1, g2, g3⟩ := tmGo_fit hc l1 l2 m (i + 1) (muN v.1 v.2 c.1 c.2, muD v.1 v.2 c.1 c.2) (by omega) f1 f2 f3
    refine ⟨g1, g2, ?_⟩
    rw [g3]
    have hm : fMultiply v.1 v.2 c.1 c.2 = some (muN v.1 v.2 c.1 c.2, muD v.1 v.2 c.1 c.2) := (fMul_sh hv hc).trans (if_pos f1)
    simp only []
    rw [rat_mul hv hc hm]
    have : rp (rat c.1 c.2) (m + 1) = rat c.1 c.2 * rp (rat c.1 c.2) m := by
      have comm : ∀ m, rp (rat c.1 c.2) (m + 1) = rat c.1 c.2 * rp (rat c.1 c.2) m := fun m => by
        induction m with
        | zero => simp only [rp]; grind
        | succ m ih => rw [show rp (rat c.1 c.2) (m + 1 + 1) = rp (rat c.1 c.2) (m + 1) * rat c.1 c.2 from rfl, ih]; grind
      exact comm m
    rw [this]; grind
theorem rnP_fit {c : Int × Int} (hc : FOk c.1 c.2) (b : Bool) {J : Nat} (l1 : ∀ j, j ≤ J → 1 * c.1.natAbs ^ j ≤ 1000000) (l2 : ∀ j, j ≤ J → c.2.natAbs ^ j ≤ 1000000) : ∀ i, i ≤ J → (rnP c b i).1 = b ∧ FOk (rnP c b i).2.1 (rnP c b i).2.2 ∧ (rnP c b i).2.1.natAbs ≤ 1 * c.1.natAbs ^ i ∧ (rnP c b i).2.2.natAbs ≤ c.2.natAbs ^ i ∧ rat (rnP c b i).2.1 (rnP c b i).2.2 = rp (rat c.1 c.2) i
  | 0, _ => ⟨rfl, show fracOk 1 1 = true by decide, by simp [rnP], by simp [rnP], rat_11⟩
  | i + 1, hi => by
    obtain ⟨h1, h2, h3, h4, h5⟩ := rnP_fit hc b l1 l2 i (by omega)
    obtain ⟨f1, f2, f3⟩ := tm_fit h2 hc h3 h4 (l1 _ hi) (l2 _ hi)
    have hm : fMultiply (rnP c b i).2.1 (rnP c b i).2.2 c.1 c.2 = some (muN (rnP c b i).2.1 (rnP c b i).2.2 c.1 c.2, muD (rnP c b i).2.1 (rnP c b i).2.2 c.1 c.2) := (fMul_sh h2 hc).trans (if_pos f1)
    simp only [rnP]
    rw [hm, h1]
    simp only [Option.getD_some, Option.isSome_some, Bool.not_true, Bool.or_false]
    exact ⟨trivial, f1, f2, f3, by rw [rat_mul h2 hc hm, h5]; rfl⟩
/-- what a further term is divided by: the same in both -/
theorem below_same {s r : Sur} {k : Nat} (h2 : 2 ≤ k) (h4 : k ≤ 4) (hc : FOk (fC s).1 (fC s).2) (l1 : (fC s).1.natAbs ^ k ≤ 1000000) (l2 : (fC s).2.natAbs ^ k ≤ 1000000) :
    (rnQ s r k).1 = rnB1 s r k ∧ (snW s k).1 = false ∧ rnM s r k = some (snW s k).2 ∧ FOk (snW s k).2.1 (snW s k).2.2 := by
  have hb1 : 1 ≤ (fC s).2.natAbs := by have := hc.pos; omega
  have m1 : ∀ j, j ≤ k - 1 → k * (fC s).1.natAbs ^ j ≤ 1000000 := fun j hj => root_le h2 h4 l1 j (by omega)
  have m2 : ∀ j, j ≤ k - 1 → (fC s).2.natAbs ^ j ≤ 1000000 := fun j hj => Nat.le_trans (Nat.pow_le_pow_right hb1 (by omega)) l2
  have m3 : ∀ j, j ≤ k - 1 → 1 * (fC s).1.natAbs ^ j ≤ 1000000 := fun j hj => Nat.le_trans (Nat.mul_le_mul_right _ (by omega)) (m1 j hj)
  obtain ⟨p1, p2, p3, p4, p5⟩ := rnP_fit hc (rnB1 s r k) m3 m2 (k - 1) (Nat.le_refl _)
  obtain ⟨q1, q2, q3⟩ := tmGo_fit hc m1 m2 (k - 1) 0 ((k : Int), 1) (by omega) (frac_kk h2 h4) (by simp) (by simp)
  have hn : ((rnP (fC s) (rnB1 s r k) (k - 1)).2.1 * (k : Int)).natAbs ≤ 1000000 := by
    rw [Int.natAbs_mul, Nat.mul_comm, Int.natAbs_natCast]
    have := m1 (k - 1) (Nat.le_refl _)
    exact Nat.le_trans (Nat.mul_le_mul_left _ (by omega)) this
  have hd : 1 ≤ (rnP (fC s) (rnB1 s r k) (k - 1)).2.2 * 1 ∧ (rnP (fC s) (rnB1 s r k) (k - 1)).2.2 * 1 ≤ 1000000 := by
    have h1 := fracOk_iff.1 (show fracOk _ _ = true from p2)
    omega
  obtain ⟨f1, _, _⟩ := mk_fit hn hd
  have hM : fMultiply (rnP (fC s) (rnB1 s r k) (k - 1)).2.1 (rnP (fC s) (rnB1 s r k) (k - 1)).2.2 (k : Int) 1 = some (muN (rnP (fC s) (rnB1 s r k) (k - 1)).2.1 (rnP (fC s) (rnB1 s r k) (k - 1)).2.2 (k : Int) 1, muD (rnP (fC s) (rnB1 s r k) (k - 1)).2.1 (rnP (fC s) (rnB1 s r k) (k - 1)).2.2 (k : Int) 1) := (fMul_sh p2 (frac_kk h2 h4)).trans (if_pos f1)
  have hr := rat_mul p2 (frac_kk h2 h4) hM
  rw [p5] at hr
  have hq : rat (snW s k).2.1 (snW s k).2.2 = rat (k : Int) 1 * rp (rat (fC s).1 (fC s).2) (k - 1) := q3
  obtain ⟨e1, e2⟩ := rat_inj f1 q2 (show rat _ _ = rat (snW s k).2.1 (snW s k).2.2 by rw [hq, show rat (mkN _ _) (mkD _ _) = _ from hr]; grind)
  refine ⟨p1, q1, ?_, q2⟩
  show fMultiply (rnP (fC s) (rnB1 s r k) (k - 1)).2.1 (rnP (fC s) (rnB1 s r k) (k - 1)).2.2 (k : Int) 1 = _
  rw [hM]
  show some (mkN _ _, mkD _ _) = some (snW s k).2
  rw [e1, e2]; rfl
theorem rsP_bad {x s r : Sur} {k i : Nat} (h : rsB2 x s r k i = true) : rsB3 x s r k i = true := by
  unfold rsB3 rsP
  rw [h, mpow_true']; rfl
theorem ssB6_bad {x s r : Sur} {k : Nat} (h : ssB s r k = true) : ssB6 x s r k = true := by
  unfold ssB6 ssP kpow
  rw [h, kpowGo_bad]; rfl
/-- behind the term both do the same -/
theorem st_tail {x s r : Sur} {k i : Nat} (gx : sGood x = true) (hk : k ≤ 12) (hB : ssB s r k = rsB2 x s r k i) (hS : ssB s r k = false → ssS s r k = (rsS x s r k i).getD .nil) :
    ssB6 x s r k = rsB3 x s r k i ∧ (ssB6 x s r k = false → ssS s r k = (rsS x s r k i).getD .nil ∧ ssR1 x s r k = (rsR x s r k i).getD .nil) := by
  cases hb : ssB s r k
  · have hb2 := hB.symm.trans hb
    have hs := hS hb
    have gS : sGood (ssS s r k) = true := ssS_good
    obtain ⟨h1, h2⟩ := kpow_mpow gS hk false
    have eP : ssP s r k = kpow (ssS s r k) k false := by unfold ssP; rw [hb]
    have eQ : rsP x s r k i = mpow (ssS s r k) k false := by unfold rsP; rw [hb2, hs]
    cases hp : (kpow (ssS s r k) k false).1
    · have hv := h2 hp
      have gp : sGood (kpow (ssS s r k) k false).2 = true := kpow_good _ _ _ _ (by decide)
      have eR : ssR x s r k = rsR x s r k i := by
        unfold ssR rsR subS
        rw [eP, eQ, ← hv]
        exact sumS_addS gx (sGood_neg gp)
      have e6 : ssB6 x s r k = rsB3 x s r k i := by unfold ssB6 rsB3; rw [eP, eQ, eR, h1]
      refine ⟨e6, fun h6 => ⟨hs, ?_⟩⟩
      unfold ssR1
      rw [eP, hp, eR]
      rw [e6] at h6
      unfold rsB3 at h6
      cases hR : rsR x s r k i with
      | none => rw [hR] at h6; simp at h6
      | some z => rfl
    · have a1 : ssB6 x s r k = true := by unfold ssB6; rw [eP, hp]; rfl
      have a2 : rsB3 x s r k i = true := by unfold rsB3; rw [eQ, ← h1, hp]; rfl
      rw [a1, a2]
      exact ⟨rfl, fun h => by cases h⟩
  · rw [ssB6_bad hb, rsP_bad (hB.symm.trans hb)]
    exact ⟨rfl, fun h => by cases h⟩
theorem addS_bad {s t : Sur} (h : sGood t = false) : addS s t = none := by unfold addS; rw [h]; simp
theorem addS_nil_left {t : Sur} (h : sGood t = true) : addS .nil t = some t := by
  unfold addS
  rw [h]
  simp only [sGood_nil, Bool.true_and, if_true]
  rw [show sumP .nil t = some t by simp [sumP]]
  exact told_good h
/-- the first step -/
theorem st_first {x : Sur} {k : Nat} (gx : sGood x = true) (nx : x.len ≠ 0) (h2 : 2 ≤ k) (h4 : k ≤ 4) (hc : sCoef (fC x).1 (fC x).2 k ≠ none) :
    ssB6 x .nil x k = rsB3 x .nil x k 0 ∧ (ssB6 x .nil x k = false → ssS .nil x k = (rsS x .nil x k 0).getD .nil ∧ ssR1 x .nil x k = (rsR x .nil x k 0).getD .nil) := by
  have hC : sCoef (fC x).1 (fC x).2 k = rfC x k := sCoef_rootC (fC_ok gx nx).1 h2
  have hE : sfE x k = rfE x k := prodS_scale (fE_good gx) (frac_inv h2 h4)
  have eB : ssB .nil x k = sfB2 x k := rfl
  have eS : ssS .nil x k = sfT x k := rfl
  cases e : rfC x k with
  | none => rw [hC, e] at hc; exact absurd rfl hc
  | some c =>
  have hA : sfA x k = c := by unfold sfA; rw [hC, e]; rfl
  cases ee : rfE x k with
  | none =>
    have b1 : sfB1 x k = true := by unfold sfB1; rw [hE, ee]; rfl
    refine st_tail gx (by omega) ?_ ?_
    · rw [eB]
      have r1 : rsB2 x .nil x k 0 = true := by unfold rsB2 rsB rfB; rw [if_pos rfl, ee]; rfl
      rw [r1]
      unfold sfB2; rw [b1]; rfl
    · intro h
      rw [eB] at h
      unfold sfB2 at h
      rw [b1] at h; cases h
  | some e0 =>
    have b1 : sfB1 x k = false := by unfold sfB1; rw [hE, ee]; rfl
    have hX : sfX x k = e0 := by unfold sfX; rw [hE, ee]; rfl
    have hT : rsT x .nil x k 0 = termP e0 c.1 c.2 := by unfold rsT rfT; rw [if_pos rfl, ee, e]; rfl
    have hK : sfK x k = told (termP e0 c.1 c.2) true := by unfold sfK; rw [hX, hA]
    have hb : rsB x .nil x k 0 = false := by unfold rsB rfB; rw [if_pos rfl, ee, e]; rfl
    have hS : rsS x .nil x k 0 = addS .nil (termP e0 c.1 c.2) := by unfold rsS; rw [hT]
    cases gt : sGood (termP e0 c.1 c.2)
    · have k0 : sfK x k = none := by rw [hK]; unfold told; rw [gt]; rfl
      refine st_tail gx (by omega) ?_ ?_
      · rw [eB]
        unfold rsB2 sfB2
        rw [hb, b1, k0, hS, addS_bad gt]
      · intro h
        rw [eB] at h
        unfold sfB2 at h
        rw [b1, k0] at h; cases h
    · have k0 : sfK x k = some (termP e0 c.1 c.2) := by rw [hK]; exact told_good gt
      refine st_tail gx (by omega) ?_ ?_
      · rw [eB]
        unfold rsB2 sfB2
        rw [hb, b1, k0, hS, addS_nil_left gt]
      · intro _
        rw [eS, hS, addS_nil_left gt]
        unfold sfT
        rw [b1, k0]; rfl
theorem fDiv_sh2 {n d n' d' : Int} (h : FOk n d) (h' : FOk n' d') (h0 : n' ≠ 0) : fDivide n d n' d' = if fracOk (mkN (n * d') (d * n')) (mkD (n * d') (d * n')) = true then some (mkN (n * d') (d * n'), mkD (n * d') (d * n')) else none := by
  have hd : d * n' ≠ 0 := fun e => by
    rcases Int.mul_eq_zero.1 e with e | e
    · have := h.pos; omega
    · exact h0 e
  unfold fDivide two made
  rw [if_pos (show fracOk n d = true ∧ fracOk n' d' = true from ⟨h, h'⟩), if_neg hd]
/-- a further step -/
theorem st_next {x s r : Sur} {k m i : Nat} (gx : sGood x = true) (nx : x.len ≠ 0) (h2 : 2 ≤ k) (h4 : k ≤ 4) (h : RInv x s r k m) (nr : r.len ≠ 0) (hi : i ≠ 0) :
    ssB6 x s r k = rsB3 x s r k i ∧ (ssB6 x s r k = false → ssS s r k = (rsS x s r k i).getD .nil ∧ ssR1 x s r k = (rsR x s r k i).getD .nil) := by
  obtain ⟨gs, gr, _, ⟨E0, n0, d0, s', hs, hC0⟩, _, _, _⟩ := h
  have ns : s.len ≠ 0 := by rw [hs]; simp [Sur.len]
  have fs := fC_ok gs ns
  have fr := fC_ok gr nr
  have hcs : fC s = (n0, d0) := by rw [hs]; rfl
  obtain ⟨_, l1, l2, _⟩ := root_facts (fC_ok gx nx).1 h2 h4 hC0
  obtain ⟨c1, c2, c3, c4⟩ := below_same (s := s) (r := r) h2 h4 fs.1 (by rw [hcs]; exact l1) (by rw [hcs]; exact l2)
  have hW := tmGo_ok fs (k - 1) false ((k : Int), 1) ⟨frac_kk h2 h4, by show (k : Int) ≠ 0; omega⟩
  have eB : ssB s r k = snB5 s r k := by unfold ssB; rw [if_neg ns]
  have eS : ssS s r k = snQ s r k := by unfold ssS; rw [if_neg ns]
  have eRB : rsB x s r k i = (((rnQ s r k).1 || !(rnM s r k).isSome) || !(rnC s r k).isSome) := by unfold rsB rnB; rw [if_neg hi, if_neg ns]
  have hK1 : snE1 s k = rnK s k := prodS_scale (fE_good gs) (frac_less h2 h4)
  have hCd : rnC s r k = if fracOk (snN s r k) (snD s r k) = true then some (snN s r k, snD s r k) else none := by
    unfold rnC
    rw [c3]
    exact fDiv_sh2 fr.1 c4 hW.2
  have bad : snB5 s r k = true → rsB2 x s r k i = true → ssB6 x s r k = rsB3 x s r k i ∧ (ssB6 x s r k = false → ssS s r k = (rsS x s r k i).getD .nil ∧ ssR1 x s r k = (rsR x s r k i).getD .nil) := fun h1 h2 =>
    st_tail gx (by omega) (by rw [eB, h1, h2]) (fun h => by rw [eB, h1] at h; cases h)
  cases eK : rnK s k with
  | none =>
    refine bad ?_ ?_
    · unfold snB5 snB4 snB3 frB snB2 snB1; rw [hK1, eK]; simp
    · unfold rsB2; rw [eRB, c1]; unfold rnB1; rw [eK]; simp
  | some K =>
  have gK : sGood K = true := (scaleS_some (show scaleS (fE s) ((k : Int) - 1) 1 = some K from eK)).2.2.1
  have b1 : snB1 s k = false := by unfold snB1; rw [c2, hK1, eK]; rfl
  have x1 : snX1 s k = K := by unfold snX1; rw [c2, hK1, eK]; rfl
  have hE : snE s r k = rnE s r k := by
    unfold snE rnE subS
    rw [x1, eK]
    exact sumS_addS (fE_good gr) (sGood_neg gK)
  cases eE : rnE s r k with
  | none =>
    refine bad ?_ ?_
    · unfold snB5 snB4 snB3 frB snB2; rw [hE, eE]; simp
    · unfold rsB2; rw [eRB, c1]; unfold rnB1; rw [eE]; simp
  | some e =>
  have b2 : snB2 s r k = false := by unfold snB2; rw [b1, hE, eE]; rfl
  have x2 : snX s r k = e := by unfold snX; rw [b1, hE, eE]; rfl
  have rb1 : rnB1 s r k = false := by unfold rnB1; rw [eK, eE]; rfl
  cases ef : fracOk (snN s r k) (snD s r k)
  · rw [ef] at hCd
    simp only [Bool.false_eq_true, if_false] at hCd
    refine bad ?_ ?_
    · unfold snB5 snB4 snB3 frB; rw [ef]; simp
    · unfold rsB2; rw [eRB, hCd]; simp
  · rw [ef] at hCd
    simp only [if_true] at hCd
    have b3 : snB3 s r k = false := by unfold snB3 frB; rw [b2, ef]; rfl
    have hT : rsT x s r k i = termP e (snN s r k) (snD s r k) := by
      unfold rsT rnT
      rw [if_neg hi, if_neg ns, eE, hCd]; rfl
    have hK : snK s r k = told (termP e (snN s r k) (snD s r k)) true := by
      unfold snK
      rw [x2, b3]; rfl
    have hb : rsB x s r k i = false := by rw [eRB, c1, rb1, c3, hCd]; rfl
    have hS : rsS x s r k i = addS s (termP e (snN s r k) (snD s r k)) := by unfold rsS; rw [hT]
    cases gt : sGood (termP e (snN s r k) (snD s r k))
    · have k0 : snK s r k = none := by rw [hK]; unfold told; rw [gt]; rfl
      refine bad ?_ ?_
      · unfold snB5 snB4; rw [k0]; simp
      · unfold rsB2; rw [hS, addS_bad gt]; simp
    · have k0 : snK s r k = some (termP e (snN s r k) (snD s r k)) := by rw [hK]; exact told_good gt
      have b4 : snB4 s r k = false := by unfold snB4; rw [b3, k0]; rfl
      have hT2 : snT s r k = termP e (snN s r k) (snD s r k) := by unfold snT; rw [b3, k0]; rfl
      have hS2 : snS s r k = rsS x s r k i := by unfold snS; rw [hT2, hS]; exact sumS_addS gs gt
      refine st_tail gx (by omega) ?_ ?_
      · rw [eB]
        unfold snB5 rsB2
        rw [b4, hb, hS2]
      · intro h
        rw [eB] at h
        unfold snB5 at h
        rw [eS]
        unfold snQ
        rw [b4, hS2] at *
        cases hz : rsS x s r k i with
        | none => rw [hz] at h; cases h
        | some z => rfl
theorem rootsGo_bad (x s r : Sur) (k n m : Nat) : (rootsGo x k n m true s r).1 = true := by rw [rootsGo_stop m (by simp)]
/-- further steps: the same -/
theorem sr_next {x : Sur} {k n : Nat} (gx : sGood x = true) (nx : x.len ≠ 0) (h2 : 2 ≤ k) (h4 : k ≤ 4) : ∀ (j : Nat) (s r : Sur) (m : Nat), j < n → RInv x s r k m → ∃ b z, srGo x k j false s r = some (b, z) ∧ (rootsGo x k n j false s r).1 = b ∧ (b = false → (rootsGo x k n j false s r).2 = z)
  | 0, s, r, m, _, _ => ⟨false, (s, r), rfl, rfl, fun _ => rfl⟩
  | j + 1, s, r, m, hj, h => by
    by_cases nr : r.len ≠ 0
    · obtain ⟨e0, n0, d0, s', hs, _⟩ := h.hd
      have ns : s.len ≠ 0 := by rw [hs]; simp [Sur.len]
      have hi : n - (j + 1) ≠ 0 := by omega
      obtain ⟨h1, h3⟩ := st_next (i := n - (j + 1)) gx nx h2 h4 h nr hi
      rw [srGo_step nr (fun e => ns e.1)]
      have e : rootsGo x k n (j + 1) false s r = rootsGo x k n j (rsB3 x s r k (n - (j + 1))) ((rsS x s r k (n - (j + 1))).getD .nil) ((rsR x s r k (n - (j + 1))).getD .nil) := by
        simp only [rootsGo]
        rw [if_pos ⟨trivial, nr⟩]
      rw [e, ← h1]
      cases hb : ssB6 x s r k
      · obtain ⟨e1, e2⟩ := h3 hb
        rw [e1, e2]
        exact sr_next gx nx h2 h4 j _ _ (m + 1) (by omega) (root_step gx nx h2 h4 h nr hi (h1.symm.trans hb))
      · exact ⟨true, (ssS s r k, ssR1 x s r k), srGo_stop j (by simp), rootsGo_bad .., fun h => by cases h⟩
    · rw [srGo_stop _ (fun e => nr e.1), rootsGo_stop _ (fun e => nr e.2)]
      exact ⟨false, (s, r), rfl, rfl, fun _ => rfl⟩
/-- the reference's roots, told -/
def srootT (x : Sur) (k n : Int) : Option (Sur × Sur) :=
  if (sGood x && (inB k 2 4 && stepsB n)) = true then
    if (srR x k.toNat n.toNat).1 = true then none else some (srR x k.toNat n.toNat).2
  else none
theorem sr_same {x : Sur} {k n : Nat} (gx : sGood x = true) (h2 : 2 ≤ k) (h4 : k ≤ 4) : (srR x k n).1 = (rootsGo x k n n false .nil x).1 ∧ ((srR x k n).1 = false → (srR x k n).2 = (rootsGo x k n n false .nil x).2) := by
  unfold srR
  by_cases nx : x.len ≠ 0
  · cases n with
    | zero => exact ⟨rfl, fun _ => rfl⟩
    | succ n =>
      have e : rootsGo x k (n + 1) (n + 1) false .nil x = rootsGo x k (n + 1) n (rsB3 x .nil x k 0) ((rsS x .nil x k 0).getD .nil) ((rsR x .nil x k 0).getD .nil) := by
        simp only [rootsGo]
        rw [if_pos ⟨trivial, nx⟩, Nat.sub_self]
      rw [e]
      by_cases hno : sCoef (fC x).1 (fC x).2 k = none
      · rw [srGo_none nx ⟨rfl, hno⟩]
        have hb : rsB3 x .nil x k 0 = true := by
          refine rsP_bad ?_
          have hC : rfC x k = none := (sCoef_rootC (fC_ok gx nx).1 h2).symm.trans hno
          unfold rsB2 rsB rfB
          rw [if_pos rfl, hC]; simp
        rw [hb, rootsGo_bad]
        exact ⟨rfl, fun h => by cases h⟩
      · obtain ⟨h1, h3⟩ := st_first gx nx h2 h4 hno
        rw [srGo_step nx (fun e => hno e.2), ← h1]
        cases hb : ssB6 x .nil x k
        · obtain ⟨e1, e2⟩ := h3 hb
          rw [e1, e2]
          obtain ⟨b, z, g1, g2, g3⟩ := sr_next gx nx h2 h4 n _ _ 1 (Nat.lt_succ_self n) (root_first gx nx h2 h4 (h1.symm.trans hb))
          rw [g1, g2]
          exact ⟨rfl, fun h => (g3 h).symm⟩
        · rw [rootsGo_bad, srGo_stop n (by simp)]
          exact ⟨rfl, fun h => by cases h⟩
  · rw [srGo_stop _ (fun e => nx e.1), rootsGo_stop _ (fun e => nx e.2)]
    exact ⟨rfl, fun _ => rfl⟩
theorem srootT_rootT (x : Sur) (k n : Int) : srootT x k n = rootT x k n := by
  unfold srootT rootT
  split
  · rename_i h
    simp only [Bool.and_eq_true] at h
    have hk : 2 ≤ k ∧ k ≤ 4 := by simpa [inB] using h.2.1
    obtain ⟨h1, h3⟩ := sr_same (n := n.toNat) h.1 (k := k.toNat) (by omega) (by omega)
    simp only []
    rw [← h1]
    cases hb : (srR x k.toNat n.toNat).1
    · simp only [Bool.false_eq_true, if_false]
      rw [h3 hb]
    · rfl
  · rfl
end Go.Proofs.YtonlfnbjbmgegaaGreat
