/-
  Sums of surreal numbers undo one another and are the same both ways round; twice a number is its sum with itself: plain.
-/
import Derived.Test.YtphabopnbcgodaaSPutFn
import Derived.Test.YtphabopnbcgodaaWNeg
import Derived.Test.YtphabopnbcgodaaWScale
namespace Go.Proofs.Ytphabopnbcgodaa
open Go.RowKit
set_option linter.unusedSimpArgs false
set_option linter.unusedVariables false

/-- lowest terms: the quotient's cross product -/
theorem mk_cross (n d : Int) (h : 0 < d) : mkN n d * d = n * mkD n d ∧ 0 < mkD n d ∧ Int.gcd (mkN n d) (mkD n d) = 1 := by
  have hg : gsign n d = (Int.gcd n d : Int) := by unfold gsign; rw [if_neg (by omega)]
  have hp : 0 < Int.gcd n d := Int.gcd_pos_of_ne_zero_right n (by omega)
  have e1 : (Int.gcd n d : Int) * mkN n d = n := by
    unfold mkN; rw [hg]; exact Int.mul_tdiv_cancel' (Int.gcd_dvd_left ..)
  have e2 : (Int.gcd n d : Int) * mkD n d = d := by
    unfold mkD; rw [hg]; exact Int.mul_tdiv_cancel' (Int.gcd_dvd_right ..)
  have h3 : 0 < mkD n d := by
    rcases Int.lt_or_le 0 (mkD n d) with q | q
    · exact q
    · have := Int.mul_nonpos_of_nonneg_of_nonpos (Int.natCast_nonneg (Int.gcd n d)) q
      omega
  refine ⟨?_, h3, ?_⟩
  · generalize mkN n d = p at *
    generalize mkD n d = q at *
    generalize hk : (Int.gcd n d : Int) = k at *
    calc p * d = p * (k * q) := by rw [e2]
      _ = (k * p) * q := by rw [← Int.mul_assoc, Int.mul_comm p k]
      _ = n * q := by rw [e1]
  · have := Int.gcd_mul_left (Int.gcd n d : Int) (mkN n d) (mkD n d)
    rw [e1, e2] at this
    rw [Int.natAbs_natCast] at this
    have h5 : Int.gcd n d * 1 = Int.gcd n d * Int.gcd (mkN n d) (mkD n d) := by omega
    exact (Nat.eq_of_mul_eq_mul_left hp h5).symm

/-- what made gives is the one fraction of that value -/
theorem made_iff {n d p q : Int} (h : 0 < d) : made n d = some (p, q) ↔ (FOk p q ∧ p * d = n * q) := by
  obtain ⟨c1, c2, c3⟩ := mk_cross n d h
  unfold made
  rw [if_neg (by omega)]
  constructor
  · intro hm
    split at hm
    · rename_i hf
      simp only [Option.some.injEq, Prod.mk.injEq] at hm
      obtain ⟨rfl, rfl⟩ := hm
      exact ⟨hf, c1⟩
    · exact absurd hm (by simp)
  · rintro ⟨hf, hc⟩
    have hq := hf.pos
    -- both are in lowest terms, and of one value
    have hx : mkN n d * q = p * mkD n d := by
      apply Int.eq_of_mul_eq_mul_right (a := d) (by omega)
      calc mkN n d * q * d = (mkN n d * d) * q := by rw [Int.mul_assoc, Int.mul_comm q, ← Int.mul_assoc]
        _ = (n * mkD n d) * q := by rw [c1]
        _ = (n * q) * mkD n d := by rw [Int.mul_assoc, Int.mul_comm (mkD n d), ← Int.mul_assoc]
        _ = (p * d) * mkD n d := by rw [hc]
        _ = p * mkD n d * d := by rw [Int.mul_assoc, Int.mul_comm d, ← Int.mul_assoc]
    have hcq : Int.gcd p q = 1 := (fracOk_iff.1 hf).2.2.2.2
    have d1 : q ∣ mkD n d := by
      have h1 : q ∣ p * mkD n d := ⟨mkN n d, by rw [← hx, Int.mul_comm]⟩
      have h1 := Int.natAbs_dvd_natAbs.2 h1
      rw [Int.natAbs_mul] at h1
      exact Int.natAbs_dvd_natAbs.1 (Nat.Coprime.dvd_of_dvd_mul_left (show Nat.gcd q.natAbs p.natAbs = 1 from by rw [Nat.gcd_comm]; exact hcq) h1)
    have d2 : mkD n d ∣ q := by
      have h1 : mkD n d ∣ mkN n d * q := ⟨p, by rw [hx, Int.mul_comm]⟩
      have h1 := Int.natAbs_dvd_natAbs.2 h1
      rw [Int.natAbs_mul] at h1
      exact Int.natAbs_dvd_natAbs.1 (Nat.Coprime.dvd_of_dvd_mul_left (show Nat.gcd (mkD n d).natAbs (mkN n d).natAbs = 1 from by rw [Nat.gcd_comm]; exact c3) h1)
    have e : mkD n d = q := by
      have := Int.le_of_dvd hq d2
      have := Int.le_of_dvd c2 d1
      omega
    rw [e] at hx
    have e' : mkN n d = p := Int.eq_of_mul_eq_mul_right (by omega) hx
    rw [e, e']
    exact if_pos hf
theorem made_congr {n d n' d' : Int} (h : 0 < d) (h' : 0 < d') (hc : n * d' = n' * d) : made n d = made n' d' := by
  have key : ∀ {n d n' d' p q : Int}, 0 < d → 0 < d' → n * d' = n' * d → made n d = some (p, q) → made n' d' = some (p, q) := by
    intro n d n' d' p q h h' hc hm
    obtain ⟨a, b⟩ := (made_iff h).1 hm
    refine (made_iff h').2 ⟨a, ?_⟩
    apply Int.eq_of_mul_eq_mul_right (a := d) (by omega)
    calc p * d' * d = (p * d) * d' := by rw [Int.mul_assoc, Int.mul_comm d', ← Int.mul_assoc]
      _ = (n * q) * d' := by rw [b]
      _ = (n * d') * q := by rw [Int.mul_assoc, Int.mul_comm q, ← Int.mul_assoc]
      _ = (n' * d) * q := by rw [hc]
      _ = n' * q * d := by rw [Int.mul_assoc, Int.mul_comm d, ← Int.mul_assoc]
  cases hm : made n d with
  | some pq => exact (key h h' hc hm).symm
  | none =>
    cases hm' : made n' d' with
    | none => rfl
    | some pq => rw [key h' h hc.symm hm'] at hm; exact absurd hm (by simp)

theorem FOk.neg {n d : Int} (h : FOk n d) : FOk (-n) d := by
  obtain ⟨a, b, c, e, f⟩ := fracOk_iff.1 h
  exact fracOk_iff.2 ⟨a, b, by omega, by omega, by rw [Int.neg_gcd]; exact f⟩
theorem GOk.neg {n d : Int} (h : GOk n d) : GOk (-n) d := ⟨h.1.neg, by have := h.2; omega⟩
theorem FOk.negI {n d : Int} (h : FOk n d) : negI n = -n := by
  have := fracOk_iff.1 h
  exact negI_in (by omega)

theorem fAdd_iff {n d n' d' p q : Int} (h : FOk n d) (h' : FOk n' d') : fAdd n d n' d' = some (p, q) ↔ (FOk p q ∧ p * (d * d') = (n * d' + n' * d) * q) := by
  unfold fAdd two
  rw [if_pos ⟨h, h'⟩]
  exact made_iff (Int.mul_pos h.pos h'.pos)
theorem fAdd_comm {n d n' d' : Int} : fAdd n d n' d' = fAdd n' d' n d := by
  unfold fAdd two
  rw [Int.add_comm, Int.mul_comm d d']
  by_cases h : fracOk n d = true ∧ fracOk n' d' = true
  · rw [if_pos h, if_pos ⟨h.2, h.1⟩]
  · rw [if_neg h, if_neg (fun k => h ⟨k.2, k.1⟩)]
/-- the sum, less the second, is the first -/
theorem fAdd_undo {n d n' d' p q : Int} (h : FOk n d) (h' : FOk n' d') (hs : fAdd n d n' d' = some (p, q)) : fAdd p q (-n') d' = some (n, d) := by
  obtain ⟨a, b⟩ := (fAdd_iff h h').1 hs
  refine (fAdd_iff a h'.neg).2 ⟨h, ?_⟩
  apply Int.eq_of_mul_eq_mul_right (a := 1) (by omega)
  grind
theorem fAdd_zero {n d n' d' q : Int} (h : FOk n d) (h' : FOk n' d') (hs : fAdd n d n' d' = some (0, q)) : n' = -n ∧ d' = d := by
  obtain ⟨a, b⟩ := (fAdd_iff h h').1 hs
  have hq := a.pos
  have h0 : n * d' + n' * d = 0 := by
    rcases Int.mul_eq_zero.1 (show (n * d' + n' * d) * q = 0 by omega) with e | e
    · exact e
    · omega
  have hc : cmpF n' d' (-n) d = 0 := by
    unfold cmpF
    refine cmpI_zero.2 ?_
    grind
  exact cmpF_eq h' h.neg hc
theorem fAdd_opp {n d : Int} (h : FOk n d) : fAdd n d (-n) d = some (0, 1) := by
  refine (fAdd_iff h h.neg).2 ⟨show fracOk 0 1 = true by decide, ?_⟩
  grind
theorem fMul_two {n d : Int} (h : FOk n d) : fMultiply n d 2 1 = fAdd n d n d := by
  have hd := h.pos
  unfold fMultiply fAdd two
  rw [if_pos ⟨h, by decide⟩, if_pos ⟨h, h⟩]
  refine made_congr (by omega) (Int.mul_pos hd hd) ?_
  grind

theorem sumP_comm (N : Nat) : ∀ (x y : Sur), x.len + y.len ≤ N → x.All GOk → y.All GOk → sumP x y = sumP y x := by
  induction N with
  | zero =>
    intro x y hN _ _
    cases x with
    | cons => simp [Sur.len] at hN
    | nil =>
      cases y with
      | cons => simp [Sur.len] at hN
      | nil => rfl
  | succ N ih =>
    intro x y hN hx hy
    cases y with
    | nil => rw [sumP_nil]; simp [sumP]
    | cons e n d r =>
      cases x with
      | nil => rw [sumP_nil]; simp [sumP]
      | cons e' n' d' r' =>
        have hn := order_neg e' e
        rcases order_range e' e with q | q | q
        · rw [sumP_right (.inr ⟨_, _, _, _, rfl, q⟩), sumP_left (.inr ⟨_, _, _, _, rfl, by omega⟩), ih _ _ (by simp only [Sur.len] at *; omega) hx hy.2.2]
        · have he := order_eq e' e hx.1 hy.1 q
          subst he
          rw [sumP_both q, sumP_both (order_self _), fAdd_comm, ih _ _ (by simp only [Sur.len] at *; omega) hx.2.2 hy.2.2]
        · rw [sumP_left (.inr ⟨_, _, _, _, rfl, q⟩), sumP_right (.inr ⟨_, _, _, _, rfl, by omega⟩), ih _ _ (by simp only [Sur.len] at *; omega) hx.2.2 hy]

/-- a sum's exponents are below what both are below -/
theorem sumP_lt {f : Sur} (N : Nat) : ∀ (x y : Sur), x.len + y.len ≤ N → ∀ {z : Sur}, Lt f x → Lt f y → sumP x y = some z → Lt f z := by
  induction N with
  | zero =>
    intro x y hN z _ _ h
    cases x with
    | cons => simp [Sur.len] at hN
    | nil =>
      cases y with
      | cons => simp [Sur.len] at hN
      | nil => simp [sumP] at h; subst h; trivial
  | succ N ih =>
    intro x y hN z hx hy h
    cases y with
    | nil => rw [sumP_nil] at h; simp only [Option.some.injEq] at h; subst h; exact hx
    | cons e n d r =>
      cases x with
      | nil => simp only [sumP, Option.some.injEq] at h; subst h; exact hy
      | cons e' n' d' r' =>
        rcases order_range e' e with q | q | q
        · rw [sumP_right (.inr ⟨_, _, _, _, rfl, q⟩)] at h
          obtain ⟨z', h', rfl⟩ := Option.map_eq_some_iff.1 h
          exact ⟨hy.1, ih _ _ (by simp only [Sur.len] at *; omega) hx hy.2 h'⟩
        · rw [sumP_both q] at h
          split at h
          · exact absurd h (by simp)
          · obtain ⟨z', h', rfl⟩ := Option.map_eq_some_iff.1 h
            have hl := ih _ _ (by simp only [Sur.len] at *; omega) hx.2 hy.2 h'
            split
            · exact hl
            · exact ⟨hx.1, hl⟩
        · rw [sumP_left (.inr ⟨_, _, _, _, rfl, q⟩)] at h
          obtain ⟨z', h', rfl⟩ := Option.map_eq_some_iff.1 h
          exact ⟨hx.1, ih _ _ (by simp only [Sur.len] at *; omega) hx.2 hy h'⟩

theorem sumP_g (N : Nat) : ∀ (x y : Sur), x.len + y.len ≤ N → x.All GOk → y.All GOk → Dec x → Dec y → ∀ {z : Sur}, sumP x y = some z → z.All GOk ∧ Dec z := by
  induction N with
  | zero =>
    intro x y hN _ _ _ _ z h
    cases x with
    | cons => simp [Sur.len] at hN
    | nil =>
      cases y with
      | cons => simp [Sur.len] at hN
      | nil => simp [sumP] at h; subst h; exact ⟨trivial, trivial⟩
  | succ N ih =>
    intro x y hN hx hy dx dy z h
    cases y with
    | nil => rw [sumP_nil] at h; simp only [Option.some.injEq] at h; subst h; exact ⟨hx, dx⟩
    | cons e n d r =>
      cases x with
      | nil => simp only [sumP, Option.some.injEq] at h; subst h; exact ⟨hy, dy⟩
      | cons e' n' d' r' =>
        have hn := order_neg e' e
        rcases order_range e' e with q | q | q
        · rw [sumP_right (.inr ⟨_, _, _, _, rfl, q⟩)] at h
          obtain ⟨z', h', rfl⟩ := Option.map_eq_some_iff.1 h
          obtain ⟨i1, i2⟩ := ih _ _ (by simp only [Sur.len] at *; omega) hx hy.2.2 dx dy.2 h'
          have q' : order e e' = 1 := by omega
          exact ⟨⟨hy.1, hy.2.1, i1⟩, sumP_lt _ _ _ (Nat.le_refl _) (show Lt e (.cons e' n' d' r') from ⟨q', Lt.tr hy.1 hx.1 q' hx.2.2 dx.1⟩) dy.1 h', i2⟩
        · have he := order_eq e' e hx.1 hy.1 q
          subst he
          rw [sumP_both q] at h
          split at h
          · exact absurd h (by simp)
          · rename_i p s hf
            obtain ⟨z', h', rfl⟩ := Option.map_eq_some_iff.1 h
            obtain ⟨i1, i2⟩ := ih _ _ (by simp only [Sur.len] at *; omega) hx.2.2 hy.2.2 dx.2 dy.2 h'
            have hl := sumP_lt _ _ _ (Nat.le_refl _) dx.1 dy.1 h'
            split
            · exact ⟨i1, i2⟩
            · rename_i hp
              exact ⟨⟨hx.1, ⟨((fAdd_iff hx.2.1.1 hy.2.1.1).1 hf).1, hp⟩, i1⟩, hl, i2⟩
        · rw [sumP_left (.inr ⟨_, _, _, _, rfl, q⟩)] at h
          obtain ⟨z', h', rfl⟩ := Option.map_eq_some_iff.1 h
          obtain ⟨i1, i2⟩ := ih _ _ (by simp only [Sur.len] at *; omega) hx.2.2 hy dx.2 dy h'
          exact ⟨⟨hx.1, hx.2.1, i1⟩, sumP_lt _ _ _ (Nat.le_refl _) dx.1 (show Lt e' (.cons e n d r) from ⟨q, Lt.tr hx.1 hy.1 q hy.2.2 dy.1⟩) h', i2⟩

/-- a sum whose second part lies below its first term -/
theorem sumP_low {e x y : Sur} {n d : Int} (h : Lt e y) : sumP (.cons e n d x) y = (sumP x y).map (.cons e n d ·) := by
  cases y with
  | nil => rw [sumP_nil, sumP_nil]; rfl
  | cons e' n' d' r' => exact sumP_left (.inr ⟨_, _, _, _, rfl, h.1⟩)
theorem sumP_high {e x y : Sur} {n d : Int} (h : Lt e x) : sumP x (.cons e n d y) = (sumP x y).map (.cons e n d ·) := by
  cases x with
  | nil => simp [sumP]
  | cons e' n' d' r' => exact sumP_right (.inr ⟨_, _, _, _, rfl, by have := order_neg e e'; have := h.1; omega⟩)

theorem sumP_undo (N : Nat) : ∀ (x y : Sur), x.len + y.len ≤ N → x.All GOk → y.All GOk → Dec x → Dec y → ∀ {z : Sur}, sumP x y = some z → sumP z (negP y) = some x := by
  induction N with
  | zero =>
    intro x y hN _ _ _ _ z h
    cases x with
    | cons => simp [Sur.len] at hN
    | nil =>
      cases y with
      | cons => simp [Sur.len] at hN
      | nil => simp [sumP] at h; subst h; simp [negP, sumP]
  | succ N ih =>
    intro x y hN hx hy dx dy z h
    cases y with
    | nil => rw [sumP_nil] at h; simp only [negP]; rw [sumP_nil, h]
    | cons e n d r =>
      have hneg := hy.2.1.1.negI
      simp only [negP]
      rw [hneg]
      cases x with
      | nil =>
        simp only [sumP, Option.some.injEq] at h
        subst h
        rw [sumP_both (order_self _), fAdd_opp hy.2.1.1]
        simp only [if_true]
        rw [ih .nil r (by simp only [Sur.len] at *; omega) trivial hy.2.2 trivial dy.2 (show sumP .nil r = some r by simp [sumP])]
        rfl
      | cons e' n' d' r' =>
        rcases order_range e' e with q | q | q
        · rw [sumP_right (.inr ⟨_, _, _, _, rfl, q⟩)] at h
          obtain ⟨z', h', rfl⟩ := Option.map_eq_some_iff.1 h
          rw [sumP_both (order_self _), fAdd_opp hy.2.1.1]
          simp only [if_true]
          rw [ih _ r (by simp only [Sur.len] at *; omega) hx hy.2.2 dx dy.2 h']
          rfl
        · have he := order_eq e' e hx.1 hy.1 q
          subst he
          rw [sumP_both q] at h
          split at h
          · exact absurd h (by simp)
          · rename_i p s hf
            obtain ⟨z', h', rfl⟩ := Option.map_eq_some_iff.1 h
            have i := ih _ r (by simp only [Sur.len] at *; omega) hx.2.2 hy.2.2 dx.2 dy.2 h'
            have hl := sumP_lt _ _ _ (Nat.le_refl _) dx.1 dy.1 h'
            split
            · rename_i hp
              subst hp
              obtain ⟨e1, e2⟩ := fAdd_zero hx.2.1.1 hy.2.1.1 hf
              rw [sumP_high hl, i, e1, e2, Int.neg_neg]
              rfl
            · rename_i hp
              rw [sumP_both (order_self _), fAdd_undo hx.2.1.1 hy.2.1.1 hf]
              simp only [i, Option.map_some, if_neg hx.2.1.2]
        · rw [sumP_left (.inr ⟨_, _, _, _, rfl, q⟩)] at h
          obtain ⟨z', h', rfl⟩ := Option.map_eq_some_iff.1 h
          have hn := order_neg e' e
          have i := ih r' (.cons e n d r) (by simp only [Sur.len] at *; omega) hx.2.2 hy dx.2 dy h'
          simp only [negP] at i
          rw [hneg] at i
          rw [sumP_left (.inr ⟨_, _, _, _, rfl, q⟩), i]
          rfl

theorem negP_nodes : ∀ (x : Sur), (negP x).nodes = x.nodes
  | .nil => rfl
  | .cons e n d r => by simp only [negP, Sur.nodes, negP_nodes r]
theorem formT_neg : ∀ {x : Sur} {deep : Int} {prev : Option Sur}, formT deep prev x = true → formT deep prev (negP x) = true
  | .nil, _, _, _ => rfl
  | .cons e n d r, deep, prev, h => by
    simp only [formT, Bool.and_eq_true, decide_eq_true_eq] at h
    obtain ⟨h1, h2, h3, h4, h5, h6⟩ := h
    have i := formT_neg h6
    have f : FOk n d := h1
    simp only [negP, formT, Bool.and_eq_true, decide_eq_true_eq]
    rw [f.negI]
    exact ⟨f.neg, by omega, h3, h4, h5, i⟩
theorem sGood_neg {x : Sur} (h : sGood x = true) : sGood (negP x) = true := by
  simp only [sGood, sOk, Bool.and_eq_true] at *
  rw [negP_nodes]
  exact ⟨h.1, h.2.1, formT_neg h.2.2⟩
theorem negS_good {x : Sur} (h : sGood x = true) : negS x = some (negP x) := by
  unfold negS
  rw [if_pos h]
  exact told_good (sGood_neg h)

theorem addS_some {x y z : Sur} (h : addS x y = some z) : sGood x = true ∧ sGood y = true ∧ sumP x y = some z ∧ sGood z = true := by
  have hz := addS_good h
  unfold addS at h
  split at h
  · rename_i hg
    simp only [Bool.and_eq_true] at hg
    obtain ⟨u, hu, h⟩ := Option.bind_eq_some_iff.1 h
    obtain ⟨rfl, _, _⟩ := told_eq h
    exact ⟨hg.1, hg.2, hu, hz⟩
  · exact absurd h (by simp)
theorem addS_of {x y z : Sur} (hx : sGood x = true) (hy : sGood y = true) (h : sumP x y = some z) (hz : sGood z = true) : addS x y = some z := by
  unfold addS
  rw [hx, hy, h]
  exact told_good hz
/-- the same both ways round -/
theorem addS_comm (x y : Sur) : addS x y = addS y x := by
  have key : ∀ {x y z : Sur}, addS x y = some z → addS y x = some z := by
    intro x y z h
    obtain ⟨a, b, c, d⟩ := addS_some h
    exact addS_of b a (by rw [← sumP_comm _ x y (Nat.le_refl _) (sGood_g a).1 (sGood_g b).1]; exact c) d
  cases h : addS x y with
  | some z => exact (key h).symm
  | none =>
    cases h' : addS y x with
    | none => rfl
    | some z => rw [key h'] at h; exact absurd h (by simp)
/-- undone -/
theorem addS_undo {x y z : Sur} (h : addS x y = some z) : addS z (negP y) = some x := by
  obtain ⟨a, b, c, d⟩ := addS_some h
  have ga := sGood_g a
  have gb := sGood_g b
  exact addS_of d (sGood_neg b) (sumP_undo _ x y (Nat.le_refl _) ga.1 gb.1 ga.2 gb.2 c) a

theorem scaleT_two : ∀ {x : Sur}, x.All GOk → scaleT 2 1 x = sumP x x
  | .nil, _ => by simp [scaleT, sumP]
  | .cons e n d r, h => by
    rw [sumP_both (order_self _), scaleT, fMul_two h.2.1.1, scaleT_two h.2.2]
    cases hf : fAdd n d n d with
    | none => rfl
    | some pq =>
      obtain ⟨p, q⟩ := pq
      have hp : p ≠ 0 := by
        intro h0
        subst h0
        have := (fAdd_zero h.2.1.1 h.2.1.1 hf).1
        have := h.2.1.2
        omega
      simp only [if_neg hp]
/-- twice a number -/
theorem scaleS_two (x : Sur) : scaleS x 2 1 = addS x x := by
  unfold scaleS addS
  cases hg : sGood x with
  | false => rfl
  | true =>
    have h2 : fracOk 2 1 = true := by decide
    rw [h2]
    simp only [Bool.and_self, if_true, scaleP, if_neg (show ¬ ((2 : Int) = 0) by omega)]
    rw [scaleT_two (sGood_g hg).1]
end Go.Proofs.Ytphabopnbcgodaa
