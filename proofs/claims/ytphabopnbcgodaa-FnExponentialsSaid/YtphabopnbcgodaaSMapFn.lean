/-
  A number is told by its coefficients: sums, products, the order. Plain.
-/
import Derived.Test.YtphabopnbcgodaaSAlgFn
import Derived.Test.YtphabopnbcgodaaWMulFn
namespace Go.Proofs.Ytphabopnbcgodaa
open Go.RowKit
set_option linter.unusedSimpArgs false
set_option linter.unusedVariables false

/-- a fraction as a rational number -/
def rat (n d : Int) : Rat := (n : Rat) / (d : Rat)
theorem castNe {d : Int} (h : 0 < d) : (d : Rat) ≠ 0 := by exact_mod_cast (by omega : d ≠ 0)
theorem rat_add {n d n' d' p q : Int} (h : FOk n d) (h' : FOk n' d') (hs : fAdd n d n' d' = some (p, q)) : rat p q = rat n d + rat n' d' := by
  obtain ⟨a, b⟩ := (fAdd_iff h h').1 hs
  have h1 := castNe h.pos
  have h2 := castNe h'.pos
  have h3 := castNe a.pos
  have h4 : (p : Rat) * (d * d') = (n * d' + n' * d) * q := by exact_mod_cast b
  unfold rat
  grind
theorem fMul_iff {n d n' d' p q : Int} (h : FOk n d) (h' : FOk n' d') : fMultiply n d n' d' = some (p, q) ↔ (FOk p q ∧ p * (d * d') = (n * n') * q) := by
  unfold fMultiply two
  rw [if_pos ⟨h, h'⟩]
  exact made_iff (Int.mul_pos h.pos h'.pos)
theorem rat_mul {n d n' d' p q : Int} (h : FOk n d) (h' : FOk n' d') (hs : fMultiply n d n' d' = some (p, q)) : rat p q = rat n d * rat n' d' := by
  obtain ⟨a, b⟩ := (fMul_iff h h').1 hs
  have h1 := castNe h.pos
  have h2 := castNe h'.pos
  have h3 := castNe a.pos
  have h4 : (p : Rat) * (d * d') = (n * n') * q := by exact_mod_cast b
  unfold rat
  grind
theorem rat_lt {n d n' d' : Int} (h : 0 < d) (h' : 0 < d') : rat n d < rat n' d' ↔ n * d' < n' * d := by
  have h1 : (0 : Rat) < d := by exact_mod_cast h
  have h2 : (0 : Rat) < d' := by exact_mod_cast h'
  unfold rat
  rw [Rat.lt_div_iff h2]
  have e : (n : Rat) / d * d' = (n * d') / d := by grind
  rw [e, Rat.div_lt_iff h1]
  constructor
  · intro k; exact_mod_cast k
  · intro k; exact_mod_cast k
theorem rat_eq {n d n' d' : Int} (h : 0 < d) (h' : 0 < d') (k : rat n d = rat n' d') : n * d' = n' * d := by
  have h1 := castNe h
  have h2 := castNe h'
  unfold rat at k
  have : (n : Rat) * d' = n' * d := by grind
  exact_mod_cast this
theorem rat_inj {n d n' d' : Int} (h : FOk n d) (h' : FOk n' d') (k : rat n d = rat n' d') : n = n' ∧ d = d' :=
  cmpF_eq h h' (cmpI_zero.2 (rat_eq h.pos h'.pos k))
theorem rat_zero (d : Int) : rat 0 d = 0 := by
  unfold rat
  rw [show ((0 : Int) : Rat) = 0 from rfl]
  grind
theorem rat_pos {n d : Int} (h : 0 < d) : 0 < rat n d ↔ 0 < n := by
  have := rat_lt (n := 0) (d := 1) (n' := n) (by omega) h
  rw [rat_zero] at this
  rw [this]
  omega
theorem rat_neg {n d : Int} (h : 0 < d) : rat n d < 0 ↔ n < 0 := by
  have := rat_lt (n := n) (d := d) (n' := 0) (d' := 1) h (by omega)
  rw [rat_zero] at this
  rw [this]
  omega
theorem rat_ne {n d : Int} (h : GOk n d) : rat n d ≠ 0 := by
  intro k
  have h1 := (rat_pos (n := n) h.1.pos)
  have h2 := (rat_neg (n := n) h.1.pos)
  rw [k] at h1 h2
  have h3 : ¬ (0 : Rat) < 0 := by grind
  have h4 : ¬ 0 < n := fun q => h3 (h1.2 q)
  have h5 : ¬ n < 0 := fun q => h3 (h2.2 q)
  exact h.2 (by omega)

open Classical in
/-- the coefficient of a power -/
noncomputable def co : Sur → Sur → Rat
  | .nil, _ => 0
  | .cons e n d r, f => (if e = f then rat n d else 0) + co r f
theorem co_self {e r : Sur} {n d : Int} : co (.cons e n d r) e = rat n d + co r e := by simp [co]
theorem co_ne {e r f : Sur} {n d : Int} (h : e ≠ f) : co (.cons e n d r) f = co r f := by simp only [co, if_neg h]; grind
theorem order_ne {e f : Sur} (h : order e f = 1) : e ≠ f := by rintro rfl; rw [order_self] at h; omega
theorem order_ne' {e f : Sur} (h : order e f = 1) : f ≠ e := fun k => order_ne h k.symm
theorem co_lt {f : Sur} : ∀ {x : Sur}, Lt f x → co x f = 0
  | .nil, _ => rfl
  | .cons e n d r, h => by rw [co_ne (order_ne' h.1)]; exact co_lt h.2
theorem order_flip {x y : Sur} : order x y = -1 ↔ order y x = 1 := by rw [order_neg y x]; omega
theorem order_eqI {x y : Sur} (hx : x.All GOk) (hy : y.All GOk) (h : order x y = 0) : x = y := order_eq x y hx hy h

/-- a number is told by its coefficients -/
theorem co_inj : ∀ {x y : Sur}, x.All GOk → Dec x → y.All GOk → Dec y → (∀ f, co x f = co y f) → x = y
  | .nil, .nil, _, _, _, _, _ => rfl
  | .nil, .cons e n d r, _, _, hy, dy, h => by
    have := h e
    rw [co_self, co_lt dy.1] at this
    simp only [co] at this
    exact absurd (by grind) (rat_ne hy.2.1)
  | .cons e n d r, .nil, hx, dx, _, _, h => by
    have := h e
    rw [co_self, co_lt dx.1] at this
    simp only [co] at this
    exact absurd (by grind) (rat_ne hx.2.1)
  | .cons e n d r, .cons e' n' d' r', hx, dx, hy, dy, h => by
    rcases order_range e e' with q | q | q
    · have q' := order_flip.1 q
      have := h e'
      rw [co_self, co_lt dy.1, co_ne (order_ne' q'), co_lt (Lt.tr hy.1 hx.1 q' hx.2.2 dx.1)] at this
      exact absurd (by grind) (rat_ne hy.2.1)
    · obtain rfl := order_eqI hx.1 hy.1 q
      have := h e
      rw [co_self, co_self, co_lt dx.1, co_lt dy.1] at this
      obtain ⟨rfl, rfl⟩ := rat_inj hx.2.1.1 hy.2.1.1 (by grind)
      rw [co_inj hx.2.2 dx.2 hy.2.2 dy.2 (fun f => by have := h f; simp only [co] at this; grind)]
    · have := h e
      rw [co_self, co_lt dx.1, co_ne (order_ne' q), co_lt (Lt.tr hx.1 hy.1 q hy.2.2 dy.1)] at this
      exact absurd (by grind) (rat_ne hx.2.1)

theorem co_term {z : Sur} {p q : Int} (f : Sur) : co (termP z p q) f = co (.cons z p q .nil) f := by
  unfold termP
  split
  · rename_i h
    subst h
    simp only [co, rat_zero]
    split <;> grind
  · rfl
/-- sums add coefficients -/
theorem co_sum (N : Nat) : ∀ (x y : Sur), x.len + y.len ≤ N → x.All GOk → y.All GOk → ∀ {z : Sur}, sumP x y = some z → ∀ f, co z f = co x f + co y f := by
  induction N with
  | zero =>
    intro x y hN _ _ z h f
    cases x with
    | cons => simp [Sur.len] at hN
    | nil =>
      simp only [sumP, Option.some.injEq] at h
      subst h
      simp only [co]; grind
  | succ N ih =>
    intro x y hN hx hy z h f
    cases x with
    | nil =>
      simp only [sumP, Option.some.injEq] at h
      subst h
      simp only [co]; grind
    | cons e n d r =>
      cases y with
      | nil =>
        simp only [sumP, Option.some.injEq] at h
        subst h
        simp only [co]; grind
      | cons e' n' d' r' =>
        simp only [Sur.len] at hN
        rw [sumP] at h
        split at h
        · obtain ⟨u, hu, rfl⟩ := Option.map_eq_some_iff.1 h
          have := ih r _ (by simp only [Sur.len]; omega) hx.2.2 hy hu f
          simp only [co] at this ⊢
          grind
        · split at h
          · obtain ⟨u, hu, rfl⟩ := Option.map_eq_some_iff.1 h
            have := ih _ r' (by simp only [Sur.len]; omega) hx hy.2.2 hu f
            simp only [co] at this ⊢
            grind
          · have q : order e e' = 0 := by rcases order_range e e' with q | q | q <;> omega
            obtain rfl := order_eqI hx.1 hy.1 q
            cases hf : fAdd n d n' d' with
            | none => rw [hf] at h; cases h
            | some v =>
              obtain ⟨p, k⟩ := v
              rw [hf] at h
              obtain ⟨u, hu, rfl⟩ := Option.map_eq_some_iff.1 h
              have := ih r r' (by omega) hx.2.2 hy.2.2 hu f
              have hr := rat_add hx.2.1.1 hy.2.1.1 hf
              split
              · rename_i hp
                have hp' : p = 0 := hp
                subst hp'
                rw [rat_zero] at hr
                simp only [co]
                split <;> grind
              · simp only [co]
                split <;> grind
theorem co_addS {x y z : Sur} (h : addS x y = some z) (f : Sur) : co z f = co x f + co y f := by
  obtain ⟨a, b, c, _⟩ := addS_some h
  exact co_sum _ x y (Nat.le_refl _) (sGood_g a).1 (sGood_g b).1 c f

open Classical in
/-- one term times a number: the coefficient of a power -/
noncomputable def rowC (e : Sur) (c : Rat) : Sur → Sur → Rat
  | .nil, _ => 0
  | .cons e' n' d' r, f => (if addS e e' = some f then c * rat n' d' else 0) + rowC e c r f
noncomputable def mulC (y : Sur) : Sur → Sur → Rat
  | .nil, _ => 0
  | .cons e n d r, f => rowC e (rat n d) y f + mulC y r f
theorem addS_inj {e a b f : Sur} (h : addS e a = some f) (h' : addS e b = some f) : a = b := by
  rw [addS_comm] at h h'
  have h1 := addS_undo h
  have h2 := addS_undo h'
  rw [h1] at h2
  injection h2
theorem rowC_at {e t f : Sur} {c : Rat} (h : addS e t = some f) : ∀ (y : Sur), rowC e c y f = c * co y t
  | .nil => by simp only [rowC, co]; grind
  | .cons e' n' d' r => by
    have ih := rowC_at h (c := c) r
    simp only [rowC, co]
    rw [ih]
    by_cases k : e' = t
    · subst k
      rw [if_pos h, if_pos rfl]; grind
    · rw [if_neg (fun h' => k (addS_inj h' h)), if_neg k]; grind
theorem rowC_no {e f : Sur} {c : Rat} (h : ∀ t, addS e t ≠ some f) : ∀ (y : Sur), rowC e c y f = 0
  | .nil => rfl
  | .cons e' n' d' r => by simp only [rowC, if_neg (h e'), rowC_no h r]; grind
theorem rowC_add {e f y z s : Sur} {c : Rat} (h : ∀ g, co s g = co y g + co z g) : rowC e c s f = rowC e c y f + rowC e c z f := by
  by_cases k : ∃ t, addS e t = some f
  · obtain ⟨t, ht⟩ := k
    rw [rowC_at ht, rowC_at ht, rowC_at ht, h t]; grind
  · have k' : ∀ t, addS e t ≠ some f := fun t ht => k ⟨t, ht⟩
    rw [rowC_no k', rowC_no k', rowC_no k']; grind
theorem mulC_add {y z s f : Sur} (h : ∀ g, co s g = co y g + co z g) : ∀ (x : Sur), mulC s x f = mulC y x f + mulC z x f
  | .nil => by simp only [mulC]; grind
  | .cons e n d r => by
    have h1 := rowC_add (e := e) (c := rat n d) (f := f) h
    have h2 := mulC_add (f := f) h r
    simp only [mulC]
    grind

theorem termP_g {z : Sur} {p q : Int} (hz : z.All GOk) (h : FOk p q) : (termP z p q).All GOk ∧ Dec (termP z p q) := by
  unfold termP
  split
  · exact ⟨trivial, trivial⟩
  · rename_i hp
    exact ⟨⟨hz, ⟨h, hp⟩, trivial⟩, trivial, trivial⟩
theorem mulIn_co {e : Sur} {n d : Int} (h : FOk n d) : ∀ {y out z : Sur}, y.All GOk → out.All GOk → Dec out → mulIn e n d y out = some z → z.All GOk ∧ Dec z ∧ ∀ f, co z f = co out f + rowC e (rat n d) y f
  | .nil, out, z, _, ho, dq, hm => by
    simp only [mulIn, Option.some.injEq] at hm
    subst hm
    exact ⟨ho, dq, fun f => by simp only [rowC]; grind⟩
  | .cons e' n' d' r, out, z, hy, ho, dq, hm => by
    simp only [mulIn] at hm
    split at hm
    · rename_i t p q ht hf
      obtain ⟨u, hu, hr⟩ := Option.bind_eq_some_iff.1 hm
      have gt := sGood_g (addS_good ht)
      have hpq := ((fMul_iff h hy.2.1.1).1 hf).1
      obtain ⟨g1, g2⟩ := termP_g gt.1 hpq
      obtain ⟨g3, g4⟩ := sumP_g _ out _ (Nat.le_refl _) ho g1 dq g2 hu
      obtain ⟨a, b, c⟩ := mulIn_co h hy.2.2 g3 g4 hr
      refine ⟨a, b, fun f => ?_⟩
      have hr := rat_mul h hy.2.1.1 hf
      rw [c f, co_sum _ out _ (Nat.le_refl _) ho g1 hu f, co_term]
      simp only [rowC, co, ht, Option.some.injEq, hr]
      by_cases k : t = f
      · rw [if_pos k, if_pos (show addS e e' = some f by rw [ht, k])]; grind
      · rw [if_neg k, if_neg (show ¬ addS e e' = some f from fun q => k (by rw [ht] at q; injection q))]; grind
    · cases hm
theorem mulOut_co {y : Sur} (hy : y.All GOk) : ∀ {x out z : Sur}, x.All GOk → out.All GOk → Dec out → mulOut y x out = some z → z.All GOk ∧ Dec z ∧ ∀ f, co z f = co out f + mulC y x f
  | .nil, out, z, _, ho, dq, hm => by
    simp only [mulOut, Option.some.injEq] at hm
    subst hm
    exact ⟨ho, dq, fun f => by simp only [mulC]; grind⟩
  | .cons e n d r, out, z, hx, ho, dq, hm => by
    obtain ⟨u, hu, hr⟩ := Option.bind_eq_some_iff.1 hm
    obtain ⟨a, b, c⟩ := mulIn_co hx.2.1.1 hy ho dq hu
    obtain ⟨a', b', c'⟩ := mulOut_co hy hx.2.2 a b hr
    refine ⟨a', b', fun f => ?_⟩
    rw [c' f, c f]
    simp only [mulC]
    grind
theorem mulS_some {x y z : Sur} (h : mulS x y = some z) : sGood x = true ∧ sGood y = true ∧ mulOut y x .nil = some z ∧ sGood z = true := by
  unfold mulS at h
  split at h
  · rename_i hg
    simp only [Bool.and_eq_true] at hg
    obtain ⟨u, hu, ht⟩ := Option.bind_eq_some_iff.1 h
    obtain ⟨rfl, _, hgz⟩ := told_eq ht
    exact ⟨hg.1, hg.2, hu, hgz⟩
  · cases h
theorem mulS_co {x y z : Sur} (h : mulS x y = some z) (f : Sur) : co z f = mulC y x f := by
  obtain ⟨gx, gy, hm, _⟩ := mulS_some h
  have := (mulOut_co (sGood_g gy).1 (sGood_g gx).1 (show Sur.All GOk .nil from trivial) (show Dec .nil from trivial) hm).2.2 f
  rw [this]
  simp only [co]; grind
theorem good_inj {x y : Sur} (gx : sGood x = true) (gy : sGood y = true) (h : ∀ f, co x f = co y f) : x = y :=
  co_inj (sGood_g gx).1 (sGood_g gx).2 (sGood_g gy).1 (sGood_g gy).2 h
/-- products distribute -/
theorem mulS_distrib {x y z s a p b c : Sur} (hs : addS y z = some s) (ha : mulS x s = some a) (hp : mulS x y = some p) (hb : mulS x z = some b) (hc : addS p b = some c) : a = c :=
  good_inj (mulS_some ha).2.2.2 (addS_good hc) fun f => by
    rw [mulS_co ha f, co_addS hc f, mulS_co hp f, mulS_co hb f]
    exact mulC_add (co_addS hs) x

/-- greater, by the first coefficient that differs -/
def GtF (u v : Sur → Rat) : Prop := ∃ g : Sur, g.All GOk ∧ v g < u g ∧ ∀ h : Sur, h.All GOk → order h g = 1 → u h = v h
theorem lt_cons {h e r : Sur} {n d : Int} (hh : h.All GOk) (hx : (Sur.cons e n d r).All GOk) (dx : Dec (.cons e n d r)) (q : order h e = 1) : Lt h (.cons e n d r) := ⟨q, Lt.tr hh hx.1 q hx.2.2 dx.1⟩
theorem gt_of_order : ∀ {x y : Sur}, x.All GOk → Dec x → y.All GOk → Dec y → order x y = 1 → GtF (co x) (co y)
  | .nil, .nil, _, _, _, _, h => absurd h order_nn
  | .nil, .cons e n d r, _, _, hy, dy, h => by
    have hn := (rat_neg hy.2.1.1.pos).2 (order_nc.1 h)
    refine ⟨e, hy.1, ?_, fun k hk hq => ?_⟩
    · rw [co_self, co_lt dy.1]; simp only [co]; grind
    · rw [co_lt (lt_cons hk hy dy hq)]; rfl
  | .cons e n d r, .nil, hx, dx, _, _, h => by
    have hn := (rat_pos hx.2.1.1.pos).2 (order_cn.1 h)
    refine ⟨e, hx.1, ?_, fun k hk hq => ?_⟩
    · rw [co_self, co_lt dx.1]; simp only [co]; grind
    · rw [co_lt (lt_cons hk hx dx hq)]; rfl
  | .cons e n d r, .cons e' n' d' r', hx, dx, hy, dy, h => by
    rcases order_cc.1 h with ⟨q, hn⟩ | ⟨q, hn⟩ | ⟨q, hc⟩ | ⟨q, hc, hr⟩
    · have hn := (rat_pos hx.2.1.1.pos).2 hn
      refine ⟨e, hx.1, ?_, fun k hk hq => ?_⟩
      · rw [co_self, co_lt dx.1, co_lt (lt_cons hx.1 hy dy q)]; grind
      · rw [co_lt (lt_cons hk hx dx hq), co_lt (lt_cons hk hy dy (order_tr hk hx.1 hy.1 hq q))]
    · have hn := (rat_neg hy.2.1.1.pos).2 hn
      have q := order_flip.1 q
      refine ⟨e', hy.1, ?_, fun k hk hq => ?_⟩
      · rw [co_self, co_lt dy.1, co_lt (lt_cons hy.1 hx dx q)]; grind
      · rw [co_lt (lt_cons hk hy dy hq), co_lt (lt_cons hk hx dx (order_tr hk hy.1 hx.1 hq q))]
    · obtain rfl := order_eqI hx.1 hy.1 q
      have hl := (rat_lt hy.2.1.1.pos hx.2.1.1.pos).2 hc
      refine ⟨e, hx.1, ?_, fun k hk hq => ?_⟩
      · rw [co_self, co_self, co_lt dx.1, co_lt dy.1]; grind
      · rw [co_lt (lt_cons hk hx dx hq), co_lt (lt_cons hk hy dy hq)]
    · obtain rfl := order_eqI hx.1 hy.1 q
      obtain ⟨rfl, rfl⟩ := cmpF_eq hx.2.1.1 hy.2.1.1 (cmpI_zero.2 hc)
      obtain ⟨g, hg, h1, h2⟩ := gt_of_order hx.2.2 dx.2 hy.2.2 dy.2 hr
      refine ⟨g, hg, ?_, fun k hk hq => ?_⟩
      · simp only [co]; grind
      · have := h2 k hk hq
        simp only [co]; grind
theorem GtF.irr {u v : Sur → Rat} (h : GtF u v) (k : ∀ f, u f = v f) : False := by
  obtain ⟨g, _, h1, _⟩ := h
  rw [k g] at h1
  grind
theorem GtF.asym {u v : Sur → Rat} (h : GtF u v) (k : GtF v u) : False := by
  obtain ⟨g, hg, h1, h2⟩ := h
  obtain ⟨g', hg', k1, k2⟩ := k
  rcases order_range g g' with q | q | q
  · have := h2 g' hg' (order_flip.1 q); grind
  · obtain rfl := order_eqI hg hg' q; grind
  · have := k2 g hg q; grind
theorem order_of_gt {x y : Sur} (hx : x.All GOk) (dx : Dec x) (hy : y.All GOk) (dy : Dec y) (h : GtF (co x) (co y)) : order x y = 1 := by
  rcases order_range x y with q | q | q
  · exact (h.asym (gt_of_order hy dy hx dx (order_flip.1 q))).elim
  · obtain rfl := order_eqI hx hy q
    exact (h.irr fun _ => rfl).elim
  · exact q
theorem GtF.add {u v u' v' : Sur → Rat} (h : GtF u v) (k : GtF u' v') : GtF (fun f => u f + u' f) (fun f => v f + v' f) := by
  obtain ⟨g, hg, h1, h2⟩ := h
  obtain ⟨g', hg', k1, k2⟩ := k
  rcases order_range g g' with q | q | q
  · have q := order_flip.1 q
    refine ⟨g', hg', ?_, fun f hf hq => ?_⟩
    · have := h2 g' hg' q
      simp only []
      grind
    · have := h2 f hf (order_tr hf hg' hg hq q)
      have := k2 f hf hq
      simp only []
      grind
  · obtain rfl := order_eqI hg hg' q
    refine ⟨g, hg, ?_, fun f hf hq => ?_⟩
    · simp only []
      grind
    · have := h2 f hf hq
      have := k2 f hf hq
      simp only []
      grind
  · refine ⟨g, hg, ?_, fun f hf hq => ?_⟩
    · have := k2 g hg q
      simp only []
      grind
    · have := h2 f hf hq
      have := k2 f hf (order_tr hf hg hg' hq q)
      simp only []
      grind
theorem GtF.addEq {u v u' v' : Sur → Rat} (h : GtF u v) (k : ∀ f, u' f = v' f) : GtF (fun f => u f + u' f) (fun f => v f + v' f) := by
  obtain ⟨g, hg, h1, h2⟩ := h
  refine ⟨g, hg, ?_, fun f hf hq => ?_⟩
  · have := k g
    simp only []
    grind
  · have := h2 f hf hq
    have := k f
    simp only []
    grind
theorem GtF.congr {u v u' v' : Sur → Rat} (h : GtF u v) (k : ∀ f, u' f = u f) (k' : ∀ f, v' f = v f) : GtF u' v' := by
  obtain ⟨g, hg, h1, h2⟩ := h
  exact ⟨g, hg, by rw [k, k']; exact h1, fun f hf hq => by rw [k, k']; exact h2 f hf hq⟩

/-- e + e' is E; then s + t is less where s or t is less -/
theorem sum_less {e e' E s t f : Sur} (hE : addS e e' = some E) (hf : addS s t = some f) (hs : s = e ∨ order e s = 1) (ht : t = e' ∨ order e' t = 1) : (s = e ∧ t = e' ∧ f = E) ∨ order E f = 1 := by
  obtain ⟨ge, ge', _, gE⟩ := addS_some hE
  obtain ⟨gs, gt, _, gf⟩ := addS_some hf
  obtain ⟨ae, de⟩ := sGood_g ge
  obtain ⟨ae', de'⟩ := sGood_g ge'
  obtain ⟨aE, dE⟩ := sGood_g gE
  obtain ⟨aS, ds⟩ := sGood_g gs
  obtain ⟨at', dt⟩ := sGood_g gt
  obtain ⟨af, df⟩ := sGood_g gf
  rcases hs with rfl | hs
  · rcases ht with rfl | ht
    · rw [hE] at hf; injection hf with hf
      exact .inl ⟨rfl, rfl, hf.symm⟩
    · refine .inr (order_of_gt aE dE af df (((gt_of_order ae' de' at' dt ht).addEq (u' := co s) (v' := co s) fun _ => rfl).congr (fun k => ?_) (fun k => ?_)))
      · rw [co_addS hE k]; grind
      · rw [co_addS hf k]; grind
  · rcases ht with rfl | ht
    · refine .inr (order_of_gt aE dE af df (((gt_of_order ae de aS ds hs).addEq (u' := co t) (v' := co t) fun _ => rfl).congr (fun k => ?_) (fun k => ?_)))
      · rw [co_addS hE k]
      · rw [co_addS hf k]
    · refine .inr (order_of_gt aE dE af df (((gt_of_order ae de aS ds hs).add (gt_of_order ae' de' at' dt ht)).congr (fun k => ?_) (fun k => ?_)))
      · rw [co_addS hE k]
      · rw [co_addS hf k]
theorem row_zero {e e' r' E s f : Sur} {n' d' : Int} {c : Rat} (hE : addS e e' = some E) (hy : (Sur.cons e' n' d' r').All GOk) (dy : Dec (.cons e' n' d' r')) (hs : s = e ∨ order e s = 1) (hf : order f E = 1 ∨ (f = E ∧ order e s = 1)) : rowC s c (.cons e' n' d' r') f = 0 := by
  by_cases k : ∃ t, addS s t = some f
  · obtain ⟨t, ht⟩ := k
    have at' := (sGood_g (addS_some ht).2.1).1
    have key : order t e' = 1 := by
      rcases order_range t e' with q | q | q
      · rcases sum_less hE ht hs (.inr (order_flip.1 q)) with ⟨rfl, rfl, rfl⟩ | h
        · rw [order_self] at q; omega
        · rcases hf with hf | ⟨rfl, _⟩
          · have := order_neg f E; omega
          · have := order_self f; omega
      · obtain rfl := order_eqI at' hy.1 q
        rcases sum_less hE ht hs (.inl rfl) with ⟨rfl, _, rfl⟩ | h
        · rcases hf with hf | ⟨_, hf⟩
          · rw [order_self] at hf; omega
          · rw [order_self] at hf; omega
        · rcases hf with hf | ⟨rfl, _⟩
          · have := order_neg f E; omega
          · have := order_self f; omega
      · exact q
    rw [rowC_at ht, co_lt (lt_cons at' hy dy key)]; grind
  · exact rowC_no (fun t ht => k ⟨t, ht⟩) _
theorem mulC_zero {e e' r' E f : Sur} {n' d' : Int} (hE : addS e e' = some E) (hy : (Sur.cons e' n' d' r').All GOk) (dy : Dec (.cons e' n' d' r')) (hf : order f E = 1 ∨ f = E) : ∀ {r : Sur}, Lt e r → mulC (.cons e' n' d' r') r f = 0
  | .nil, _ => rfl
  | .cons s n d r, hl => by
    simp only [mulC]
    rw [row_zero hE hy dy (.inr hl.1) (hf.imp id fun h => ⟨h, hl.1⟩), mulC_zero hE hy dy hf hl.2]
    grind
/-- the first term of a product -/
theorem mulS_lead {e e' r r' p : Sur} {n d n' d' : Int} (h : mulS (.cons e n d r) (.cons e' n' d' r') = some p) : ∃ E n'' d'' r'', p = .cons E n'' d'' r'' ∧ GOk n'' d'' ∧ rat n'' d'' = rat n d * rat n' d' := by
  obtain ⟨gx, gy, hm, gp⟩ := mulS_some h
  obtain ⟨hx, dx⟩ := sGood_g gx
  obtain ⟨hy, dy⟩ := sGood_g gy
  obtain ⟨hp, dp⟩ := sGood_g gp
  obtain ⟨E, hE⟩ : ∃ E, addS e e' = some E := by
    obtain ⟨u, hu, _⟩ := Option.bind_eq_some_iff.1 hm
    simp only [mulIn] at hu
    split at hu
    · rename_i t p q ht hf
      exact ⟨t, ht⟩
    · cases hu
  have gE := (addS_some hE).2.2.2
  obtain ⟨aE, dE⟩ := sGood_g gE
  have hco := mulS_co h
  have hhi : ∀ f, order f E = 1 → co p f = 0 := fun f hf => by
    rw [hco f]
    simp only [mulC]
    rw [row_zero hE hy dy (.inl rfl) (.inl hf), mulC_zero hE hy dy (.inl hf) dx.1]
    grind
  have hlo : co p E = rat n d * rat n' d' := by
    rw [hco E]
    simp only [mulC]
    rw [mulC_zero hE hy dy (.inr rfl) dx.1, rowC_at hE, co_self, co_lt dy.1]
    grind
  have h1 := rat_ne hx.2.1
  have h2 := rat_ne hy.2.1
  cases p with
  | nil =>
    simp only [co] at hlo
    exfalso
    grind
  | cons e'' n'' d'' r'' =>
    refine ⟨e'', n'', d'', r'', rfl, hp.2.1, ?_⟩
    rcases order_range e'' E with q | q | q
    · have := co_lt (lt_cons aE hp dp (order_flip.1 q))
      rw [this] at hlo
      exfalso
      grind
    · obtain rfl := order_eqI hp.1 aE q
      rw [co_self, co_lt dp.1] at hlo
      rw [← hlo]
      grind
    · have := hhi e'' q
      rw [co_self, co_lt dp.1] at this
      exact absurd (by grind) (rat_ne hp.2.1)
/-- the sign -/
def sgS : Sur → Int
  | .nil => 0
  | .cons _ n _ _ => if 0 < n then 1 else -1
theorem sgS_mul {x y p : Sur} (h : mulS x y = some p) : sgS p = sgS x * sgS y := by
  obtain ⟨gx, gy, hm, gp⟩ := mulS_some h
  obtain ⟨hx, dx⟩ := sGood_g gx
  obtain ⟨hy, dy⟩ := sGood_g gy
  cases x with
  | nil =>
    simp only [mulOut, Option.some.injEq] at hm
    subst hm
    simp [sgS]
  | cons e n d r =>
    cases y with
    | nil =>
      have : ∀ (x : Sur), mulOut .nil x .nil = some .nil := fun x => by
        induction x with
        | nil => rfl
        | cons e n d r _ ih => simp only [mulOut, mulIn, Option.bind_some]; exact ih
      rw [this] at hm
      injection hm with hm
      subst hm
      simp [sgS]
    | cons e' n' d' r' =>
      obtain ⟨E, n'', d'', r'', rfl, hg, hr⟩ := mulS_lead h
      have a1 := rat_pos (n := n) hx.2.1.1.pos
      have a2 := rat_pos (n := n') hy.2.1.1.pos
      have a3 := rat_pos (n := n'') hg.1.pos
      have b1 := rat_neg (n := n) hx.2.1.1.pos
      have b2 := rat_neg (n := n') hy.2.1.1.pos
      have b3 := rat_neg (n := n'') hg.1.pos
      have c1 := hx.2.1.2
      have c2 := hy.2.1.2
      have c3 := hg.2
      simp only [sgS]
      generalize rat n d = q1 at *
      generalize rat n' d' = q2 at *
      generalize rat n'' d'' = q3 at *
      subst hr
      by_cases k1 : 0 < n
      · by_cases k2 : 0 < n'
        · have := a3.1 (Rat.mul_pos (a1.2 k1) (a2.2 k2))
          rw [if_pos k1, if_pos k2, if_pos this]; rfl
        · have h2 := b2.2 (by omega)
          have : q1 * q2 < 0 := by
            have := Rat.mul_pos (a1.2 k1) (show 0 < -q2 by grind)
            grind
          have := b3.1 this
          rw [if_pos k1, if_neg k2, if_neg (by omega)]; rfl
      · have h1 := b1.2 (by omega)
        by_cases k2 : 0 < n'
        · have : q1 * q2 < 0 := by
            have := Rat.mul_pos (show 0 < -q1 by grind) (a2.2 k2)
            grind
          have := b3.1 this
          rw [if_neg k1, if_pos k2, if_neg (by omega)]; rfl
        · have h2 := b2.2 (by omega)
          have : 0 < q1 * q2 := by
            have := Rat.mul_pos (show 0 < -q1 by grind) (show 0 < -q2 by grind)
            grind
          have := a3.1 this
          rw [if_neg k1, if_neg k2, if_pos this]; rfl

/-- OmegaTo -/
def omS (x : Sur) : Option Sur := told (termP x 1 1) (sGood x)
theorem omS_some {x v : Sur} (h : omS x = some v) : v = .cons x 1 1 .nil ∧ sGood x = true := by
  obtain ⟨rfl, g, _⟩ := told_eq h
  exact ⟨by simp [termP], g⟩
theorem mul_one1 : fMultiply 1 1 1 1 = some (1, 1) := (fMul_iff (show fracOk 1 1 = true by decide) (show fracOk 1 1 = true by decide)).2 ⟨show fracOk 1 1 = true by decide, by omega⟩
/-- powers of omega add their exponents -/
theorem omS_mul {x y v w u : Sur} (hv : omS x = some v) (hw : omS y = some w) (hu : mulS v w = some u) : ∃ e, addS x y = some e ∧ u = .cons e 1 1 .nil := by
  obtain ⟨rfl, _⟩ := omS_some hv
  obtain ⟨rfl, _⟩ := omS_some hw
  obtain ⟨_, _, hm, _⟩ := mulS_some hu
  simp only [mulOut, mulIn, mul_one1] at hm
  rcases ha : addS x y with _ | e
  · rw [ha] at hm; simp at hm
  · rw [ha] at hm
    simp [sumP, termP, mulIn, mulOut] at hm
    exact ⟨e, rfl, hm.symm⟩
end Go.Proofs.Ytphabopnbcgodaa
