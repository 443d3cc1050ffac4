/-
  Numbers as functionals on functions of exponents: sums, products, powers, bounds of exponents. Plain.
  Finite sums and the coefficients of exponentials, logarithms and powers. Plain.
  Exponentials of sums are products, logarithms undo exponentials, up to what is negligible. Plain.
-/
import Derived.Test.YtphabopnbcgodaaSMapFn
namespace Go.Proofs.Ytphabopnbcgodaa
open Go.RowKit
set_option linter.unusedSimpArgs false
set_option linter.unusedVariables false

/-- exponents as functions -/
abbrev Gam := Sur → Rat
abbrev Fnl := (Gam → Rat) → Rat
def gadd (g h : Gam) : Gam := fun s => g s + h s
def gz : Gam := fun _ => 0
theorem gadd_comm (g h : Gam) : gadd g h = gadd h g := by funext s; simp only [gadd]; grind
theorem gadd_assoc (g h k : Gam) : gadd (gadd g h) k = gadd g (gadd h k) := by funext s; simp only [gadd]; grind
theorem gadd_zero (g : Gam) : gadd g gz = g := by funext s; simp only [gadd, gz]; grind
theorem zero_gadd (g : Gam) : gadd gz g = g := by funext s; simp only [gadd, gz]; grind
noncomputable def fn : Sur → Fnl
  | .nil, _ => 0
  | .cons e n d r, f => rat n d * f (co e) + fn r f
def fmul (S T : Fnl) : Fnl := fun f => S fun g => T fun h => f (gadd g h)
def fone : Fnl := fun f => f gz
def Lin (T : Fnl) : Prop := ∀ (a b : Rat) (f k : Gam → Rat), T (fun g => a * f g + b * k g) = a * T f + b * T k
/-- linear, and the order of two of them does not matter -/
structure Nice (S : Fnl) : Prop where
  lin : Lin S
  fub : ∀ (T : Fnl), Lin T → ∀ f : Gam → Gam → Rat, S (fun g => T (fun h => f g h)) = T (fun h => S (fun g => f g h))
theorem Lin.zero {T : Fnl} (h : Lin T) : T (fun _ => 0) = 0 := by
  have := h 0 0 (fun _ => 0) (fun _ => 0)
  have e : (fun _ : Gam => (0 : Rat) * 0 + 0 * 0) = fun _ => 0 := by funext g; grind
  rw [e] at this
  grind
theorem Lin.add {T : Fnl} (h : Lin T) (f k : Gam → Rat) : T (fun g => f g + k g) = T f + T k := by
  have := h 1 1 f k
  have e : (fun g : Gam => (1 : Rat) * f g + 1 * k g) = fun g => f g + k g := by funext g; grind
  rw [e] at this
  grind
theorem Lin.smul {T : Fnl} (h : Lin T) (a : Rat) (f : Gam → Rat) : T (fun g => a * f g) = a * T f := by
  have := h a 0 f f
  have e : (fun g : Gam => a * f g + 0 * f g) = fun g => a * f g := by funext g; grind
  rw [e] at this
  grind
theorem fn_lin : ∀ (x : Sur), Lin (fn x)
  | .nil => fun a b f k => by simp only [fn]; grind
  | .cons e n d r => fun a b f k => by
    have := fn_lin r a b f k
    simp only [fn]
    grind
theorem fn_nice (x : Sur) : Nice (fn x) := ⟨fn_lin x, fun T hT f => by
  induction x with
  | nil => simp only [fn]; exact (hT.zero).symm
  | cons e n d r _ ih =>
    simp only [fn]
    have k := hT (rat n d) 1 (fun h => f (co e) h) (fun h => fn r fun g => f g h)
    have e : (fun h => rat n d * f (co e) h + 1 * fn r fun g => f g h) = fun h => rat n d * f (co e) h + fn r fun g => f g h := by funext h; grind
    rw [e] at k
    rw [ih, k]
    grind⟩
theorem fone_nice : Nice fone := ⟨fun a b f k => rfl, fun T hT f => rfl⟩
theorem Nice.mul {S T : Fnl} (hS : Nice S) (hT : Nice T) : Nice (fmul S T) := ⟨fun a b f k => by
    unfold fmul
    rw [← hS.lin]
    congr 1
    funext g
    exact hT.lin a b _ _,
  fun U hU f => by
    unfold fmul
    rw [← hS.fub U hU]
    congr 1
    funext g
    exact hT.fub U hU _⟩
theorem Nice.add {S T : Fnl} (hS : Nice S) (hT : Nice T) : Nice (fun f => S f + T f) := ⟨fun a b f k => by
    rw [hS.lin, hT.lin]; grind,
  fun U hU f => by
    rw [hS.fub U hU, hT.fub U hU, ← hU.add]⟩
theorem Nice.smul {S : Fnl} (hS : Nice S) (c : Rat) : Nice (fun f => c * S f) := ⟨fun a b f k => by
    rw [hS.lin]; grind,
  fun U hU f => by
    rw [hS.fub U hU, ← hU.smul]⟩
theorem Nice.zero : Nice (fun _ => 0) := ⟨fun a b f k => by grind, fun U hU f => hU.zero.symm⟩
theorem fmul_comm {S T : Fnl} (hS : Nice S) (hT : Nice T) : fmul S T = fmul T S := by
  funext f
  unfold fmul
  rw [hS.fub T hT.lin]
  congr 1
  funext h
  congr 1
  funext g
  rw [gadd_comm]
theorem fmul_assoc (S T U : Fnl) : fmul (fmul S T) U = fmul S (fmul T U) := by
  funext f
  simp only [fmul, gadd_assoc]
theorem fone_mul (S : Fnl) : fmul fone S = S := by funext f; simp only [fmul, fone, zero_gadd]
theorem fmul_one (S : Fnl) : fmul S fone = S := by funext f; simp only [fmul, fone, gadd_zero]
theorem fmul_add_right {S : Fnl} (hS : Nice S) (T U : Fnl) : fmul S (fun f => T f + U f) = fun f => fmul S T f + fmul S U f := by
  funext f
  exact hS.lin.add _ _
theorem fmul_add_left (S T U : Fnl) : fmul (fun f => S f + T f) U = fun f => fmul S U f + fmul T U f := rfl
theorem fmul_smul_right {S : Fnl} (hS : Nice S) (c : Rat) (T : Fnl) : fmul S (fun f => c * T f) = fun f => c * fmul S T f := by
  funext f
  exact hS.lin.smul c _
theorem fmul_smul_left (S T : Fnl) (c : Rat) : fmul (fun f => c * S f) T = fun f => c * fmul S T f := rfl
theorem fmul_zero_right {S : Fnl} (hS : Nice S) : fmul S (fun _ => 0) = fun _ => 0 := by funext f; exact hS.lin.zero
def fpow (S : Fnl) : Nat → Fnl
  | 0 => fone
  | k + 1 => fmul (fpow S k) S
theorem Nice.pow {S : Fnl} (hS : Nice S) : ∀ k, Nice (fpow S k)
  | 0 => fone_nice
  | k + 1 => (Nice.pow hS k).mul hS
theorem fpow_add {S : Fnl} (i : Nat) : ∀ j, fmul (fpow S i) (fpow S j) = fpow S (i + j)
  | 0 => fmul_one _
  | j + 1 => by
    show fmul (fpow S i) (fmul (fpow S j) S) = fmul (fpow S (i + j)) S
    rw [← fmul_assoc, fpow_add i j]

/- the program's arithmetic -/
theorem fn_term (z : Sur) (p q : Int) (f : Gam → Rat) : fn (termP z p q) f = rat p q * f (co z) := by
  unfold termP
  split
  · rename_i h
    subst h
    simp only [fn, rat_zero]; grind
  · simp only [fn]; grind
theorem fn_app : ∀ (x y : Sur) (f : Gam → Rat), fn (x.app y) f = fn x f + fn y f
  | .nil, y, f => by simp only [Sur.app, fn]; grind
  | .cons e n d r, y, f => by
    have := fn_app r y f
    simp only [Sur.app, fn]
    grind
theorem fn_sumP (N : Nat) : ∀ (x y : Sur), x.len + y.len ≤ N → x.All GOk → y.All GOk → ∀ {z : Sur}, sumP x y = some z → ∀ f, fn z f = fn x f + fn y f := by
  induction N with
  | zero =>
    intro x y hN _ _ z h f
    cases x with
    | cons => simp [Sur.len] at hN
    | nil =>
      simp only [sumP, Option.some.injEq] at h
      subst h
      simp only [fn]; grind
  | succ N ih =>
    intro x y hN hx hy z h f
    cases x with
    | nil =>
      simp only [sumP, Option.some.injEq] at h
      subst h
      simp only [fn]; grind
    | cons e n d r =>
      cases y with
      | nil =>
        simp only [sumP, Option.some.injEq] at h
        subst h
        simp only [fn]; grind
      | cons e' n' d' r' =>
        simp only [Sur.len] at hN
        rw [sumP] at h
        split at h
        · obtain ⟨u, hu, rfl⟩ := Option.map_eq_some_iff.1 h
          have := ih r _ (by simp only [Sur.len]; omega) hx.2.2 hy hu f
          simp only [fn] at this ⊢
          grind
        · split at h
          · obtain ⟨u, hu, rfl⟩ := Option.map_eq_some_iff.1 h
            have := ih _ r' (by simp only [Sur.len]; omega) hx hy.2.2 hu f
            simp only [fn] at this ⊢
            grind
          · have q : order e e' = 0 := by rcases order_range e e' with q | q | q <;> omega
            obtain rfl := order_eqI hx.1 hy.1 q
            cases hf : fAdd n d n' d' with
            | none => rw [hf] at h; cases h
            | some v =>
              obtain ⟨p, k⟩ := v
              rw [hf] at h
              obtain ⟨u, hu, rfl⟩ := Option.map_eq_some_iff.1 h
              have := ih r r' (by omega) hx.2.2 hy.2.2 hu f
              have hr := rat_add hx.2.1.1 hy.2.1.1 hf
              split
              · rename_i hp
                have hp' : p = 0 := hp
                subst hp'
                rw [rat_zero] at hr
                simp only [fn]
                grind
              · simp only [fn]
                grind
theorem fn_addS {x y z : Sur} (h : addS x y = some z) : fn z = fun f => fn x f + fn y f := by
  funext f
  obtain ⟨a, b, c, _⟩ := addS_some h
  exact fn_sumP _ x y (Nat.le_refl _) (sGood_g a).1 (sGood_g b).1 c f
theorem fn_negP : ∀ {x : Sur}, x.All FOk → ∀ f, fn (negP x) f = - fn x f
  | .nil, _, f => by simp only [negP, fn]; grind
  | .cons e n d r, h, f => by
    have ih := fn_negP h.2.2 f
    have e1 : rat (negI n) d = - rat n d := by
      rw [FOk.negI h.2.1]
      unfold rat
      rw [show ((-n : Int) : Rat) = -(n : Rat) by exact_mod_cast rfl]
      grind
    simp only [negP, fn]
    rw [e1, ih]
    grind
theorem negP_negP : ∀ {x : Sur}, x.All FOk → negP (negP x) = x
  | .nil, _ => rfl
  | .cons e n d r, h => by
    simp only [negP]
    rw [negP_negP h.2.2, FOk.negI h.2.1, FOk.negI h.2.1.neg]
    simp
theorem negP_allI : ∀ {x : Sur}, x.All FOk → (negP x).All FOk
  | .nil, _ => trivial
  | .cons e n d r, h => ⟨h.1, by rw [FOk.negI h.2.1]; exact h.2.1.neg, negP_allI h.2.2⟩
theorem subS_some {x y z : Sur} (h : subS x y = some z) (hy : y.All FOk) : sGood x = true ∧ sGood z = true ∧ fn z = fun f => fn x f - fn y f := by
  obtain ⟨a, b, c, d⟩ := addS_some h
  refine ⟨a, d, ?_⟩
  rw [fn_addS h]
  funext f
  rw [fn_negP hy f]
  grind
theorem fn_mulIn {e : Sur} {n d : Int} (h : FOk n d) : ∀ {y out z : Sur}, y.All GOk → out.All GOk → Dec out → mulIn e n d y out = some z → ∀ f, fn z f = fn out f + rat n d * fn y (fun k => f (gadd (co e) k))
  | .nil, out, z, _, ho, dq, hm, f => by
    simp only [mulIn, Option.some.injEq] at hm
    subst hm
    simp only [fn]; grind
  | .cons e' n' d' r, out, z, hy, ho, dq, hm, f => by
    simp only [mulIn] at hm
    split at hm
    · rename_i t p q ht hf
      obtain ⟨u, hu, hr⟩ := Option.bind_eq_some_iff.1 hm
      have gt := sGood_g (addS_good ht)
      have hpq := ((fMul_iff h hy.2.1.1).1 hf).1
      obtain ⟨g1, g2⟩ := termP_g gt.1 hpq
      obtain ⟨g3, g4⟩ := sumP_g _ out _ (Nat.le_refl _) ho g1 dq g2 hu
      have c := fn_mulIn h hy.2.2 g3 g4 hr f
      have hr := rat_mul h hy.2.1.1 hf
      have hg : co t = gadd (co e) (co e') := by funext s; exact co_addS ht s
      rw [c, fn_sumP _ out _ (Nat.le_refl _) ho g1 hu f, fn_term, hr, hg]
      simp only [fn]
      grind
    · cases hm
theorem fn_mulOut {y : Sur} (hy : y.All GOk) : ∀ {x out z : Sur}, x.All GOk → out.All GOk → Dec out → mulOut y x out = some z → ∀ f, fn z f = fn out f + fmul (fn x) (fn y) f
  | .nil, out, z, _, ho, dq, hm, f => by
    simp only [mulOut, Option.some.injEq] at hm
    subst hm
    simp only [fmul, fn]; grind
  | .cons e n d r, out, z, hx, ho, dq, hm, f => by
    obtain ⟨u, hu, hr⟩ := Option.bind_eq_some_iff.1 hm
    obtain ⟨a, b, _⟩ := mulIn_co hx.2.1.1 hy ho dq hu
    have c := fn_mulIn hx.2.1.1 hy ho dq hu f
    have c' := fn_mulOut hy hx.2.2 a b hr f
    rw [c', c]
    simp only [fmul, fn]
    grind
theorem fn_mulS {x y z : Sur} (h : mulS x y = some z) : fn z = fmul (fn x) (fn y) := by
  obtain ⟨gx, gy, hm, _⟩ := mulS_some h
  funext f
  have := fn_mulOut (sGood_g gy).1 (sGood_g gx).1 (show Sur.All GOk .nil from trivial) (show Dec .nil from trivial) hm f
  rw [this]
  simp only [fn]; grind
theorem fn_scaleT {a b : Int} (hab : FOk a b) : ∀ {x z : Sur}, x.All GOk → scaleT a b x = some z → ∀ f, fn z f = rat a b * fn x f
  | .nil, z, _, h, f => by
    simp only [scaleT, Option.some.injEq] at h
    subst h
    simp only [fn]; grind
  | .cons e n d r, z, hx, h, f => by
    simp only [scaleT] at h
    split at h
    · cases h
    · rename_i p q hf
      obtain ⟨u, hu, rfl⟩ := Option.map_eq_some_iff.1 h
      have ih := fn_scaleT hab hx.2.2 hu f
      have hr := rat_mul hx.2.1.1 hab hf
      simp only [fn]
      rw [hr, ih]
      grind
theorem scaleS_some {x z : Sur} {a b : Int} (h : scaleS x a b = some z) : sGood x = true ∧ FOk a b ∧ sGood z = true ∧ fn z = fun f => rat a b * fn x f := by
  unfold scaleS at h
  split at h
  · rename_i hg
    simp only [Bool.and_eq_true] at hg
    obtain ⟨u, hu, ht⟩ := Option.bind_eq_some_iff.1 h
    obtain ⟨rfl, _, hgz⟩ := told_eq ht
    refine ⟨hg.1, hg.2, hgz, ?_⟩
    funext f
    unfold scaleP at hu
    split at hu
    · rename_i ha
      subst ha
      simp only [Option.some.injEq] at hu
      subst hu
      simp only [fn, rat_zero]; grind
    · exact fn_scaleT hg.2 (sGood_g hg.1).1 hu f
  · cases h
theorem fn_one : fn (.cons .nil 1 1 .nil) = fone := by
  funext f
  have e : co .nil = gz := by funext s; rfl
  simp only [fn, fone, e]
  unfold rat
  grind

/- a number is told by its functional -/
/-- exponents that are right numbers -/
def ExG : Sur → Prop
  | .nil => True
  | .cons e _ _ r => (e.All GOk ∧ Dec e) ∧ ExG r
theorem formT_exG : ∀ {x : Sur} {deep : Int} {prev : Option Sur}, formT deep prev x = true → ExG x
  | .nil, _, _, _ => trivial
  | .cons e n d r, deep, prev, h => by
    simp only [formT, Bool.and_eq_true, decide_eq_true_eq] at h
    exact ⟨⟨formT_g h.2.2.2.1, (formT_dec h.2.2.2.1).1⟩, formT_exG h.2.2.2.2.2⟩
theorem sGood_exG {x : Sur} (h : sGood x = true) : ExG x := by
  simp only [sGood, sOk, Bool.and_eq_true] at h
  exact formT_exG h.2.2
open Classical in
noncomputable def ind (g : Gam) : Gam → Rat := fun h => if h = g then 1 else 0
theorem fn_ind {f : Sur} (hf : f.All GOk) (df : Dec f) : ∀ {x : Sur}, ExG x → fn x (ind (co f)) = co x f
  | .nil, _ => rfl
  | .cons e n d r, h => by
    have ih := fn_ind hf df h.2
    simp only [fn, co]
    rw [ih]
    by_cases k : e = f
    · subst k
      simp only [ind, if_pos]; grind
    · have : ¬ co e = co f := fun q => k (co_inj h.1.1 h.1.2 hf df fun s => congrFun q s)
      simp only [ind, if_neg this, if_neg k]; grind
theorem co_bad {f : Sur} (hf : ¬ (f.All GOk ∧ Dec f)) : ∀ {x : Sur}, ExG x → co x f = 0
  | .nil, _ => rfl
  | .cons e n d r, h => by
    have ih := co_bad hf h.2
    have hne : e ≠ f := by rintro rfl; exact hf h.1
    rw [co_ne hne]
    exact ih
theorem fn_inj {x y : Sur} (gx : sGood x = true) (gy : sGood y = true) (h : fn x = fn y) : x = y :=
  good_inj gx gy fun f => by
    by_cases hf : f.All GOk ∧ Dec f
    · rw [← fn_ind hf.1 hf.2 (sGood_exG gx), ← fn_ind hf.1 hf.2 (sGood_exG gy), h]
    · rw [co_bad hf (sGood_exG gx), co_bad hf (sGood_exG gy)]

/- bounds of exponents -/
/-- all exponents lie in P -/
def Sup (T : Fnl) (P : Gam → Prop) : Prop := ∀ f k : Gam → Rat, (∀ g, P g → f g = k g) → T f = T k
theorem Sup.mono {T : Fnl} {P Q : Gam → Prop} (h : Sup T P) (k : ∀ g, P g → Q g) : Sup T Q := fun f j q => h f j fun g hg => q g (k g hg)
theorem Sup.mul {S T : Fnl} {P Q R : Gam → Prop} (hS : Sup S P) (hT : Sup T Q) (k : ∀ g h, P g → Q h → R (gadd g h)) : Sup (fmul S T) R := fun f j q => by
  unfold fmul
  exact hS _ _ fun g hg => hT _ _ fun h hh => q _ (k g h hg hh)
/-- at most -/
def LeF (u v : Gam) : Prop := u = v ∨ GtF v u
def gsm (k : Nat) (g : Gam) : Gam := fun s => (k : Rat) * g s
theorem GtF.trans {u v w : Sur → Rat} (h : GtF u v) (k : GtF v w) : GtF u w := by
  obtain ⟨g, hg, h1, h2⟩ := h
  obtain ⟨g', hg', k1, k2⟩ := k
  rcases order_range g g' with q | q | q
  · have q := order_flip.1 q
    exact ⟨g', hg', by have := h2 g' hg' q; grind, fun f hf hq => by
      have := h2 f hf (order_tr hf hg' hg hq q)
      have := k2 f hf hq
      grind⟩
  · obtain rfl := order_eqI hg hg' q
    exact ⟨g, hg, by grind, fun f hf hq => by
      have := h2 f hf hq
      have := k2 f hf hq
      grind⟩
  · exact ⟨g, hg, by have := k2 g hg q; grind, fun f hf hq => by
      have := h2 f hf hq
      have := k2 f hf (order_tr hf hg hg' hq q)
      grind⟩
theorem LeF.trans {u v w : Gam} (h : LeF u v) (k : LeF v w) : LeF u w := by
  rcases h with rfl | h
  · exact k
  · rcases k with rfl | k
    · exact .inr h
    · exact .inr (k.trans h)
theorem LeF.add {u v u' v' : Gam} (h : LeF u v) (k : LeF u' v') : LeF (gadd u u') (gadd v v') := by
  rcases h with rfl | h
  · rcases k with rfl | k
    · exact .inl rfl
    · exact .inr ((k.addEq (u' := u) (v' := u) fun _ => rfl).congr (fun f => by simp only [gadd]; grind) (fun f => by simp only [gadd]; grind))
  · rcases k with rfl | k
    · exact .inr (h.addEq (u' := u') (v' := u') fun _ => rfl)
    · exact .inr (h.add k)
theorem LeF.gt {u v w : Gam} (h : LeF u v) (k : GtF w v) : GtF w u := by
  rcases h with rfl | h
  · exact k
  · exact k.trans h
theorem gsm_succ (k : Nat) (g : Gam) : gsm (k + 1) g = gadd (gsm k g) g := by
  funext s
  simp only [gsm, gadd]
  rw [show ((k + 1 : Nat) : Rat) = (k : Rat) + 1 by exact_mod_cast rfl]
  grind
theorem gsm_zero (g : Gam) : gsm 0 g = gz := by
  funext s
  simp only [gsm, gz]
  rw [show ((0 : Nat) : Rat) = 0 from rfl]
  grind
theorem gsm_add (i j : Nat) (g : Gam) : gadd (gsm i g) (gsm j g) = gsm (i + j) g := by
  funext s
  simp only [gsm, gadd]
  rw [show ((i + j : Nat) : Rat) = (i : Rat) + j by exact_mod_cast rfl]
  grind
theorem gsm_down {m : Gam} (h : GtF gz m) (k : Nat) : GtF (gsm k m) (gsm (k + 1) m) :=
  (h.addEq (u' := gsm k m) (v' := gsm k m) fun _ => rfl).congr (fun f => by simp only [gz]; grind) (fun f => by rw [gsm_succ]; simp only [gadd]; grind)
theorem gsm_le {m : Gam} (h : GtF gz m) (k : Nat) : ∀ j, LeF (gsm (k + j) m) (gsm k m)
  | 0 => .inl rfl
  | j + 1 => LeF.trans (.inr (gsm_down h (k + j))) (gsm_le h k j)
/-- all exponents are at most k times m -/
def Ups (m : Gam) (k : Nat) (T : Fnl) : Prop := Sup T fun g => LeF g (gsm k m)
theorem Ups.mul {m : Gam} {i j : Nat} {S T : Fnl} (hS : Ups m i S) (hT : Ups m j T) : Ups m (i + j) (fmul S T) :=
  Sup.mul hS hT fun g h hg hh => by rw [← gsm_add]; exact hg.add hh
theorem Ups.one {m : Gam} : Ups m 0 fone := fun f k h => h _ (.inl (gsm_zero m).symm)
theorem Ups.pow {m : Gam} {S : Fnl} (h : Ups m 1 S) : ∀ k, Ups m k (fpow S k)
  | 0 => Ups.one
  | k + 1 => (Ups.pow h k).mul h
theorem Ups.down {m : Gam} {T : Fnl} {i j : Nat} (h : Ups m j T) (hm : GtF gz m) (hij : i ≤ j) : Ups m i T :=
  Sup.mono h fun g hg => by
    obtain ⟨k, rfl⟩ := Nat.exists_eq_add_of_le hij
    exact hg.trans (gsm_le hm i k)
/-- a test function that sees nothing at most n times m -/
def Off (m : Gam) (n : Nat) (f : Gam → Rat) : Prop := ∀ g, LeF g (gsm n m) → f g = 0
theorem Ups.off {m : Gam} {n : Nat} {T : Fnl} (h : Ups m n T) (hT : Lin T) {f : Gam → Rat} (hf : Off m n f) : T f = 0 :=
  (h f (fun _ => 0) hf).trans hT.zero
/-- all exponents lie in P -/
def ExP (P : Gam → Prop) : Sur → Prop
  | .nil => True
  | .cons e _ _ r => P (co e) ∧ ExP P r
theorem fn_sup {P : Gam → Prop} : ∀ {x : Sur}, ExP P x → Sup (fn x) P
  | .nil, _ => fun f k q => rfl
  | .cons e n d r, h => fun f k q => by
    have := fn_sup h.2 f k q
    simp only [fn]
    rw [q _ h.1, this]
/-- the exponents of a right number are at most its first one -/
theorem exP_lead {e : Sur} (he : e.All GOk) (de : Dec e) : ∀ {r : Sur}, ExG r → Lt e r → ExP (fun g => LeF g (co e)) r
  | .nil, _, _ => trivial
  | .cons e' n d r, h, hl => ⟨.inr (gt_of_order he de h.1.1 h.1.2 hl.1), exP_lead he de h.2 hl.2⟩
theorem fn_lead {e r : Sur} {n d : Int} (g : sGood (.cons e n d r) = true) : Sup (fn (.cons e n d r)) fun u => LeF u (co e) := by
  have h := sGood_exG g
  have k := sGood_g g
  exact fn_sup ⟨.inl rfl, exP_lead h.1.1 h.1.2 h.2 k.2.1⟩
theorem ExP.mono {P Q : Gam → Prop} (h : ∀ g, P g → Q g) : ∀ {x : Sur}, ExP P x → ExP Q x
  | .nil, _ => trivial
  | .cons _ _ _ _, k => ⟨h _ k.1, ExP.mono h k.2⟩
/-- the first exponent of a number all of whose exponents lie in P (as a functional) lies there -/
theorem lead_in {e r : Sur} {n d : Int} {P : Gam → Prop} (g : sGood (.cons e n d r) = true) (h : Sup (fn (.cons e n d r)) P) : P (co e) := by
  have hx := sGood_exG g
  have hg := sGood_g g
  by_cases hp : P (co e)
  · exact hp
  · have h1 := h (ind (co e)) (fun _ => 0) fun u hu => by
      have : u ≠ co e := fun q => hp (q ▸ hu)
      simp only [ind, if_neg this]
    rw [(fn_lin _).zero, fn_ind hx.1.1 hx.1.2 hx, co_self, co_lt hg.2.1] at h1
    exact absurd (by grind) (rat_ne hg.1.2.1)
end Go.Proofs.Ytphabopnbcgodaa

namespace Go.Proofs.Ytphabopnbcgodaa
set_option linter.unusedSimpArgs false
set_option linter.unusedVariables false

def sm : Nat → (Nat → Rat) → Rat
  | 0, _ => 0
  | n + 1, a => sm n a + a n
theorem sm_congr {a b : Nat → Rat} : ∀ {n : Nat}, (∀ i, i < n → a i = b i) → sm n a = sm n b
  | 0, _ => rfl
  | n + 1, h => by
    simp only [sm]
    rw [sm_congr (fun i hi => h i (by omega)), h n (by omega)]
theorem sm_add (a b : Nat → Rat) : ∀ n, sm n (fun i => a i + b i) = sm n a + sm n b
  | 0 => by simp only [sm]; grind
  | n + 1 => by simp only [sm]; rw [sm_add a b n]; grind
theorem sm_smul (c : Rat) (a : Nat → Rat) : ∀ n, sm n (fun i => c * a i) = c * sm n a
  | 0 => by simp only [sm]; grind
  | n + 1 => by simp only [sm]; rw [sm_smul c a n]; grind
theorem sm_zero : ∀ {n : Nat} {a : Nat → Rat}, (∀ i, i < n → a i = 0) → sm n a = 0
  | 0, _, _ => rfl
  | n + 1, a, h => by
    simp only [sm]
    rw [sm_zero (fun i hi => h i (by omega)), h n (by omega)]; grind
theorem sm_shift (a : Nat → Rat) : ∀ n, sm (n + 1) a = a 0 + sm n (fun i => a (i + 1))
  | 0 => by simp only [sm]; grind
  | n + 1 => by
    have := sm_shift a n
    simp only [sm] at this ⊢
    rw [this]; grind
theorem sm_swap (c : Nat → Nat → Rat) (m : Nat) : ∀ n, sm n (fun i => sm m (fun j => c i j)) = sm m (fun j => sm n (fun i => c i j))
  | 0 => by simp only [sm]; exact (sm_zero fun _ _ => rfl).symm
  | n + 1 => by
    simp only [sm]
    rw [sm_swap c m n, ← sm_add]
/-- what is 0 from m on need not be summed -/
theorem sm_cut {a : Nat → Rat} {m : Nat} : ∀ {n : Nat}, m ≤ n → (∀ i, m ≤ i → i < n → a i = 0) → sm n a = sm m a
  | 0, h, _ => by
    obtain rfl : m = 0 := by omega
    rfl
  | n + 1, h, k => by
    by_cases e : m = n + 1
    · subst e; rfl
    · simp only [sm]
      rw [sm_cut (n := n) (by omega) (fun i hi hn => k i hi (by omega)), k n (by omega) (by omega)]; grind
theorem sm_from {a : Nat → Rat} (i : Nat) : ∀ (n : Nat), sm n (fun j => a j) = sm (i + n) (fun k => if i ≤ k then a (k - i) else 0)
  | 0 => by
    rw [sm_zero (n := i + 0)]
    · rfl
    · intro k hk
      rw [if_neg (by omega)]
  | n + 1 => by
    rw [show i + (n + 1) = (i + n) + 1 by omega]
    simp only [sm]
    rw [sm_from i n, if_pos (by omega), show i + n - i = n by omega]
/-- a square of terms that are 0 beyond the diagonal -/
theorem sm_tri {b : Nat → Nat → Rat} {n : Nat} (h : ∀ i j, n ≤ i + j → b i j = 0) : sm n (fun i => sm n (fun j => b i j)) = sm n (fun k => sm (k + 1) (fun i => b i (k - i))) := by
  have e1 : sm n (fun i => sm n (fun j => b i j)) = sm n (fun i => sm n (fun k => if i ≤ k then b i (k - i) else 0)) := sm_congr fun i hi => by
    rw [sm_cut (m := n - i) (n := n) (by omega) (fun j hj hn => h i j (by omega)), sm_from (a := b i) i (n - i), show i + (n - i) = n by omega]
  rw [e1, sm_swap]
  exact sm_congr fun k hk => by
    rw [sm_cut (m := k + 1) (n := n) (by omega) (fun i hi hn => if_neg (by omega))]
    exact sm_congr fun i hi => if_pos (by omega)
theorem castS (k : Nat) : ((k + 1 : Nat) : Rat) = (k : Rat) + 1 := by exact_mod_cast rfl
theorem castP (k : Nat) : ((k + 1 : Nat) : Rat) ≠ 0 := by
  have : (k + 1 : Nat) ≠ 0 := by omega
  exact_mod_cast this
/-- the product rule -/
theorem sm_D (c : Nat → Nat → Rat) (k : Nat) : ((k + 1 : Nat) : Rat) * sm (k + 2) (fun i => c i (k + 1 - i)) = sm (k + 1) (fun i => ((i + 1 : Nat) : Rat) * c (i + 1) (k - i)) + sm (k + 1) (fun i => ((k - i + 1 : Nat) : Rat) * c i (k - i + 1)) := by
  rw [← sm_smul]
  have e : sm (k + 2) (fun i => ((k + 1 : Nat) : Rat) * c i (k + 1 - i)) = sm (k + 2) (fun i => (i : Rat) * c i (k + 1 - i) + ((k + 1 - i : Nat) : Rat) * c i (k + 1 - i)) := sm_congr fun i hi => by
    have : ((k + 1 : Nat) : Rat) = (i : Rat) + ((k + 1 - i : Nat) : Rat) := by
      have : k + 1 = i + (k + 1 - i) := by omega
      rw [this]
      have h2 : i + (k + 1 - i) - i = k + 1 - i := by omega
      rw [h2]
      exact_mod_cast rfl
    rw [this]; grind
  rw [e, sm_add, sm_shift]
  congr 1
  · rw [show ((0 : Nat) : Rat) = 0 from rfl]
    have : sm (k + 1) (fun i => ((i + 1 : Nat) : Rat) * c (i + 1) (k + 1 - (i + 1))) = sm (k + 1) (fun i => ((i + 1 : Nat) : Rat) * c (i + 1) (k - i)) := sm_congr fun i hi => by rw [show k + 1 - (i + 1) = k - i by omega]
    rw [this]; grind
  · simp only [sm]
    rw [show k + 1 - (k + 1) = 0 by omega, show ((0 : Nat) : Rat) = 0 from rfl]
    have : sm (k + 1) (fun i => ((k + 1 - i : Nat) : Rat) * c i (k + 1 - i)) = sm (k + 1) (fun i => ((k - i + 1 : Nat) : Rat) * c i (k - i + 1)) := sm_congr fun i hi => by rw [show k + 1 - i = k - i + 1 by omega]
    simp only [sm] at this
    rw [this]; grind

/- the coefficients -/
def ifac : Nat → Rat
  | 0 => 1
  | k + 1 => ifac k * rat 1 ((k + 1 : Nat) : Int)
theorem rat_one (k : Nat) : ((k + 1 : Nat) : Rat) * rat 1 ((k + 1 : Nat) : Int) = 1 := by
  unfold rat
  have := castP k
  rw [show (((k + 1 : Nat) : Int) : Rat) = ((k + 1 : Nat) : Rat) from rfl, show ((1 : Int) : Rat) = 1 from rfl]
  grind
theorem ifac_D (k : Nat) : ((k + 1 : Nat) : Rat) * ifac (k + 1) = ifac k := by
  have := rat_one k
  simp only [ifac]
  grind
/-- the steps of a power: the coefficients over 0 .. k -/
def bin (a : Rat) : Nat → Rat
  | 0 => 1
  | k + 1 => bin a k * ((a - k) * rat 1 ((k + 1 : Nat) : Int))
theorem bin_D (a : Rat) (k : Nat) : ((k + 1 : Nat) : Rat) * bin a (k + 1) = (a - k) * bin a k := by
  have := rat_one k
  simp only [bin]
  grind
/-- sums of exponents: Vandermonde's -/
theorem bin_add (a b : Rat) : ∀ k, sm (k + 1) (fun i => bin a i * bin b (k - i)) = bin (a + b) k
  | 0 => by
    show 0 + 1 * 1 = (1 : Rat)
    grind
  | k + 1 => by
    have h := sm_D (fun i j => bin a i * bin b j) k
    have ih := bin_add a b k
    have e1 : sm (k + 1) (fun i => ((i + 1 : Nat) : Rat) * (bin a (i + 1) * bin b (k - i))) = sm (k + 1) (fun i => (a - i) * (bin a i * bin b (k - i))) := sm_congr fun i hi => by
      have := bin_D a i
      grind
    have e2 : sm (k + 1) (fun i => ((k - i + 1 : Nat) : Rat) * (bin a i * bin b (k - i + 1))) = sm (k + 1) (fun i => (b - (k - i : Nat)) * (bin a i * bin b (k - i))) := sm_congr fun i hi => by
      have := bin_D b (k - i)
      grind
    rw [e1, e2, ← sm_add] at h
    have e3 : sm (k + 1) (fun i => (a - i) * (bin a i * bin b (k - i)) + (b - (k - i : Nat)) * (bin a i * bin b (k - i))) = sm (k + 1) (fun i => (a + b - k) * (bin a i * bin b (k - i))) := sm_congr fun i hi => by
      have : ((k - i : Nat) : Rat) = (k : Rat) - i := by
        have h1 : k = (k - i) + i := by omega
        have h2 : (k : Rat) = ((k - i : Nat) : Rat) + i := by
          have : (k : Rat) = (((k - i) + i : Nat) : Rat) := by rw [← h1]
          rw [this]; exact_mod_cast rfl
        grind
      rw [this]; grind
    rw [e3, sm_smul, ih] at h
    have h2 := bin_D (a + b) k
    have h3 := castP k
    grind
/-- (exp t - 1) -/
def wex (k : Nat) : Rat := if k = 0 then 0 else ifac k
def conv (a b : Nat → Rat) (k : Nat) : Rat := sm (k + 1) (fun i => a i * b (k - i))
def dlt (k : Nat) : Rat := if k = 0 then 1 else 0
/-- the powers of (exp t - 1) -/
def qex : Nat → Nat → Rat
  | 0, k => dlt k
  | i + 1, k => conv (qex i) wex k
theorem wex_D (k : Nat) : ((k + 1 : Nat) : Rat) * wex (k + 1) = wex k + dlt k := by
  have := ifac_D k
  unfold wex dlt
  rw [if_neg (by omega), this]
  split
  · rename_i h; subst h; simp only [ifac]; grind
  · grind
theorem conv_dlt (a : Nat → Rat) (k : Nat) : conv a dlt k = a k := by
  unfold conv
  simp only [sm]
  rw [sm_zero fun i hi => by simp only [dlt]; rw [if_neg (by omega)]; grind]
  simp only [dlt]
  rw [if_pos (by omega)]; grind
theorem dlt_conv (a : Nat → Rat) (k : Nat) : conv dlt a k = a k := by
  unfold conv
  rw [sm_shift]
  rw [sm_zero fun i hi => by simp only [dlt]; rw [if_neg (by omega)]; grind]
  show 1 * a (k - 0) + 0 = a k
  rw [Nat.sub_zero]; grind
theorem conv_D (a b : Nat → Rat) (k : Nat) : ((k + 1 : Nat) : Rat) * conv a b (k + 1) = conv (fun i => ((i + 1 : Nat) : Rat) * a (i + 1)) b k + conv a (fun j => ((j + 1 : Nat) : Rat) * b (j + 1)) k := by
  have h := sm_D (fun i j => a i * b j) k
  unfold conv
  rw [h]
  congr 1
  · exact sm_congr fun i hi => by grind
  · exact sm_congr fun i hi => by grind
theorem qex_D : ∀ i k, ((k + 1 : Nat) : Rat) * qex (i + 1) (k + 1) = ((i + 1 : Nat) : Rat) * (qex (i + 1) k + qex i k)
  | 0, k => by
    have e : ∀ j, qex 1 j = wex j := fun j => dlt_conv wex j
    show ((k + 1 : Nat) : Rat) * qex 1 (k + 1) = ((0 + 1 : Nat) : Rat) * (qex 1 k + qex 0 k)
    rw [e, e, wex_D]
    simp only [qex]
    rw [show ((0 + 1 : Nat) : Rat) = 1 from rfl]; grind
  | i + 1, k => by
    show ((k + 1 : Nat) : Rat) * conv (qex (i + 1)) wex (k + 1) = _
    rw [conv_D]
    have e1 : conv (fun j => ((j + 1 : Nat) : Rat) * qex (i + 1) (j + 1)) wex k = ((i + 1 : Nat) : Rat) * (qex (i + 2) k + qex (i + 1) k) := by
      have : conv (fun j => ((j + 1 : Nat) : Rat) * qex (i + 1) (j + 1)) wex k = sm (k + 1) (fun j => ((i + 1 : Nat) : Rat) * (qex (i + 1) j * wex (k - j) + qex i j * wex (k - j))) := sm_congr fun j hj => by
        simp only []
        rw [qex_D i j]; grind
      rw [this, sm_smul, sm_add]; rfl
    have e2 : conv (qex (i + 1)) (fun j => ((j + 1 : Nat) : Rat) * wex (j + 1)) k = qex (i + 2) k + qex (i + 1) k := by
      have : conv (qex (i + 1)) (fun j => ((j + 1 : Nat) : Rat) * wex (j + 1)) k = sm (k + 1) (fun j => qex (i + 1) j * wex (k - j) + qex (i + 1) j * dlt (k - j)) := sm_congr fun j hj => by
        simp only []
        rw [wex_D]; grind
      rw [this, sm_add]
      have := conv_dlt (qex (i + 1)) k
      unfold conv at this
      rw [this]; rfl
    rw [e1, e2]
    have := castS (i + 1)
    grind
theorem qex_low : ∀ i k, k < i → qex i k = 0
  | 0, k, h => by omega
  | i + 1, k, h => sm_zero fun j hj => by
    by_cases hji : j < i
    · rw [qex_low i j hji]; grind
    · obtain rfl : j = k := by omega
      rw [show j - j = 0 by omega]
      unfold wex
      rw [if_pos rfl]; grind
/-- (-1)^i -/
def sgA : Nat → Rat
  | 0 => 1
  | i + 1 => - sgA i
theorem sm_tele (b : Nat → Rat) : ∀ M, sm M (fun i => sgA i * (b (i + 1) + b i)) = b 0 - sgA M * b M
  | 0 => by simp only [sm, sgA]; grind
  | M + 1 => by
    simp only [sm, sgA]
    rw [sm_tele b M]; grind
/-- logarithms undo exponentials -/
theorem log_exp (n k : Nat) (h : k < n) : sm (n - 1) (fun i => sgA i * rat 1 ((i + 1 : Nat) : Int) * qex (i + 1) k) = if k = 1 then 1 else 0 := by
  cases k with
  | zero =>
    rw [sm_zero fun i hi => by rw [qex_low (i + 1) 0 (by omega)]; grind]
    rw [if_neg (by omega)]
  | succ k =>
    have e : ((k + 1 : Nat) : Rat) * sm (n - 1) (fun i => sgA i * rat 1 ((i + 1 : Nat) : Int) * qex (i + 1) (k + 1)) = sm (n - 1) (fun i => sgA i * (qex (i + 1) k + qex i k)) := by
      rw [← sm_smul]
      exact sm_congr fun i hi => by
        have h1 := qex_D i k
        have h2 := rat_one i
        grind
    rw [sm_tele (fun i => qex i k), qex_low (n - 1) k (by omega)] at e
    have h3 := castP k
    rw [show qex 0 k = if k = 0 then 1 else 0 from rfl] at e
    by_cases hk : k = 0
    · subst hk
      rw [if_pos rfl]
      rw [if_pos rfl] at e
      rw [show ((0 + 1 : Nat) : Rat) = 1 from rfl] at e
      grind
    · rw [if_neg (by omega)]
      rw [if_neg hk] at e
      grind
end Go.Proofs.Ytphabopnbcgodaa

namespace Go.Proofs.Ytphabopnbcgodaa

set_option linter.unusedSimpArgs false
set_option linter.unusedVariables false

theorem lin_sm {T : Fnl} (hT : Lin T) (c : Nat → Rat) (F : Nat → Gam → Rat) : ∀ n, T (fun g => sm n (fun j => c j * F j g)) = sm n (fun j => c j * T (F j))
  | 0 => hT.zero
  | n + 1 => by
    have h := hT 1 (c n) (fun g => sm n (fun j => c j * F j g)) (F n)
    have e : (fun g => 1 * sm n (fun j => c j * F j g) + c n * F n g) = fun g => sm (n + 1) (fun j => c j * F j g) := by funext g; simp only [sm]; grind
    rw [e, lin_sm hT c F n] at h
    rw [h]
    simp only [sm]
    grind
theorem ups_of_off {m : Gam} {n : Nat} {T : Fnl} (hT : Lin T) (h : ∀ f, Off m n f → T f = 0) : Ups m n T := fun f k hfk => by
  have e := hT 1 (-1) f k
  have h0 := h (fun g => 1 * f g + -1 * k g) fun g hg => by have := hfk g hg; grind
  rw [h0] at e
  grind
/-- a test function behind a factor with exponents of at most 0 -/
theorem Off.mul {m : Gam} {n j : Nat} {Z : Fnl} (hm : GtF gz m) (hZ : Ups m j Z) (lZ : Lin Z) {f : Gam → Rat} (hf : Off m n f) : Off m n fun g => Z fun h => f (gadd g h) := fun g hg => by
  refine (hZ _ (fun _ => 0) fun h hh => ?_).trans lZ.zero
  refine hf _ ?_
  have := hg.add hh
  rw [gsm_add] at this
  exact this.trans (gsm_le hm n j)

/- powers of a sum -/
def fad (X Y : Fnl) : Fnl := fun f => X f + Y f
def mono (X Y : Fnl) (i j : Nat) : Fnl := fmul (fpow X i) (fpow Y j)
theorem mono_step {X Y : Fnl} (hX : Nice X) (hY : Nice Y) (i j : Nat) (f : Gam → Rat) : fmul (mono X Y i j) (fad X Y) f = mono X Y (i + 1) j f + mono X Y i (j + 1) f := by
  have nm : Nice (mono X Y i j) := (hX.pow i).mul (hY.pow j)
  have e : fmul (mono X Y i j) (fad X Y) f = fmul (mono X Y i j) X f + fmul (mono X Y i j) Y f := congrFun (fmul_add_right nm X Y) f
  rw [e]
  congr 1
  · unfold mono
    rw [fmul_assoc, fmul_comm (hY.pow j) hX, ← fmul_assoc]; rfl
  · unfold mono
    rw [fmul_assoc]; rfl
/-- the binomial law, in divided powers -/
theorem pow_sum {X Y : Fnl} (hX : Nice X) (hY : Nice Y) : ∀ (k : Nat) (f : Gam → Rat), ifac k * fpow (fad X Y) k f = sm (k + 1) (fun i => ifac i * ifac (k - i) * mono X Y i (k - i) f)
  | 0, f => by
    have e : mono X Y 0 0 f = fone f := by unfold mono; rw [show fpow X 0 = fone from rfl, fone_mul]; rfl
    show (1 : Rat) * fone f = 0 + 1 * 1 * mono X Y 0 0 f
    rw [e]; grind
  | k + 1, f => by
    have ih := pow_sum hX hY k (fun g => fad X Y fun h => f (gadd g h))
    have e0 : ∀ i j, mono X Y i j (fun g => fad X Y fun h => f (gadd g h)) = mono X Y (i + 1) j f + mono X Y i (j + 1) f := fun i j => mono_step hX hY i j f
    have e1 : fpow (fad X Y) k (fun g => fad X Y fun h => f (gadd g h)) = fpow (fad X Y) (k + 1) f := rfl
    rw [e1] at ih
    have hD := sm_D (fun i j => ifac i * ifac j * mono X Y i j f) k
    have e2 : sm (k + 1) (fun i => ifac i * ifac (k - i) * mono X Y i (k - i) (fun g => fad X Y fun h => f (gadd g h))) = sm (k + 1) (fun i => ((i + 1 : Nat) : Rat) * (ifac (i + 1) * ifac (k - i) * mono X Y (i + 1) (k - i) f) + ((k - i + 1 : Nat) : Rat) * (ifac i * ifac (k - i + 1) * mono X Y i (k - i + 1) f)) := sm_congr fun i hi => by
      have h1 := ifac_D i
      have h2 := ifac_D (k - i)
      rw [e0, ← h1, ← h2]
      have h3 : ifac (i + 1) = rat 1 ((i + 1 : Nat) : Int) * ifac i := by simp only [ifac]; grind
      have h4 : ifac (k - i + 1) = rat 1 ((k - i + 1 : Nat) : Int) * ifac (k - i) := by simp only [ifac]; grind
      grind
    rw [e2, sm_add, ← hD] at ih
    have h5 := ifac_D k
    have h6 := castP k
    have h7 : ((k + 1 : Nat) : Rat) * (ifac (k + 1) * fpow (fad X Y) (k + 1) f) = ((k + 1 : Nat) : Rat) * sm (k + 2) (fun i => ifac i * ifac (k + 1 - i) * mono X Y i (k + 1 - i) f) := by
      rw [← ih, ← h5]; grind
    grind
theorem mono_off {X Y : Fnl} (hX : Nice X) (hY : Nice Y) {m : Gam} (hm : GtF gz m) (uX : Ups m 1 X) (uY : Ups m 1 Y) {n : Nat} {f : Gam → Rat} (hf : Off m n f) (i j : Nat) (h : n ≤ i + j) : mono X Y i j f = 0 :=
  (((uX.pow i).mul (uY.pow j)).down hm h).off ((hX.pow i).mul (hY.pow j)).lin hf
/-- the product of two exponentials, as far as a test function sees -/
theorem exp_prod {X Y : Fnl} (hX : Nice X) (hY : Nice Y) {m : Gam} (hm : GtF gz m) (uX : Ups m 1 X) (uY : Ups m 1 Y) {n : Nat} {f : Gam → Rat} (hf : Off m n f) :
    sm n (fun i => ifac i * fpow X i (fun g => sm n (fun j => ifac j * fpow Y j (fun h => f (gadd g h))))) = sm n (fun k => ifac k * fpow (fad X Y) k f) := by
  have e1 : sm n (fun i => ifac i * fpow X i (fun g => sm n (fun j => ifac j * fpow Y j (fun h => f (gadd g h))))) = sm n (fun i => sm n (fun j => ifac i * ifac j * mono X Y i j f)) := sm_congr fun i hi => by
    rw [lin_sm (hX.pow i).lin ifac (fun j g => fpow Y j (fun h => f (gadd g h))) n, ← sm_smul]
    exact sm_congr fun j hj => by
      have : fpow X i (fun g => fpow Y j (fun h => f (gadd g h))) = mono X Y i j f := rfl
      rw [this]; grind
  rw [e1, sm_tri (b := fun i j => ifac i * ifac j * mono X Y i j f) fun i j hij => by
    have := mono_off hX hY hm uX uY hf i j hij
    rw [this]; grind]
  exact sm_congr fun k hk => (pow_sum hX hY k f).symm
/-- the powers of (exp x - 1), as far as a test function sees -/
theorem pow_exp {X Z : Fnl} (hX : Nice X) (hZ : Nice Z) {m : Gam} (hm : GtF gz m) (uX : Ups m 1 X) {n : Nat} (eZ : ∀ f, Z f = sm n (fun j => wex j * fpow X j f)) : ∀ (i : Nat) (f : Gam → Rat), Off m n f → fpow Z i f = sm n (fun k => qex i k * fpow X k f)
  | 0, f, hf => by
    by_cases hn : n = 0
    · subst hn
      exact Ups.off (m := m) (n := 0) Ups.one fone_nice.lin hf
    · obtain ⟨n', rfl⟩ : ∃ n', n = n' + 1 := ⟨n - 1, by omega⟩
      rw [sm_shift, sm_zero fun i hi => by simp only [qex, dlt]; rw [if_neg (by omega)]; grind]
      show fone f = (if 0 = 0 then 1 else 0) * fone f + 0
      rw [if_pos rfl]; grind
  | i + 1, f, hf => by
    have uZ : Ups m 0 Z := fun a b hab => by
      rw [eZ, eZ]
      refine sm_congr fun j hj => ?_
      rw [((uX.pow j).down hm (Nat.zero_le j)) a b hab]
    have ih := pow_exp hX hZ hm uX eZ i (fun g => Z fun h => f (gadd g h)) (Off.mul hm uZ hZ.lin hf)
    have e1 : fpow Z (i + 1) f = fpow Z i (fun g => Z fun h => f (gadd g h)) := rfl
    rw [e1, ih]
    have e2 : sm n (fun k => qex i k * fpow X k (fun g => Z fun h => f (gadd g h))) = sm n (fun k => sm n (fun j => qex i k * wex j * fpow X (k + j) f)) := sm_congr fun k hk => by
      have : (fun g => Z fun h => f (gadd g h)) = fun g => sm n (fun j => wex j * fpow X j (fun h => f (gadd g h))) := by funext g; exact eZ _
      rw [this, lin_sm (hX.pow k).lin wex (fun j g => fpow X j (fun h => f (gadd g h))) n, ← sm_smul]
      exact sm_congr fun j hj => by
        have : fpow X k (fun g => fpow X j (fun h => f (gadd g h))) = fpow X (k + j) f := congrFun (fpow_add k j) f
        rw [this]; grind
    rw [e2, sm_tri (b := fun k j => qex i k * wex j * fpow X (k + j) f) fun k j hkj => by
      have : fpow X (k + j) f = 0 := ((uX.pow (k + j)).down hm hkj).off (hX.pow _).lin hf
      rw [this]; grind]
    refine sm_congr fun k hk => ?_
    simp only [qex]
    unfold conv
    have : sm (k + 1) (fun j => qex i j * wex (k - j) * fpow X (j + (k - j)) f) = sm (k + 1) (fun j => fpow X k f * (qex i j * wex (k - j))) := sm_congr fun j hj => by
      rw [show j + (k - j) = k by omega]; grind
    rw [this, sm_smul]; grind
/-- the logarithm of an exponential -/
theorem log_exp_f {X Z : Fnl} (hX : Nice X) (hZ : Nice Z) {m : Gam} (hm : GtF gz m) (uX : Ups m 1 X) {n : Nat} (hn : 2 ≤ n) (eZ : ∀ f, Z f = sm n (fun j => wex j * fpow X j f)) {f : Gam → Rat} (hf : Off m n f) :
    sm (n - 1) (fun i => sgA i * rat 1 ((i + 1 : Nat) : Int) * fpow Z (i + 1) f) = X f := by
  have e1 : sm (n - 1) (fun i => sgA i * rat 1 ((i + 1 : Nat) : Int) * fpow Z (i + 1) f) = sm (n - 1) (fun i => sm n (fun k => sgA i * rat 1 ((i + 1 : Nat) : Int) * qex (i + 1) k * fpow X k f)) := sm_congr fun i hi => by
    rw [pow_exp hX hZ hm uX eZ (i + 1) f hf, ← sm_smul]
    exact sm_congr fun k hk => by grind
  rw [e1, sm_swap]
  have e2 : sm n (fun k => sm (n - 1) (fun i => sgA i * rat 1 ((i + 1 : Nat) : Int) * qex (i + 1) k * fpow X k f)) = sm n (fun k => (if k = 1 then 1 else 0) * fpow X k f) := sm_congr fun k hk => by
    rw [← log_exp n k hk]
    have : sm (n - 1) (fun i => sgA i * rat 1 ((i + 1 : Nat) : Int) * qex (i + 1) k * fpow X k f) = sm (n - 1) (fun i => fpow X k f * (sgA i * rat 1 ((i + 1 : Nat) : Int) * qex (i + 1) k)) := sm_congr fun i hi => by grind
    rw [this, sm_smul]; grind
  rw [e2]
  obtain ⟨n', rfl⟩ : ∃ n', n = n' + 2 := ⟨n - 2, by omega⟩
  rw [sm_shift, sm_shift, sm_zero fun i hi => by rw [if_neg (by omega)]; grind]
  rw [if_neg (by omega), if_pos (by omega)]
  have : fpow X (0 + 1) f = X f := congrFun (fone_mul X) f
  rw [this]; grind
end Go.Proofs.Ytphabopnbcgodaa
