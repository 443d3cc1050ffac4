/-
  The parts of a number make it up. Plain.
  The integer part is an omnific integer less than 1 below the number. Plain.
-/
import Derived.Test.YtphabopnbcgodaaSMapFn
import Derived.Test.YtphabopnbcgodaaSParts
import Derived.Test.YtphabopnbcgodaaPB
import Derived.Test.YtphabopnbcgodaaPA
namespace Go.Proofs.Ytphabopnbcgodaa
open Go.RowKit
set_option linter.unusedSimpArgs false
set_option linter.unusedVariables false

/-- where all exponents are below 0 -/
theorem parts_low : ∀ {x : Sur} {a : Int × Int}, x.All GOk → Lt .nil x → highP x = .nil ∧ lowP x = x ∧ realP a x = a
  | .nil, _, _, _ => ⟨rfl, rfl, rfl⟩
  | .cons e n d r, a, hx, h => by
    have q := order_flip.2 h.1
    obtain ⟨h1, h2, h3⟩ := parts_low (a := a) hx.2.2 h.2
    refine ⟨?_, ?_, ?_⟩
    · simp only [highP]; rw [if_neg (by omega)]; exact h1
    · simp only [lowP]; rw [if_pos q, h2]
    · simp only [realP]; rw [if_neg (by omega)]; exact h3
/-- what the parts are: those above 0, that of 0, those below -/
theorem parts_split : ∀ {x : Sur}, x.All GOk → Dec x → x = ((highP x).app (termP .nil (realP (0, 1) x).1 (realP (0, 1) x).2)).app (lowP x)
  | .nil, _, _ => by simp [highP, lowP, realP, termP, Sur.app]
  | .cons e n d r, hx, dx => by
    rcases order_range e .nil with q | q | q
    · have hl : Lt .nil r := Lt.tr (show Sur.All GOk .nil from trivial) hx.1 (order_flip.1 q) hx.2.2 dx.1
      obtain ⟨h1, h2, h3⟩ := parts_low (a := (0, 1)) hx.2.2 hl
      simp only [highP, lowP, realP]
      rw [if_neg (by omega), if_neg (by omega), if_pos q, h1, h2, h3]
      simp [termP, Sur.app]
    · obtain rfl := order_eqI hx.1 (show Sur.All GOk .nil from trivial) q
      obtain ⟨h1, h2, h3⟩ := parts_low (a := (n, d)) hx.2.2 dx.1
      simp only [highP, lowP, realP]
      rw [if_neg (by omega), if_pos q, if_neg (by omega), h1, h2, h3]
      have := hx.2.1.2
      simp [termP, this, Sur.app]
    · have ih := parts_split hx.2.2 dx.2
      simp only [highP, lowP, realP]
      rw [if_pos q, if_neg (by omega), if_neg (by omega)]
      simp only [Sur.app]
      rw [← ih]

theorem formT_none {deep : Int} {p : Option Sur} : ∀ {y : Sur}, formT deep p y = true → formT deep none y = true
  | .nil, _ => rfl
  | .cons e n d r, h => by
    simp only [formT, Bool.and_eq_true] at h ⊢
    exact ⟨h.1, h.2.1, h.2.2.1, h.2.2.2.1, rfl, h.2.2.2.2.2⟩
theorem formT_pre {deep : Int} {y : Sur} : ∀ {x : Sur} {p : Option Sur}, formT deep p (x.app y) = true → formT deep p x = true
  | .nil, _, _ => rfl
  | .cons e n d r, p, h => by
    simp only [Sur.app, formT, Bool.and_eq_true] at h ⊢
    exact ⟨h.1, h.2.1, h.2.2.1, h.2.2.2.1, h.2.2.2.2.1, formT_pre h.2.2.2.2.2⟩
theorem formT_suf {deep : Int} {y : Sur} : ∀ {x : Sur} {p : Option Sur}, formT deep p (x.app y) = true → formT deep none y = true
  | .nil, _, h => formT_none h
  | .cons e n d r, p, h => by
    simp only [Sur.app, formT, Bool.and_eq_true] at h
    exact formT_suf h.2.2.2.2.2
theorem nodes_app : ∀ (x y : Sur), (x.app y).nodes + 1 = x.nodes + y.nodes
  | .nil, y => by simp only [Sur.app, Sur.nodes]; omega
  | .cons e n d r, y => by have := nodes_app r y; simp only [Sur.app, Sur.nodes]; omega
theorem sGood_iff (x : Sur) : sGood x = true ↔ (x.nodes : Int) ≤ 60 ∧ formT 0 none x = true := by
  unfold sGood sOk
  simp
theorem sGood_pre {x y : Sur} (h : sGood (x.app y) = true) : sGood x = true := by
  have h := (sGood_iff _).1 h
  have h1 := nodes_app x y
  have h2 := y.nodes_pos
  exact (sGood_iff _).2 ⟨by omega, formT_pre h.2⟩
theorem sGood_suf {x y : Sur} (h : sGood (x.app y) = true) : sGood y = true := by
  have h := (sGood_iff _).1 h
  have h1 := nodes_app x y
  have h2 := x.nodes_pos
  exact (sGood_iff _).2 ⟨by omega, formT_suf h.2⟩
/-- exponents that all lie above: the sum is the row behind the row -/
def Above (y : Sur) : Sur → Prop
  | .nil => True
  | .cons e _ _ r => Lt e y ∧ Above y r
theorem sumP_above {y : Sur} : ∀ {x : Sur}, Above y x → sumP x y = some (x.app y)
  | .nil, _ => by simp [sumP, Sur.app]
  | .cons e n d r, h => by
    have ih := sumP_above h.2
    cases y with
    | nil => simp [sumP, Sur.app_nil]
    | cons e' n' d' r' => rw [sumP, if_pos h.1.1, ih]; rfl
theorem above_of {y : Sur} : ∀ {x : Sur}, x.All GOk → y.All GOk → Dec (x.app y) → Above y x
  | .nil, _, _, _ => trivial
  | .cons e n d r, hx, hy, dx => by
    have key : ∀ (r : Sur), Lt e (r.app y) → Lt e y := fun r => by
      induction r with
      | nil => exact id
      | cons e2 n2 d2 r2 _ ih => exact fun h => ih h.2
    exact ⟨key r dx.1, above_of hx.2.2 hy dx.2⟩
theorem addS_app {x y : Sur} (h : sGood (x.app y) = true) : addS x y = some (x.app y) := by
  have hg := sGood_g h
  have gx := sGood_pre h
  have gy := sGood_suf h
  exact addS_of gx gy (sumP_above (above_of (sGood_g gx).1 (sGood_g gy).1 hg.2)) h
/-- the parts of a right number make it up -/
theorem parts_sum {x : Sur} (g : sGood x = true) : addS (highP x) (termP .nil (realP (0, 1) x).1 (realP (0, 1) x).2) = some ((highP x).app (termP .nil (realP (0, 1) x).1 (realP (0, 1) x).2)) ∧ addS ((highP x).app (termP .nil (realP (0, 1) x).1 (realP (0, 1) x).2)) (lowP x) = some x := by
  have e := parts_split (sGood_g g).1 (sGood_g g).2
  have g2 := g
  rw [e] at g2
  refine ⟨addS_app (sGood_pre g2), ?_⟩
  have := addS_app g2
  rw [← e] at this
  exact this

theorem order_app {a b : Sur} : ∀ (h : Sur), order (h.app a) (h.app b) = order a b
  | .nil => rfl
  | .cons e n d r => by
    simp only [Sur.app, order]
    rw [order_self, if_neg (by omega), if_neg (by omega), cmpF_self, if_neg (by omega)]
    exact order_app r
theorem order_fin {x y : Sur} (h : order x y = 1) : 0 < order x y := by omega
/-- the parts of a row of exponents above 0, and a term of 0 behind it -/
theorem highP_all1 : ∀ {x : Sur}, highP (highP x) = highP x ∧ lowP (highP x) = .nil ∧ ∀ a, realP a (highP x) = a
  | .nil => ⟨rfl, rfl, fun _ => rfl⟩
  | .cons e n d r => by
    obtain ⟨h1, h2, h3⟩ := highP_all1 (x := r)
    simp only [highP]
    split
    · rename_i q
      refine ⟨?_, ?_, fun a => ?_⟩
      · simp only [highP]; rw [if_pos q, h1]
      · simp only [lowP]; rw [if_neg (by omega), h2]
      · simp only [realP]; rw [if_neg (by omega), h3]
    · exact ⟨h1, h2, h3⟩
theorem parts_whole (x : Sur) (m : Int) : highP ((highP x).app (termP .nil m 1)) = highP x ∧ lowP ((highP x).app (termP .nil m 1)) = .nil ∧ (realP (0, 1) ((highP x).app (termP .nil m 1))).2 = 1 := by
  obtain ⟨h1, h2, h3⟩ := highP_all1 (x := x)
  rw [highP_app, lowP_app, realP_app, h1, h2, h3]
  unfold termP
  split
  · simp [highP, lowP, realP, Sur.app, Sur.app_nil]
  · have q : order .nil .nil = 0 := order_self .nil
    simp [highP, lowP, realP, q, Sur.app, Sur.app_nil]
end Go.Proofs.Ytphabopnbcgodaa

namespace Go.Proofs.Ytphabopnbcgodaa
open Go.RowKit
set_option linter.unusedSimpArgs false
set_option linter.unusedVariables false

theorem co_app : ∀ (x y : Sur) (f : Sur), co (x.app y) f = co x f + co y f
  | .nil, y, f => by simp only [Sur.app, co]; grind
  | .cons e n d r, y, f => by
    have := co_app r y f
    simp only [Sur.app, co]
    grind
theorem lowP_lt : ∀ (x : Sur), Lt .nil (lowP x)
  | .nil => trivial
  | .cons e n d r => by
    simp only [lowP]
    split
    · rename_i q
      exact ⟨order_flip.1 q, lowP_lt r⟩
    · exact lowP_lt r
theorem termP_at (p q : Int) : co (termP .nil p q) .nil = rat p q := by
  rw [co_term]; simp only [co]; grind
theorem termP_off {p q : Int} {f : Sur} (h : f ≠ .nil) : co (termP .nil p q) f = 0 := by
  rw [co_term]; simp only [co]
  rw [if_neg (fun k => h k.symm)]; grind
theorem one_at : co (.cons .nil 1 1 .nil) .nil = 1 := by
  rw [co_self]; simp only [co]; unfold rat; grind
theorem one_off {f : Sur} (h : f ≠ .nil) : co (.cons .nil 1 1 .nil) f = 0 := by
  rw [co_ne (fun k => h k.symm)]; simp only [co]
/-- a right number's parts -/
theorem parts_good {x : Sur} (g : sGood x = true) : sGood (termP .nil (realP (0, 1) x).1 (realP (0, 1) x).2) = true ∧ sGood (lowP x) = true ∧ sGood (highP x) = true := by
  have e := parts_split (sGood_g g).1 (sGood_g g).2
  have g2 := g
  rw [e] at g2
  exact ⟨sGood_suf (sGood_pre g2), sGood_suf g2, sGood_pre (sGood_pre g2)⟩
theorem real_ok {x : Sur} (g : sGood x = true) : FOk (realP (0, 1) x).1 (realP (0, 1) x).2 := realP_ok (sGood_len g).2.2 (show fracOk 0 1 = true by decide)
theorem from_real {x : Sur} (g : sGood x = true) : fromS (realP (0, 1) x).1 (realP (0, 1) x).2 = some (termP .nil (realP (0, 1) x).1 (realP (0, 1) x).2) := by
  have h1 := (parts_good g).1
  have h2 : fracOk (realP (0, 1) x).1 (realP (0, 1) x).2 = true := real_ok g
  unfold fromS told
  rw [h1, h2]; rfl
theorem co_parts {x : Sur} (g : sGood x = true) (f : Sur) : co x f = co (highP x) f + co (termP .nil (realP (0, 1) x).1 (realP (0, 1) x).2) f + co (lowP x) f := by
  have e := parts_split (sGood_g g).1 (sGood_g g).2
  rw [← co_app, ← co_app, ← e]
theorem co_whole (x f : Sur) : co (wholeS x) f = co (highP x) f + co (termP .nil (wholeN x) 1) f := by
  unfold wholeS; exact co_app _ _ f
/-- the whole part's number against the real part -/
theorem wholeN_spec {x : Sur} (g : sGood x = true) : (rat (wholeN x) 1 < rat (realP (0, 1) x).1 (realP (0, 1) x).2 ∨ ((realP (0, 1) x).1 = wholeN x ∧ (realP (0, 1) x).2 = 1 ∧ ¬ order (lowP x) .nil < 0)) ∧ (rat (realP (0, 1) x).1 (realP (0, 1) x).2 < rat (wholeN x) 1 + 1 ∨ ((realP (0, 1) x).1 = wholeN x + 1 ∧ (realP (0, 1) x).2 = 1 ∧ order (lowP x) .nil < 0)) := by
  have ok := real_ok g
  have hf := flr_spec ok
  unfold wholeN
  generalize order (lowP x) .nil = L at *
  generalize (realP (0, 1) x).1 = p at *
  generalize (realP (0, 1) x).2 = q at *
  have hq := ok.pos
  obtain ⟨h1, h2, h3, h4⟩ := hf
  have key : ∀ m : Int, rat m 1 + 1 = rat (m + 1) 1 := fun m => by
    unfold rat
    rw [show ((m + 1 : Int) : Rat) = (m : Rat) + 1 by exact_mod_cast rfl]
    grind
  rw [key, rat_lt (by omega) hq, rat_lt hq (by omega)]
  split
  · rename_i h
    obtain ⟨rfl, hL⟩ := h
    simp only [Int.mul_one] at *
    constructor
    · left; omega
    · right; exact ⟨by omega, trivial, hL⟩
  · rename_i h
    constructor
    · by_cases e : flr p q * q = p
      · have q1 : q = 1 := by
          have hg := (fracOk_iff.1 ok).2.2.2.2
          rw [← e] at hg
          have hd : q ∣ ((Int.gcd (flr p q * q) q : Nat) : Int) := Int.dvd_coe_gcd (Int.dvd_mul_left _ _) (Int.dvd_refl _)
          rw [hg] at hd
          have := Int.le_of_dvd (by omega) hd
          omega
        subst q1
        right
        refine ⟨by omega, rfl, fun hL => h ⟨rfl, hL⟩⟩
      · left
        omega
    · left
      omega

/-- the integer part is at most the number; it is the number where that is omnific -/
theorem whole_le {x : Sur} (g : sGood x = true) (gn : sGood (wholeS x) = true) : order (wholeS x) x ≤ 0 := by
  have hn := sGood_g gn
  have hx := sGood_g g
  have hl := sGood_g (parts_good g).2.1
  rcases (wholeN_spec g).1 with h | ⟨h1, h2, h3⟩
  · have : order x (wholeS x) = 1 := order_of_gt hx.1 hx.2 hn.1 hn.2 ⟨.nil, trivial, by rw [co_parts g, co_whole, termP_at, termP_at, co_lt (lowP_lt x)]; grind, fun k hk hq => by
      have hne : k ≠ .nil := order_ne hq
      rw [co_parts g, co_whole, termP_off hne, termP_off hne, co_lt (Lt.tr hk (show Sur.All GOk .nil from trivial) hq hl.1 (lowP_lt x))]; grind⟩
    have := order_flip.2 this
    omega
  · rcases order_range (lowP x) .nil with q | q | q
    · omega
    · have e := order_eqI hl.1 (show Sur.All GOk .nil from trivial) q
      have : wholeS x = x := good_inj gn g fun f => by rw [co_parts g, co_whole, h1, h2, e]; simp only [co]; grind
      rw [this, order_self]; omega
    · have k := gt_of_order hl.1 hl.2 (show Sur.All GOk .nil from trivial) (show Dec .nil from trivial) q
      have : order x (wholeS x) = 1 := order_of_gt hx.1 hx.2 hn.1 hn.2 ((k.addEq (u' := co (wholeS x)) (v' := co (wholeS x)) fun _ => rfl).congr (fun f => by rw [co_parts g, co_whole, h1, h2]; grind) (fun f => by simp only [co]; grind))
      have := order_flip.2 this
      omega
theorem whole_eq {x : Sur} (g : sGood x = true) (gn : sGood (wholeS x) = true) (h : omnB x = true) : wholeS x = x := by
  simp only [omnB, g, Bool.true_and, Bool.and_eq_true, decide_eq_true_eq] at h
  have e : lowP x = .nil := by
    cases hq : lowP x with
    | nil => rfl
    | cons e n d r => rw [hq] at h; simp [Sur.len] at h
  have hw : wholeN x = (realP (0, 1) x).1 := by
    rcases (wholeN_spec g).1 with k | ⟨h1, _, _⟩
    · rcases (wholeN_spec g).2 with k2 | ⟨_, _, h3⟩
      · rw [h.1] at k k2
        have key : rat (wholeN x) 1 + 1 = rat (wholeN x + 1) 1 := by
          unfold rat
          rw [show ((wholeN x + 1 : Int) : Rat) = (wholeN x : Rat) + 1 by exact_mod_cast rfl]
          grind
        rw [key] at k2
        have a := (rat_lt (by omega) (by omega)).1 k
        have b := (rat_lt (by omega) (by omega)).1 k2
        omega
      · rw [e, order_self] at h3; omega
    · exact h1.symm
  exact good_inj gn g fun f => by rw [co_parts g, co_whole, hw, h.1, e]; simp only [co]; grind
theorem whole_omn {x : Sur} (gn : sGood (wholeS x) = true) : omnB (wholeS x) = true := by
  have h := parts_whole x (wholeN x)
  simp only [omnB, gn, Bool.true_and, Bool.and_eq_true, decide_eq_true_eq]
  exact ⟨h.2.2, by rw [show lowP (wholeS x) = .nil from h.2.1]; rfl⟩
/-- and 1 more is above it -/
theorem whole_next {x z : Sur} (g : sGood x = true) (h : addS (wholeS x) (.cons .nil 1 1 .nil) = some z) : order z x = 1 := by
  have hx := sGood_g g
  have hz := sGood_g (addS_good h)
  have hl := sGood_g (parts_good g).2.1
  have hc := co_addS h
  rcases (wholeN_spec g).2 with k | ⟨h1, h2, h3⟩
  · refine order_of_gt hz.1 hz.2 hx.1 hx.2 ⟨.nil, trivial, ?_, fun k hk hq => ?_⟩
    · rw [hc, co_parts g, co_whole, termP_at, termP_at, one_at, co_lt (lowP_lt x)]; grind
    · have hne : k ≠ .nil := order_ne hq
      rw [hc, co_parts g, co_whole, termP_off hne, termP_off hne, one_off hne, co_lt (Lt.tr hk (show Sur.All GOk .nil from trivial) hq hl.1 (lowP_lt x))]
  · have q : order (lowP x) .nil = -1 := by rcases order_range (lowP x) .nil with q | q | q <;> omega
    have k := gt_of_order (show Sur.All GOk .nil from trivial) (show Dec .nil from trivial) hl.1 hl.2 (order_flip.1 q)
    have key : ∀ f, co (termP .nil (realP (0, 1) x).1 (realP (0, 1) x).2) f = co (termP .nil (wholeN x) 1) f + co (.cons .nil 1 1 .nil) f := fun f => by
      by_cases hne : f = .nil
      · subst hne
        rw [termP_at, termP_at, one_at, h1, h2]
        unfold rat
        rw [show ((wholeN x + 1 : Int) : Rat) = (wholeN x : Rat) + 1 by exact_mod_cast rfl]
        grind
      · rw [termP_off hne, termP_off hne, one_off hne]; grind
    refine order_of_gt hz.1 hz.2 hx.1 hx.2 ((k.addEq (u' := co z) (v' := co z) fun _ => rfl).congr (fun f => by simp only [co]; grind) (fun f => ?_))
    rw [co_parts g, hc, co_whole, key]; grind
end Go.Proofs.Ytphabopnbcgodaa
