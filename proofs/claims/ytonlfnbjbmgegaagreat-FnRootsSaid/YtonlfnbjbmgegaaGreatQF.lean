/-
  The parts of a number make it up. Plain.
  Quotients: what the program and the reference compute, and that it is a quotient. Plain.
-/
import Derived.Test.YtonlfnbjbmgegaaGreatBF
import Derived.Test.YtonlfnbjbmgegaaGreatSParts
import Derived.Test.YtonlfnbjbmgegaaGreatBL
import Derived.Test.YtonlfnbjbmgegaaGreatBJ
namespace Go.Proofs.YtonlfnbjbmgegaaGreat
open Go.RowKit
set_option linter.unusedSimpArgs false
set_option linter.unusedVariables false

/-- where all exponents are below 0 -/
theorem parts_low : ∀ {x : Sur} {a : Int × Int}, x.All GOk → Lt .nil x → highP x = .nil ∧ lowP x = x ∧ realP a x = a
  | .nil, _, _, _ => ⟨rfl, rfl, rfl⟩
  | .cons e n d r, a, hx, h => by
    have q := order_flip.2 h.1
    obtain ⟨h1, h2, h3⟩ := parts_low (a := a) hx.2.2 h.2
    refine ⟨?_, ?_, ?_⟩
    · simp only [highP]; rw [if_neg (by omega)]; exact h1
    · simp only [lowP]; rw [if_pos q, h2]
    · simp only [realP]; rw [if_neg (by omega)]; exact h3
/-- what the parts are: those above 0, that of 0, those below -/
theorem parts_split : ∀ {x : Sur}, x.All GOk → Dec x → x = ((highP x).app (termP .nil (realP (0, 1) x).1 (realP (0, 1) x).2)).app (lowP x)
  | .nil, _, _ => by simp [highP, lowP, realP, termP, Sur.app]
  | .cons e n d r, hx, dx => by
    rcases order_range e .nil with q | q | q
    · have hl : Lt .nil r := Lt.tr (show Sur.All GOk .nil from trivial) hx.1 (order_flip.1 q) hx.2.2 dx.1
      obtain ⟨h1, h2, h3⟩ := parts_low (a := (0, 1)) hx.2.2 hl
      simp only [highP, lowP, realP]
      rw [if_neg (by omega), if_neg (by omega), if_pos q, h1, h2, h3]
      simp [termP, Sur.app]
    · obtain rfl := order_eqI hx.1 (show Sur.All GOk .nil from trivial) q
      obtain ⟨h1, h2, h3⟩ := parts_low (a := (n, d)) hx.2.2 dx.1
      simp only [highP, lowP, realP]
      rw [if_neg (by omega), if_pos q, if_neg (by omega), h1, h2, h3]
      have := hx.2.1.2
      simp [termP, this, Sur.app]
    · have ih := parts_split hx.2.2 dx.2
      simp only [highP, lowP, realP]
      rw [if_pos q, if_neg (by omega), if_neg (by omega)]
      simp only [Sur.app]
      rw [← ih]

theorem formT_none {deep : Int} {p : Option Sur} : ∀ {y : Sur}, formT deep p y = true → formT deep none y = true
  | .nil, _ => rfl
  | .cons e n d r, h => by
    simp only [formT, Bool.and_eq_true] at h ⊢
    exact ⟨h.1, h.2.1, h.2.2.1, h.2.2.2.1, rfl, h.2.2.2.2.2⟩
theorem formT_pre {deep : Int} {y : Sur} : ∀ {x : Sur} {p : Option Sur}, formT deep p (x.app y) = true → formT deep p x = true
  | .nil, _, _ => rfl
  | .cons e n d r, p, h => by
    simp only [Sur.app, formT, Bool.and_eq_true] at h ⊢
    exact ⟨h.1, h.2.1, h.2.2.1, h.2.2.2.1, h.2.2.2.2.1, formT_pre h.2.2.2.2.2⟩
theorem formT_suf {deep : Int} {y : Sur} : ∀ {x : Sur} {p : Option Sur}, formT deep p (x.app y) = true → formT deep none y = true
  | .nil, _, h => formT_none h
  | .cons e n d r, p, h => by
    simp only [Sur.app, formT, Bool.and_eq_true] at h
    exact formT_suf h.2.2.2.2.2
theorem nodes_app : ∀ (x y : Sur), (x.app y).nodes + 1 = x.nodes + y.nodes
  | .nil, y => by simp only [Sur.app, Sur.nodes]; omega
  | .cons e n d r, y => by have := nodes_app r y; simp only [Sur.app, Sur.nodes]; omega
theorem sGood_iff (x : Sur) : sGood x = true ↔ (x.nodes : Int) ≤ 60 ∧ formT 0 none x = true := by
  unfold sGood sOk
  simp
theorem sGood_pre {x y : Sur} (h : sGood (x.app y) = true) : sGood x = true := by
  have h := (sGood_iff _).1 h
  have h1 := nodes_app x y
  have h2 := y.nodes_pos
  exact (sGood_iff _).2 ⟨by omega, formT_pre h.2⟩
theorem sGood_suf {x y : Sur} (h : sGood (x.app y) = true) : sGood y = true := by
  have h := (sGood_iff _).1 h
  have h1 := nodes_app x y
  have h2 := x.nodes_pos
  exact (sGood_iff _).2 ⟨by omega, formT_suf h.2⟩
/-- exponents that all lie above: the sum is the row behind the row -/
def Above (y : Sur) : Sur → Prop
  | .nil => True
  | .cons e _ _ r => Lt e y ∧ Above y r
theorem sumP_above {y : Sur} : ∀ {x : Sur}, Above y x → sumP x y = some (x.app y)
  | .nil, _ => by simp [sumP, Sur.app]
  | .cons e n d r, h => by
    have ih := sumP_above h.2
    cases y with
    | nil => simp [sumP, Sur.app_nil]
    | cons e' n' d' r' => rw [sumP, if_pos h.1.1, ih]; rfl
theorem above_of {y : Sur} : ∀ {x : Sur}, x.All GOk → y.All GOk → Dec (x.app y) → Above y x
  | .nil, _, _, _ => trivial
  | .cons e n d r, hx, hy, dx => by
    have key : ∀ (r : Sur), Lt e (r.app y) → Lt e y := fun r => by
      induction r with
      | nil => exact id
      | cons e2 n2 d2 r2 _ ih => exact fun h => ih h.2
    exact ⟨key r dx.1, above_of hx.2.2 hy dx.2⟩
theorem addS_app {x y : Sur} (h : sGood (x.app y) = true) : addS x y = some (x.app y) := by
  have hg := sGood_g h
  have gx := sGood_pre h
  have gy := sGood_suf h
  exact addS_of gx gy (sumP_above (above_of (sGood_g gx).1 (sGood_g gy).1 hg.2)) h
/-- the parts of a right number make it up -/
theorem parts_sum {x : Sur} (g : sGood x = true) : addS (highP x) (termP .nil (realP (0, 1) x).1 (realP (0, 1) x).2) = some ((highP x).app (termP .nil (realP (0, 1) x).1 (realP (0, 1) x).2)) ∧ addS ((highP x).app (termP .nil (realP (0, 1) x).1 (realP (0, 1) x).2)) (lowP x) = some x := by
  have e := parts_split (sGood_g g).1 (sGood_g g).2
  have g2 := g
  rw [e] at g2
  refine ⟨addS_app (sGood_pre g2), ?_⟩
  have := addS_app g2
  rw [← e] at this
  exact this

theorem order_app {a b : Sur} : ∀ (h : Sur), order (h.app a) (h.app b) = order a b
  | .nil => rfl
  | .cons e n d r => by
    simp only [Sur.app, order]
    rw [order_self, if_neg (by omega), if_neg (by omega), cmpF_self, if_neg (by omega)]
    exact order_app r
theorem order_fin {x y : Sur} (h : order x y = 1) : 0 < order x y := by omega
/-- the parts of a row of exponents above 0, and a term of 0 behind it -/
theorem highP_all1 : ∀ {x : Sur}, highP (highP x) = highP x ∧ lowP (highP x) = .nil ∧ ∀ a, realP a (highP x) = a
  | .nil => ⟨rfl, rfl, fun _ => rfl⟩
  | .cons e n d r => by
    obtain ⟨h1, h2, h3⟩ := highP_all1 (x := r)
    simp only [highP]
    split
    · rename_i q
      refine ⟨?_, ?_, fun a => ?_⟩
      · simp only [highP]; rw [if_pos q, h1]
      · simp only [lowP]; rw [if_neg (by omega), h2]
      · simp only [realP]; rw [if_neg (by omega), h3]
    · exact ⟨h1, h2, h3⟩
theorem parts_whole (x : Sur) (m : Int) : highP ((highP x).app (termP .nil m 1)) = highP x ∧ lowP ((highP x).app (termP .nil m 1)) = .nil ∧ (realP (0, 1) ((highP x).app (termP .nil m 1))).2 = 1 := by
  obtain ⟨h1, h2, h3⟩ := highP_all1 (x := x)
  rw [highP_app, lowP_app, realP_app, h1, h2, h3]
  unfold termP
  split
  · simp [highP, lowP, realP, Sur.app, Sur.app_nil]
  · have q : order .nil .nil = 0 := order_self .nil
    simp [highP, lowP, realP, q, Sur.app, Sur.app_nil]
end Go.Proofs.YtonlfnbjbmgegaaGreat

namespace Go.Proofs.YtonlfnbjbmgegaaGreat
open Go.RowKit
set_option linter.unusedSimpArgs false
set_option linter.unusedVariables false

/-- first exponent, first coefficient, last term -/
def fE : Sur → Sur
  | .nil => .nil
  | .cons e _ _ _ => e
def fC : Sur → Int × Int
  | .nil => (0, 0)
  | .cons _ n d _ => (n, d)
def lastS : Sur → Sur
  | .nil => .nil
  | .cons e n d .nil => .cons e n d .nil
  | .cons _ _ _ r => lastS r
/- one step, the program's -/
def dvE (r y : Sur) : Option Sur := subS (fE r) (fE y)
def dvC (r y : Sur) : Option (Int × Int) := fDivide (fC r).1 (fC r).2 (fC y).1 (fC y).2
def dvT (r y : Sur) : Sur := termP ((dvE r y).getD .nil) ((dvC r y).getD (0, 0)).1 ((dvC r y).getD (0, 0)).2
def dvQ (q r y : Sur) : Option Sur := addS q (dvT r y)
def dvM (r y : Sur) : Option Sur := mulS (dvT r y) y
def dvR (r y : Sur) : Option Sur := subS r ((dvM r y).getD .nil)
def dvB (q r y : Sur) : Bool := ((((false || !(dvE r y).isSome) || !(dvC r y).isSome) || !(dvQ q r y).isSome) || !(dvM r y).isSome) || !(dvR r y).isSome
def divGo (y : Sur) : Nat → Bool → Sur → Sur → Bool × Sur × Sur
  | 0, bad, q, r => (bad, q, r)
  | m + 1, bad, q, r => if bad = false ∧ r.len ≠ 0 then divGo y m (dvB q r y) ((dvQ q r y).getD .nil) ((dvR r y).getD .nil) else (bad, q, r)
def quoT (x y : Sur) (n : Int) : Option (Sur × Sur) :=
  if ((sGood x && sGood y) && (decide (y.len ≠ 0) && stepsB n)) = true then
    let s := divGo y n.toNat false .nil x
    if s.1 = true then none else some s.2
  else none
def exQ (x y : Sur) : Option Sur := (quoT x y 12).bind fun s => if s.2.len = 0 then some s.1 else none
/- one step, the reference's -/
def sdE (r y : Sur) : Option Sur := sumS (fE r) (negP (fE y))
def sdB1 (r y : Sur) : Bool := false || !(sdE r y).isSome
def sdX (r y : Sur) : Sur := keepS false (sdE r y)
def sdN (r y : Sur) : Int := mkN ((fC r).1 * (fC y).2) ((fC r).2 * (fC y).1)
def sdD (r y : Sur) : Int := mkD ((fC r).1 * (fC y).2) ((fC r).2 * (fC y).1)
def sdB2 (r y : Sur) : Bool := frB (sdB1 r y) (sdN r y) (sdD r y)
def sdK (r y : Sur) : Option Sur := told (termP (sdX r y) (frN (sdB2 r y) (sdN r y)) (frN (sdB2 r y) (sdD r y))) true
def sdB3 (r y : Sur) : Bool := sdB2 r y || !(sdK r y).isSome
def sdT (r y : Sur) : Sur := keepS (sdB2 r y) (sdK r y)
def sdQ (q r y : Sur) : Option Sur := sumS q (sdT r y)
def sdB4 (q r y : Sur) : Bool := sdB3 r y || !(sdQ q r y).isSome
def sdM (r y : Sur) : Option Sur := prodS (sdT r y) y
def sdB5 (q r y : Sur) : Bool := sdB4 q r y || !(sdM r y).isSome
def sdR (q r y : Sur) : Option Sur := sumS r (negP (keepS (sdB4 q r y) (sdM r y)))
def sdB6 (q r y : Sur) : Bool := sdB5 q r y || !(sdR q r y).isSome
def sdivGo (y : Sur) : Nat → Bool → Sur → Sur → Bool × Sur × Sur
  | 0, bad, q, r => (bad, q, r)
  | m + 1, bad, q, r => if r.len ≠ 0 ∧ bad = false then sdivGo y m (sdB6 q r y) (keepS (sdB3 r y) (sdQ q r y)) (keepS (sdB5 q r y) (sdR q r y)) else (bad, q, r)
theorem divGo_stop {y q r : Sur} {bad : Bool} (m : Nat) (h : ¬ (bad = false ∧ r.len ≠ 0)) : divGo y m bad q r = (bad, q, r) := by
  cases m with
  | zero => rfl
  | succ m => simp only [divGo]; rw [if_neg h]
theorem sdivGo_stop {y q r : Sur} {bad : Bool} (m : Nat) (h : ¬ (r.len ≠ 0 ∧ bad = false)) : sdivGo y m bad q r = (bad, q, r) := by
  cases m with
  | zero => rfl
  | succ m => simp only [sdivGo]; rw [if_neg h]
theorem divGo_bad (y q r : Sur) (m : Nat) : (divGo y m true q r).1 = true := by rw [divGo_stop m (by simp)]
theorem sdivGo_bad (y q r : Sur) (m : Nat) : (sdivGo y m true q r).1 = true := by rw [sdivGo_stop m (by simp)]
theorem mk_crossD (n d : Int) : mkN n d * d = n * mkD n d := by
  have k1 : gsign n d ∣ n := by
    unfold gsign
    split
    · exact Int.neg_dvd.2 (Int.gcd_dvd_left ..)
    · exact Int.gcd_dvd_left ..
  have k2 : gsign n d ∣ d := by
    unfold gsign
    split
    · exact Int.neg_dvd.2 (Int.gcd_dvd_right ..)
    · exact Int.gcd_dvd_right ..
  have e1 : gsign n d * mkN n d = n := Int.mul_tdiv_cancel' k1
  have e2 : gsign n d * mkD n d = d := Int.mul_tdiv_cancel' k2
  generalize mkN n d = p at *
  generalize mkD n d = q at *
  generalize gsign n d = k at *
  calc p * d = p * (k * q) := by rw [e2]
    _ = (k * p) * q := by rw [← Int.mul_assoc, Int.mul_comm p k]
    _ = n * q := by rw [e1]
theorem fE_good {x : Sur} (h : sGood x = true) : sGood (fE x) = true := by
  cases x with
  | nil => exact sGood_nil
  | cons e n d r => exact (sGood_exps h).1
theorem keepS_some (z : Sur) : keepS false (some z) = z := rfl
theorem dv_div {r y : Sur} (gr : sGood r = true) (gy : sGood y = true) (nr : r.len ≠ 0) (ny : y.len ≠ 0) : dvC r y = if fracOk (sdN r y) (sdD r y) = true then some (sdN r y, sdD r y) else none := by
  cases r with
  | nil => exact absurd rfl nr
  | cons e n d r =>
    cases y with
    | nil => exact absurd rfl ny
    | cons e' n' d' y =>
      have h1 := (sGood_g gr).1.2.1
      have h2 := (sGood_g gy).1.2.1
      have hd : d * n' ≠ 0 := fun h => by
        rcases Int.mul_eq_zero.1 h with h | h
        · have := h1.1.pos; omega
        · exact h2.2 h
      show fDivide n d n' d' = if fracOk (mkN (n * d') (d * n')) (mkD (n * d') (d * n')) = true then some (mkN (n * d') (d * n'), mkD (n * d') (d * n')) else none
      unfold fDivide two made
      rw [if_pos (show fracOk n d = true ∧ fracOk n' d' = true from ⟨h1.1, h2.1⟩), if_neg hd]
/-- a step of both -/
theorem sd_dv {q r y : Sur} (gq : sGood q = true) (gr : sGood r = true) (gy : sGood y = true) (nr : r.len ≠ 0) (ny : y.len ≠ 0) :
    sdB6 q r y = dvB q r y ∧ (sdB6 q r y = false → keepS (sdB3 r y) (sdQ q r y) = (dvQ q r y).getD .nil ∧ keepS (sdB5 q r y) (sdR q r y) = (dvR r y).getD .nil ∧ sGood ((dvQ q r y).getD .nil) = true ∧ sGood ((dvR r y).getD .nil) = true) := by
  have hE : sdE r y = dvE r y := sumS_addS (fE_good gr) (sGood_neg (fE_good gy))
  cases e : dvE r y with
  | none =>
    have b1 : sdB1 r y = true := by unfold sdB1; rw [hE, e]; rfl
    have b6 : sdB6 q r y = true := by unfold sdB6 sdB5 sdB4 sdB3 sdB2 frB; rw [b1]; rfl
    have bd : dvB q r y = true := by unfold dvB; rw [e]; simp
    exact ⟨by rw [b6, bd], fun h => by rw [b6] at h; cases h⟩
  | some e0 =>
    have b1 : sdB1 r y = false := by unfold sdB1; rw [hE, e]; rfl
    have hX : sdX r y = e0 := by unfold sdX; rw [hE, e]; rfl
    have hC := dv_div gr gy nr ny
    cases hf : fracOk (sdN r y) (sdD r y)
    · rw [hf] at hC
      simp only [Bool.false_eq_true, if_false] at hC
      have b2 : sdB2 r y = true := by unfold sdB2 frB; rw [hf]; simp
      have b6 : sdB6 q r y = true := by unfold sdB6 sdB5 sdB4 sdB3; rw [b2]; rfl
      have bd : dvB q r y = true := by unfold dvB; rw [hC]; simp
      exact ⟨by rw [b6, bd], fun h => by rw [b6] at h; cases h⟩
    · rw [hf] at hC
      simp only [if_true] at hC
      have b2 : sdB2 r y = false := by unfold sdB2 frB; rw [hf, b1]; rfl
      have hT : dvT r y = termP e0 (sdN r y) (sdD r y) := by unfold dvT; rw [e, hC]; rfl
      have hK : sdK r y = told (dvT r y) true := by
        unfold sdK
        rw [hX, b2, hT]; rfl
      cases gt : sGood (dvT r y)
      · have k : sdK r y = none := by rw [hK]; unfold told; rw [gt]; rfl
        have b3 : sdB3 r y = true := by unfold sdB3; rw [k, b2]; rfl
        have b6 : sdB6 q r y = true := by unfold sdB6 sdB5 sdB4; rw [b3]; rfl
        have qn : dvQ q r y = none := by unfold dvQ addS; rw [gt]; simp
        have bd : dvB q r y = true := by unfold dvB; rw [qn]; simp
        exact ⟨by rw [b6, bd], fun h => by rw [b6] at h; cases h⟩
      · have k : sdK r y = some (dvT r y) := by rw [hK]; exact told_good gt
        have b3 : sdB3 r y = false := by unfold sdB3; rw [k, b2]; rfl
        have hT2 : sdT r y = dvT r y := by unfold sdT; rw [k, b2]; rfl
        have hQ : sdQ q r y = dvQ q r y := by unfold sdQ dvQ; rw [hT2]; exact sumS_addS gq gt
        have hM : sdM r y = dvM r y := by unfold sdM dvM; rw [hT2]; exact prodS_mulS gt gy
        cases hq : dvQ q r y with
        | none =>
          have b4 : sdB4 q r y = true := by unfold sdB4; rw [hQ, hq, b3]; rfl
          have b6 : sdB6 q r y = true := by unfold sdB6 sdB5; rw [b4]; rfl
          have bd : dvB q r y = true := by unfold dvB; rw [hq]; simp
          exact ⟨by rw [b6, bd], fun h => by rw [b6] at h; cases h⟩
        | some q1 =>
          have b4 : sdB4 q r y = false := by unfold sdB4; rw [hQ, hq, b3]; rfl
          cases hm : dvM r y with
          | none =>
            have b5 : sdB5 q r y = true := by unfold sdB5; rw [hM, hm, b4]; rfl
            have b6 : sdB6 q r y = true := by unfold sdB6; rw [b5]; rfl
            have bd : dvB q r y = true := by unfold dvB; rw [hm]; simp
            exact ⟨by rw [b6, bd], fun h => by rw [b6] at h; cases h⟩
          | some m =>
            have gm : sGood m = true := (mulS_some (show mulS (dvT r y) y = some m from hm)).2.2.2
            have b5 : sdB5 q r y = false := by unfold sdB5; rw [hM, hm, b4]; rfl
            have hR : sdR q r y = dvR r y := by
              unfold sdR dvR subS
              rw [hM, hm, b4, keepS_some]
              exact sumS_addS gr (sGood_neg gm)
            have b6 : sdB6 q r y = !(dvR r y).isSome := by unfold sdB6; rw [hR, b5]; rfl
            have bd : dvB q r y = !(dvR r y).isSome := by unfold dvB; rw [e, hC, hq, hm]; simp
            refine ⟨by rw [b6, bd], fun h => ?_⟩
            rw [b6] at h
            cases hr : dvR r y with
            | none => rw [hr] at h; simp at h
            | some r1 =>
              rw [b3, hQ, hq, b5, hR, hr]
              exact ⟨rfl, rfl, addS_good (show addS q (dvT r y) = some q1 from hq), addS_good (show addS r (negP ((dvM r y).getD .nil)) = some r1 from hr)⟩
theorem sdiv_div {y : Sur} (gy : sGood y = true) (ny : y.len ≠ 0) : ∀ (m : Nat) (q r : Sur), sGood q = true → sGood r = true → (sdivGo y m false q r).1 = (divGo y m false q r).1 ∧ ((sdivGo y m false q r).1 = false → (sdivGo y m false q r).2 = (divGo y m false q r).2)
  | 0, q, r, _, _ => ⟨rfl, fun _ => rfl⟩
  | m + 1, q, r, gq, gr => by
    by_cases nr : r.len ≠ 0
    · obtain ⟨h1, h2⟩ := sd_dv gq gr gy nr ny
      simp only [sdivGo, divGo]
      rw [if_pos ⟨nr, trivial⟩, if_pos ⟨trivial, nr⟩, ← h1]
      cases hb : sdB6 q r y
      · obtain ⟨e1, e2, g1, g2⟩ := h2 hb
        rw [e1, e2]
        exact sdiv_div gy ny m _ _ g1 g2
      · rw [sdivGo_bad, divGo_bad]
        exact ⟨rfl, fun h => by cases h⟩
    · rw [sdivGo_stop _ (fun h => nr h.1), divGo_stop _ (fun h => nr h.2)]
      exact ⟨rfl, fun _ => rfl⟩
/-- the reference's steps, told -/
def squo (x y : Sur) (n : Int) : Option (Sur × Sur) :=
  if ((sGood x && sGood y) && (decide (y.len ≠ 0) && stepsB n)) = true then
    let s := sdivGo y n.toNat false .nil x
    if s.1 = true then none else some s.2
  else none
theorem squo_quoT (x y : Sur) (n : Int) : squo x y n = quoT x y n := by
  unfold squo quoT
  split
  · rename_i h
    simp only [Bool.and_eq_true, decide_eq_true_eq] at h
    obtain ⟨h1, h2⟩ := sdiv_div h.1.2 h.2.1 n.toNat .nil x sGood_nil h.1.1
    simp only []
    rw [← h1]
    cases hb : (sdivGo y n.toNat false .nil x).1
    · simp only [Bool.false_eq_true, if_false]
      rw [h2 hb]
    · rfl
  · rfl

/- that it is a quotient -/
theorem co_negP {x : Sur} (h : x.All FOk) (s : Sur) : co (negP x) s = - co x s := by
  induction x with
  | nil => simp only [negP, co]; grind
  | cons e n d r _ ih =>
    have e1 : rat (negI n) d = - rat n d := by
      rw [FOk.negI h.2.1]
      unfold rat
      rw [show ((-n : Int) : Rat) = -(n : Rat) by exact_mod_cast rfl]
      grind
    have := ih h.2.2
    simp only [negP, co]
    rw [this, e1]
    split <;> grind
theorem co_subS {x y z : Sur} (h : subS x y = some z) (hy : y.All FOk) : gadd (co z) (co y) = co x := by
  funext s
  have h1 := co_addS (show addS x (negP y) = some z from h) s
  have h2 := co_negP hy s
  simp only [gadd]
  rw [h1, h2]; grind
theorem GtF.addR {u v w : Gam} (h : GtF u v) : GtF (gadd u w) (gadd v w) := h.addEq (u' := w) (v' := w) fun _ => rfl
theorem GtF.addL {u v w : Gam} (h : GtF u v) : GtF (gadd w u) (gadd w v) := by rw [gadd_comm w u, gadd_comm w v]; exact h.addR
theorem GtF.cancel {u v w : Gam} (h : GtF (gadd u w) (gadd v w)) : GtF u v :=
  (h.addEq (u' := fun s => - w s) (v' := fun s => - w s) fun _ => rfl).congr (fun f => by simp only [gadd]; grind) (fun f => by simp only [gadd]; grind)
/-- exponents below the first one -/
theorem rest_low {e r : Sur} {n d : Int} (g : sGood (.cons e n d r) = true) : ExP (fun u => GtF (co e) u) r := by
  have h := sGood_exG g
  have k := sGood_g g
  have key : ∀ {r : Sur}, ExG r → Lt e r → ExP (fun u => GtF (co e) u) r := fun {r} => by
    induction r with
    | nil => exact fun _ _ => trivial
    | cons e' n' d' r' _ ih => exact fun h' hl => ⟨gt_of_order h.1.1 h.1.2 h'.1.1 h'.1.2 hl.1, ih h'.2 hl.2⟩
  exact key h.2 k.2.1
theorem ExP.app {P : Gam → Prop} : ∀ {x y : Sur}, ExP P x → ExP P y → ExP P (x.app y)
  | .nil, _, _, hy => hy
  | .cons e n d r, _, hx, hy => ⟨hx.1, ExP.app hx.2 hy⟩
theorem lastS_app (e : Sur) (n d : Int) : ∀ x : Sur, lastS (x.app (.cons e n d .nil)) = .cons e n d .nil
  | .nil => rfl
  | .cons e' n' d' .nil => rfl
  | .cons e' n' d' (.cons a b c r) => by
    have := lastS_app e n d (.cons a b c r)
    simpa [Sur.app, lastS] using this
/-- what is known of q and r -/
structure QInv (x y q r : Sur) (m : Nat) : Prop where
  gq : sGood q = true
  gr : sGood r = true
  eq : ∀ f, fn x f = fmul (fn q) (fn y) f + fn r f
  ab : r ≠ .nil → ExP (fun u => GtF (gadd u (co (fE y))) (co (fE r))) q
  ls : q = .nil ∨ ∃ q0 e n d, q = .app q0 (.cons e n d .nil) ∧ Sup (fn r) fun u => GtF (gadd (co e) (co (fE y))) u
  ln : q.len ≤ m
theorem quo_step {x y q r : Sur} {m : Nat} (gy : sGood y = true) (ny : y.len ≠ 0) (h : QInv x y q r m) (nr : r.len ≠ 0) (hb : dvB q r y = false) : QInv x y ((dvQ q r y).getD .nil) ((dvR r y).getD .nil) (m + 1) := by
  unfold dvB at hb
  simp only [Bool.or_eq_false_iff, Bool.not_eq_false'] at hb
  obtain ⟨⟨⟨⟨⟨_, b1⟩, b2⟩, b3⟩, b4⟩, b5⟩ := hb
  cases hE : dvE r y with
  | none => rw [hE] at b1; simp at b1
  | some e0 =>
  cases hC : dvC r y with
  | none => rw [hC] at b2; simp at b2
  | some c =>
  cases hQ : dvQ q r y with
  | none => rw [hQ] at b3; simp at b3
  | some q1 =>
  cases hM : dvM r y with
  | none => rw [hM] at b4; simp at b4
  | some m1 =>
  cases hR : dvR r y with
  | none => rw [hR] at b5; simp at b5
  | some r1 =>
  simp only [Option.getD_some]
  obtain ⟨gq, gr, heq, hab, hls, hln⟩ := h
  cases r with
  | nil => exact absurd rfl nr
  | cons er rn rd r' =>
  cases y with
  | nil => exact absurd rfl ny
  | cons ey yn yd y' =>
  have hab' : ExP (fun u => GtF (gadd u (co ey)) (co er)) q := hab (by intro h; cases h)
  clear hab
  have kr := (sGood_g gr).1.2.1
  have ky := (sGood_g gy).1.2.1
  have co0 : gadd (co e0) (co ey) = co er := co_subS (show subS er ey = some e0 from hE) (GOk.f (sGood_g gy).1.1)
  have ge0 : sGood e0 = true := addS_good (show addS er (negP ey) = some e0 from hE)
  have hc : FOk c.1 c.2 ∧ rat c.1 c.2 * rat yn yd = rat rn rd := by
    have hC' : fDivide rn rd yn yd = some (c.1, c.2) := hC
    unfold fDivide two at hC'
    rw [if_pos ⟨kr.1, ky.1⟩] at hC'
    have hd : rd * yn ≠ 0 := fun h => by
      rcases Int.mul_eq_zero.1 h with h | h
      · have := kr.1.pos; omega
      · exact ky.2 h
    have hok := made_ok hC'
    refine ⟨hok, ?_⟩
    unfold made at hC'
    rw [if_neg hd] at hC'
    split at hC'
    · simp only [Option.some.injEq, Prod.mk.injEq] at hC'
      have hx := mk_crossD (rn * yd) (rd * yn)
      rw [hC'.1, hC'.2] at hx
      have k1 := castNe kr.1.pos
      have k2 := castNe ky.1.pos
      have k3 := castNe (show FOk c.1 c.2 from hok).pos
      have k4 : (c.1 : Rat) * (rd * yn) = (rn * yd) * c.2 := by exact_mod_cast hx
      unfold rat
      grind
    · cases hC'
  have hc0 : c.1 ≠ 0 := fun h0 => by
    have := hc.2
    rw [h0, rat_zero] at this
    exact rat_ne kr (by grind)
  have hT : dvT (.cons er rn rd r') (.cons ey yn yd y') = .cons e0 c.1 c.2 .nil := by
    unfold dvT
    rw [hE, hC]
    simp only [Option.getD_some, termP, if_neg hc0]
  have hQ' : addS q (.cons e0 c.1 c.2 .nil) = some q1 := by rw [← hT]; exact hQ
  have hM' : mulS (.cons e0 c.1 c.2 .nil) (.cons ey yn yd y') = some m1 := by rw [← hT]; exact hM
  have gm1 := (mulS_some hM').2.2.2
  have hR' : subS (.cons er rn rd r') m1 = some r1 := by
    unfold dvR at hR
    rw [hM] at hR
    exact hR
  obtain ⟨_, gr1, er1⟩ := subS_some hR' (sGood_len gm1).2.2
  have gq1 := addS_good hQ'
  have abv : Above (.cons e0 c.1 c.2 .nil) q := by
    have hx := sGood_exG gq
    have ke := sGood_g ge0
    have key : ∀ {q : Sur}, ExP (fun u => GtF (gadd u (co ey)) (co er)) q → ExG q → Above (.cons e0 c.1 c.2 .nil) q := fun {q} => by
      induction q with
      | nil => exact fun _ _ => trivial
      | cons e n d q' _ ih =>
        intro hab hx
        refine ⟨⟨order_of_gt hx.1.1 hx.1.2 ke.1 ke.2 ?_, trivial⟩, ih hab.2 hx.2⟩
        have h1 := hab.1
        rw [← co0] at h1
        exact h1.cancel
    exact key hab' hx
  have hq1 : q1 = q.app (.cons e0 c.1 c.2 .nil) := by
    have h1 := (addS_some hQ').2.2.1
    rw [sumP_above abv] at h1
    injection h1 with h1
    exact h1.symm
  have hsup : Sup (fn r1) fun u => GtF (co er) u := by
    have key : ∀ f, fn r1 f = fn r' f - rat c.1 c.2 * fn y' (fun h => f (gadd (co e0) h)) := fun f => by
      rw [er1, fn_mulS hM']
      have h1 := hc.2
      simp only [fmul, fn]
      rw [co0, ← h1]; grind
    intro f k hfk
    rw [key, key, fn_sup (rest_low gr) f k hfk, fn_sup (rest_low gy) (fun h => f (gadd (co e0) h)) (fun h => k (gadd (co e0) h)) fun u hu => hfk _ (by rw [← co0]; exact hu.addL)]
  refine ⟨gq1, gr1, fun f => ?_, fun hr1 => ?_, .inr ⟨q, e0, c.1, c.2, hq1, by simp only [fE]; rw [co0]; exact hsup⟩, ?_⟩
  · have h1 := heq f
    have h2 : fmul (fn q1) (fn (.cons ey yn yd y')) f = fmul (fn q) (fn (.cons ey yn yd y')) f + fn m1 f := by
      rw [fn_addS hQ', fn_mulS hM']; rfl
    rw [h1, h2, er1]; grind
  · cases r1 with
    | nil => exact absurd rfl hr1
    | cons e1 n1 d1 r2 =>
      have hl := lead_in gr1 hsup
      rw [hq1]
      simp only [fE]
      refine ExP.app (ExP.mono (fun u hu => hu.trans hl) hab') ⟨?_, trivial⟩
      show GtF (gadd (co e0) (co ey)) (co e1)
      rw [co0]; exact hl
  · rw [hq1, Sur.len_snoc]; omega
theorem divGo_inv {x y : Sur} (gy : sGood y = true) (ny : y.len ≠ 0) : ∀ (m : Nat) (q r : Sur) (j : Nat), QInv x y q r j → (divGo y m false q r).1 = false → QInv x y (divGo y m false q r).2.1 (divGo y m false q r).2.2 (j + m)
  | 0, q, r, j, h, _ => h
  | m + 1, q, r, j, h, hb => by
    by_cases nr : r.len ≠ 0
    · have e : divGo y (m + 1) false q r = divGo y m (dvB q r y) ((dvQ q r y).getD .nil) ((dvR r y).getD .nil) := by
        simp only [divGo]
        rw [if_pos ⟨trivial, nr⟩]
      rw [e] at hb ⊢
      cases hd : dvB q r y
      · rw [hd] at hb
        have := divGo_inv gy ny m _ _ (j + 1) (quo_step gy ny h nr hd) hb
        rw [show j + 1 + m = j + (m + 1) by omega] at this
        exact this
      · rw [hd, divGo_bad] at hb; cases hb
    · have e : divGo y (m + 1) false q r = (false, q, r) := divGo_stop _ (fun k => nr k.2)
      rw [e]
      obtain ⟨a1, a2, a3, a4, a5, a6⟩ := h
      exact ⟨a1, a2, a3, a4, a5, Nat.le_trans a6 (by omega)⟩
/-- a quotient -/
theorem quoT_inv {x y q r : Sur} {n : Int} (h : quoT x y n = some (q, r)) : sGood x = true ∧ sGood y = true ∧ y.len ≠ 0 ∧ n ≤ 12 ∧ QInv x y q r n.toNat := by
  unfold quoT at h
  split at h
  · rename_i hg
    simp only [Bool.and_eq_true, decide_eq_true_eq] at hg
    simp only [] at h
    split at h
    · cases h
    · rename_i hb
      simp only [Option.some.injEq] at h
      have h0 : QInv x y .nil x 0 := ⟨sGood_nil, hg.1.1, fun f => by simp only [fmul, fn]; grind, fun _ => trivial, .inl rfl, Nat.le_refl _⟩
      have := divGo_inv hg.1.2 hg.2.1 n.toNat .nil x 0 h0 (by simpa using hb)
      rw [h, Nat.zero_add] at this
      exact ⟨hg.1.1, hg.1.2, hg.2.1, (stepsB_true hg.2.2).2, this⟩
  · cases h
theorem quo_len {x y q r : Sur} {n : Int} (h : quoT x y n = some (q, r)) : q.len ≤ 12 := by
  obtain ⟨_, _, _, h1, h2⟩ := quoT_inv h
  have := h2.ln
  omega
/-- quotient times divisor and remainder make up the number -/
theorem quo_back {x y q r z v : Sur} {n : Int} (h : quoT x y n = some (q, r)) (hz : mulS q y = some z) (hv : addS z r = some v) : v = x := by
  obtain ⟨gx, _, _, _, hi⟩ := quoT_inv h
  refine fn_inj (addS_good hv) gx ?_
  funext f
  rw [fn_addS hv, fn_mulS hz, hi.eq f]
theorem exQ_back {x y q z : Sur} (h : exQ x y = some q) (hz : mulS q y = some z) : z = x := by
  obtain ⟨s, hs, h2⟩ := Option.bind_eq_some_iff.1 h
  split at h2
  · rename_i hl
    simp only [Option.some.injEq] at h2
    subst h2
    obtain ⟨gx, _, _, _, hi⟩ := quoT_inv (q := s.1) (r := s.2) hs
    refine fn_inj (mulS_some hz).2.2.2 gx ?_
    funext f
    have e : s.2 = .nil := by
      cases hq : s.2 with
      | nil => rfl
      | cons e n d r => rw [hq] at hl; simp [Sur.len] at hl
    rw [fn_mulS hz, hi.eq f, e]
    simp only [fn]; grind
  · cases h2

/- the check -/
def chB1 (y q r : Sur) : Bool := (false || !(mulS q y).isSome) || !(addS ((mulS q y).getD .nil) r).isSome
def chR (x y q r : Sur) : Bool := decide (order ((addS ((mulS q y).getD .nil) r).getD .nil) x = 0)
def chB2 (y q r : Sur) : Bool := chB1 y q r || !(mulS (lastS q) y).isSome
def chN (y q r : Sur) : Bool := neglB r ((mulS (lastS q) y).getD .nil)
def chG (x y q r : Sur) : Bool := ((sGood x && sGood y) && (sGood q && sGood r)) && decide (y.len ≠ 0)
/-- the answer, and whether there is one -/
def chk (x y q r : Sur) : Bool × Bool :=
  if chG x y q r = true then
    if q.len ≠ 0 ∧ r.len ≠ 0 then ((chN y q r && chR x y q r) && !chB2 y q r, !chB2 y q r) else (chR x y q r && !chB1 y q r, !chB1 y q r)
  else (false, false)
/-- the checker accepts what the steps gave -/
theorem quo_chk {x y q r : Sur} {n : Int} (h : quoT x y n = some (q, r)) (hc : (chk x y q r).2 = true) : (chk x y q r).1 = true := by
  obtain ⟨gx, gy, ny, _, hi⟩ := quoT_inv h
  unfold chk at hc ⊢
  split at hc
  · rename_i hg
    rw [if_pos hg]
    have key : chB1 y q r = false → chR x y q r = true := fun hb => by
      unfold chB1 at hb
      simp only [Bool.or_eq_false_iff, Bool.not_eq_false'] at hb
      obtain ⟨⟨_, b1⟩, b2⟩ := hb
      cases hz : mulS q y with
      | none => rw [hz] at b1; simp at b1
      | some z =>
        rw [hz] at b2
        simp only [Option.getD_some] at b2
        cases hv : addS z r with
        | none => rw [hv] at b2; simp at b2
        | some v =>
          have e1 : (addS ((mulS q y).getD .nil) r).getD .nil = v := by
            rw [hz]
            show (addS z r).getD .nil = v
            rw [hv]; rfl
          unfold chR
          rw [e1, quo_back h hz hv, order_self]; rfl
    split at hc
    · rename_i hl
      rw [if_pos hl]
      simp only [Bool.not_eq_true'] at hc
      simp only []
      rw [hc]
      unfold chB2 at hc
      simp only [Bool.or_eq_false_iff, Bool.not_eq_false'] at hc
      rw [key hc.1]
      simp only [Bool.and_true, Bool.not_false]
      cases hL : mulS (lastS q) y with
      | none => rw [hL] at hc; simp at hc
      | some L =>
        unfold chN
        rw [hL]
        simp only [Option.getD_some]
        rcases hi.ls with hq | ⟨q0, e, n', d', hq, hs⟩
        · rw [hq] at hl; exact absurd rfl hl.1
        · rw [hq, lastS_app] at hL
          cases r with
          | nil => exact absurd rfl hl.2
          | cons er rn rd r' =>
          cases y with
          | nil => exact absurd rfl ny
          | cons ey yn yd y' =>
          have hr := lead_in hi.gr hs
          simp only [fE] at hr
          have gL := (mulS_some hL).2.2.2
          have gl := (mulS_some hL).1
          have ky := sGood_g gy
          have ke := sGood_g gl
          -- the first exponent of L
          have fL : ∀ f, fn L f = rat n' d' * (rat yn yd * f (gadd (co e) (co ey)) + fn y' (fun h => f (gadd (co e) h))) := fun f => by
            rw [fn_mulS hL]
            simp only [fmul, fn]; grind
          cases L with
          | nil =>
            have hne : rat n' d' * rat yn yd ≠ 0 := fun q => by
              rcases Rat.mul_eq_zero.1 q with q | q
              · exact rat_ne ke.1.2.1 q
              · exact rat_ne ky.1.2.1 q
            have h1 := fL (ind (gadd (co e) (co ey)))
            have h2 : fn y' (fun h => ind (gadd (co e) (co ey)) (gadd (co e) h)) = fn y' (fun _ => 0) := fn_sup (rest_low gy) _ _ fun u hu => by
              have : ¬ gadd (co e) u = gadd (co e) (co ey) := fun q => by
                have h3 := hu.addL (w := co e)
                rw [q] at h3
                exact h3.irr fun _ => rfl
              simp only [ind, if_neg this]
            rw [h2, (fn_lin _).zero] at h1
            simp only [fn, ind, if_pos] at h1
            exact absurd (by grind) hne
          | cons eL nL dL L' =>
            -- its first exponent is e + ey, or greater: then r's is below
            have kL := (sGood_exG gL).1
            have kr := (sGood_exG hi.gr).1
            have hge : LeF (gadd (co e) (co ey)) (co eL) := by
              have hsupL : Sup (fn (.cons eL nL dL L')) fun u => LeF u (gadd (co e) (co ey)) := fun f k hfk => by
                rw [fL, fL, hfk _ (.inl rfl), fn_sup (rest_low gy) (fun h => f (gadd (co e) h)) (fun h => k (gadd (co e) h)) fun u hu => hfk _ (.inr hu.addL)]
              rcases lead_in gL hsupL with hq | hq
              · exact .inl hq.symm
              · exfalso
                have hne : rat n' d' * rat yn yd ≠ 0 := fun q => by
                  rcases Rat.mul_eq_zero.1 q with q | q
                  · exact rat_ne ke.1.2.1 q
                  · exact rat_ne ky.1.2.1 q
                have h1 := fL (ind (gadd (co e) (co ey)))
                have h2 : fn y' (fun h => ind (gadd (co e) (co ey)) (gadd (co e) h)) = fn y' (fun _ => 0) := fn_sup (rest_low gy) _ _ fun u hu => by
                  have : ¬ gadd (co e) u = gadd (co e) (co ey) := fun q => by
                    have h3 := hu.addL (w := co e)
                    rw [q] at h3
                    exact h3.irr fun _ => rfl
                  simp only [ind, if_neg this]
                have h4 : fn (.cons eL nL dL L') (ind (gadd (co e) (co ey))) = fn (.cons eL nL dL L') (fun _ => 0) := fn_lead gL _ _ fun u hu => by
                  have : ¬ u = gadd (co e) (co ey) := fun q => by
                    rw [q] at hu
                    exact (hu.gt hq).irr fun _ => rfl
                  simp only [ind, if_neg this]
                rw [h4, (fn_lin _).zero, h2, (fn_lin _).zero] at h1
                simp only [ind, if_pos] at h1
                exact absurd (by grind) hne
            have hgt : GtF (co eL) (co er) := by
              rcases hge with hq | hq
              · rw [← hq]; exact hr
              · exact hq.trans hr
            have := order_flip.2 (order_of_gt kL.1 kL.2 kr.1 kr.2 hgt)
            simp only [neglB, decide_eq_true_eq]
            omega
    · rename_i hl
      rw [if_neg hl]
      simp only [Bool.not_eq_true'] at hc
      simp only []
      rw [hc, key hc]; rfl
  · cases hc
end Go.Proofs.YtonlfnbjbmgegaaGreat
