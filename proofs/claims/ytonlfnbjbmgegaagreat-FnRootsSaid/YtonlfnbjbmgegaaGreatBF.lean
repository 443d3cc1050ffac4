/-
  Sums and products as the reference makes them, and that they are the program's: plain.
  Sums of surreal numbers undo one another and are the same both ways round; twice a number is its sum with itself: plain.
  A number is told by its coefficients: sums, products, the order. Plain.
  Numbers as functionals on functions of exponents: sums, products, powers, bounds of exponents. Plain.
  Finite sums and the coefficients of exponentials, logarithms and powers. Plain.
  Exponentials of sums are products, logarithms undo exponentials, up to what is negligible. Plain.
-/
import Derived.Test.YtonlfnbjbmgegaaGreatBE
import Derived.Test.YtonlfnbjbmgegaaGreatBC
import Derived.Test.YtonlfnbjbmgegaaGreatBD
namespace Go.Proofs.YtonlfnbjbmgegaaGreat
open Go.RowKit
set_option linter.unusedSimpArgs false
set_option linter.unusedVariables false

/-- suPut -/
def putP (e : Sur) (n d : Int) : Sur → Option Sur
  | .nil => some (.cons e n d .nil)
  | .cons e' n' d' r =>
    if order e' e = 1 then (putP e n d r).map (.cons e' n' d' ·)
    else if order e' e = 0 then
      if fracOk (adN n' d' n d) (adD n' d' n d) = true then some ((termP e (adN n' d' n d) (adD n' d' n d)).app r) else none
    else some (.cons e n d (.cons e' n' d' r))
/-- suPlus -/
def plusP : Sur → Sur → Option Sur
  | x, .nil => some x
  | x, .cons e n d r => (putP e n d x).bind fun z => plusP z r
/-- suSum -/
def sumS (x y : Sur) : Option Sur := (plusP x y).bind fun z => told z true

theorem plusP_low {e : Sur} {n d : Int} : ∀ {r x : Sur}, Lt e r → plusP (.cons e n d x) r = (plusP x r).map (.cons e n d ·)
  | .nil, x, _ => by simp [plusP]
  | .cons e2 n2 d2 r2, x, h => by
    simp only [plusP, putP, if_pos h.1]
    cases putP e2 n2 d2 x with
    | none => rfl
    | some z => simp only [Option.map_some, Option.bind_some]; exact plusP_low h.2

theorem plusP_sumP (N : Nat) : ∀ (x y : Sur), x.len + y.len ≤ N → x.All GOk → y.All GOk → Dec x → Dec y → plusP x y = sumP x y := by
  induction N with
  | zero =>
    intro x y hN _ _ _ _
    cases x with
    | cons => simp [Sur.len] at hN
    | nil =>
      cases y with
      | cons => simp [Sur.len] at hN
      | nil => simp [plusP, sumP]
  | succ N ih =>
    intro x y hN hx hy dx dy
    cases y with
    | nil => rw [sumP_nil]; rfl
    | cons e n d r =>
      cases x with
      | nil =>
        simp only [plusP, putP, Option.bind_some]
        rw [plusP_low dy.1, ih .nil r (by simp only [Sur.len] at *; omega) trivial hy.2.2 trivial dy.2]
        simp [sumP]
      | cons e' n' d' r' =>
        rcases order_range e' e with q | q | q
        · simp only [plusP, putP]
          rw [if_neg (by omega), if_neg (by omega), Option.bind_some, plusP_low dy.1, ih (.cons e' n' d' r') r (by simp only [Sur.len] at *; omega) hx hy.2.2 dx dy.2, sumP_right (.inr ⟨e', n', d', r', rfl, q⟩)]
        · have he := order_eq e' e hx.1 hy.1 q
          subst he
          simp only [plusP, putP]
          rw [if_neg (by omega), if_pos q, sumP_both q, fAdd_sh hx.2.1.1 hy.2.1.1]
          by_cases hf : fracOk (adN n' d' n d) (adD n' d' n d) = true
          · rw [if_pos hf, if_pos hf]
            simp only [Option.bind_some, termP]
            by_cases hp : adN n' d' n d = 0
            · rw [if_pos hp]
              simp only [Sur.app, hp, if_true]
              rw [ih r' r (by simp only [Sur.len] at *; omega) hx.2.2 hy.2.2 dx.2 dy.2]
              simp
            · rw [if_neg hp]
              simp only [Sur.app, hp, if_false]
              rw [plusP_low dy.1, ih r' r (by simp only [Sur.len] at *; omega) hx.2.2 hy.2.2 dx.2 dy.2]
          · rw [if_neg hf, if_neg hf]; rfl
        · have hl : Lt e' (.cons e n d r) := ⟨q, Lt.tr hx.1 hy.1 q hy.2.2 dy.1⟩
          rw [plusP_low hl, ih r' _ (by simp only [Sur.len] at *; omega) hx.2.2 hy dx.2 dy, sumP, if_pos q]

theorem sumS_addS {x y : Sur} (hx : sGood x = true) (hy : sGood y = true) : sumS x y = addS x y := by
  have gx := sGood_g hx
  have gy := sGood_g hy
  unfold sumS addS
  rw [if_pos (by rw [hx, hy]; rfl), plusP_sumP _ x y (Nat.le_refl _) gx.1 gy.1 gx.2 gy.2]

theorem Sur.All.appd {p : Int → Int → Prop} {x y : Sur} (hx : x.All p) (hy : y.All p) : (x.app y).All p := Sur.All.app hx hy
/-- what a put leaves -/
theorem putP_all {e : Sur} {n d : Int} (he : e.All FOk) (h : FOk n d) : ∀ {x z : Sur}, x.All FOk → putP e n d x = some z → z.All FOk ∧ z.len ≤ x.len + 1
  | .nil, z, _, hp => by
    simp only [putP, Option.some.injEq] at hp
    subst hp
    exact ⟨⟨he, h, trivial⟩, by simp [Sur.len]⟩
  | .cons e' n' d' r, z, hx, hp => by
    simp only [putP] at hp
    split at hp
    · obtain ⟨u, hu, rfl⟩ := Option.map_eq_some_iff.1 hp
      obtain ⟨i1, i2⟩ := putP_all he h hx.2.2 hu
      exact ⟨⟨hx.1, hx.2.1, i1⟩, by simp only [Sur.len]; omega⟩
    · split at hp
      · split at hp
        · rename_i hf
          simp only [Option.some.injEq] at hp
          subst hp
          have ht := termP_all he (show FOk _ _ from hf)
          exact ⟨ht.1.appd hx.2.2, by rw [Sur.len_app]; simp only [Sur.len]; omega⟩
        · cases hp
      · simp only [Option.some.injEq] at hp
        subst hp
        exact ⟨⟨he, h, hx⟩, by simp [Sur.len]⟩
theorem plusP_all : ∀ {y x z : Sur}, x.All FOk → y.All FOk → plusP x y = some z → z.All FOk ∧ z.len ≤ x.len + y.len
  | .nil, x, z, hx, _, h => by simp only [plusP, Option.some.injEq] at h; subst h; exact ⟨hx, by simp [Sur.len]⟩
  | .cons e n d r, x, z, hx, hy, h => by
    simp only [plusP] at h
    obtain ⟨u, hu, h⟩ := Option.bind_eq_some_iff.1 h
    obtain ⟨i1, i2⟩ := putP_all hy.1 hy.2.1 hx hu
    obtain ⟨j1, j2⟩ := plusP_all i1 hy.2.2 h
    exact ⟨j1, by simp only [Sur.len]; omega⟩

theorem mkN_ne {n d : Int} (hn : n ≠ 0) (hd : d ≠ 0) : mkN n d ≠ 0 := by
  have hg := Int.gcd_pos_of_ne_zero_right n hd
  have hle : Int.gcd n d ≤ n.natAbs := Int.gcd_le_natAbs_left d hn
  have ha : (gsign n d).natAbs = Int.gcd n d := by unfold gsign; split <;> omega
  intro h
  have h1 : (mkN n d).natAbs = 0 := by rw [h]; rfl
  unfold mkN at h1
  rw [Int.natAbs_tdiv, ha] at h1
  have := (Nat.div_eq_zero_iff).1 h1
  omega

theorem putP_g {e : Sur} {n d : Int} (he : e.All GOk) (h : GOk n d) : ∀ {x z : Sur}, x.All GOk → Dec x → putP e n d x = some z → z.All GOk ∧ Dec z ∧ (∀ f, Lt f x → order f e = 1 → Lt f z)
  | .nil, z, _, _, hp => by
    simp only [putP, Option.some.injEq] at hp
    subst hp
    exact ⟨⟨he, h, trivial⟩, ⟨trivial, trivial⟩, fun f _ hf => ⟨hf, trivial⟩⟩
  | .cons e' n' d' r, z, hx, dx, hp => by
    simp only [putP] at hp
    split at hp
    · rename_i q
      obtain ⟨u, hu, rfl⟩ := Option.map_eq_some_iff.1 hp
      obtain ⟨i1, i2, i3⟩ := putP_g he h hx.2.2 dx.2 hu
      exact ⟨⟨hx.1, hx.2.1, i1⟩, ⟨i3 e' dx.1 q, i2⟩, fun f hf hfe => ⟨hf.1, i3 f hf.2 hfe⟩⟩
    · split at hp
      · rename_i q
        have hee := order_eq e' e hx.1 he q
        subst hee
        split at hp
        · rename_i hf
          simp only [Option.some.injEq] at hp
          subst hp
          unfold termP
          split
          · exact ⟨hx.2.2, dx.2, fun f hf _ => hf.2⟩
          · rename_i hp0
            exact ⟨⟨he, ⟨hf, hp0⟩, hx.2.2⟩, ⟨dx.1, dx.2⟩, fun f hf hfe => ⟨hfe, hf.2⟩⟩
        · cases hp
      · rename_i q1 q0
        simp only [Option.some.injEq] at hp
        subst hp
        have q : order e e' = 1 := by rw [order_neg]; have := order_range e' e; omega
        exact ⟨⟨he, h, hx⟩, ⟨⟨q, Lt.tr he hx.1 q hx.2.2 dx.1⟩, dx⟩, fun f hf hfe => ⟨hfe, hf⟩⟩

/-- all exponents are right -/
def Exps : Sur → Prop
  | .nil => True
  | .cons e _ _ r => sGood e = true ∧ Exps r
theorem formT_less : ∀ {x : Sur} {deep deep' : Int} {prev : Option Sur}, deep' ≤ deep → formT deep prev x = true → formT deep' prev x = true
  | .nil, _, _, _, _, _ => rfl
  | .cons e n d r, deep, deep', prev, hd, h => by
    simp only [formT, Bool.and_eq_true, decide_eq_true_eq] at h ⊢
    obtain ⟨h1, h2, h3, h4, h5, h6⟩ := h
    exact ⟨h1, h2, by omega, formT_less (by omega) h4, h5, formT_less hd h6⟩
theorem formT_exps : ∀ {x : Sur} {deep : Int} {prev : Option Sur}, 0 ≤ deep → x.nodes ≤ 60 → formT deep prev x = true → Exps x
  | .nil, _, _, _, _, _ => trivial
  | .cons e n d r, deep, prev, hd, hn, h => by
    simp only [formT, Bool.and_eq_true, decide_eq_true_eq] at h
    obtain ⟨h1, h2, h3, h4, h5, h6⟩ := h
    simp only [Sur.nodes] at hn
    refine ⟨?_, formT_exps hd (by omega) h6⟩
    simp only [sGood, sOk, Bool.and_eq_true, decide_eq_true_eq]
    exact ⟨by omega, by omega, formT_less (by omega) h4⟩
theorem sGood_exps {x : Sur} (h : sGood x = true) : Exps x := by
  simp only [sGood, sOk, Bool.and_eq_true, decide_eq_true_eq] at h
  exact formT_exps (Int.le_refl _) (by omega) h.2.2

/-- the inner loop of suProduct -/
def prodIn (e : Sur) (n d : Int) : Sur → Sur → Option Sur
  | .nil, out => some out
  | .cons e' n' d' r, out => match sumS e e' with
    | none => none
    | some z => if fracOk (muN n d n' d') (muD n d n' d') = true then (putP z (muN n d n' d') (muD n d n' d') out).bind (prodIn e n d r) else none
def prodOut (y : Sur) : Sur → Sur → Option Sur
  | .nil, out => some out
  | .cons e n d r, out => (prodIn e n d y out).bind (prodOut y r)
/-- suProduct -/
def prodS (x y : Sur) : Option Sur := (prodOut y x .nil).bind fun z => told z true

theorem sumP_one {e z : Sur} {n d : Int} (hx : z.All GOk) (dz : Dec z) (he : e.All GOk) (h : GOk n d) : sumP z (.cons e n d .nil) = putP e n d z := by
  rw [← plusP_sumP _ z (.cons e n d .nil) (Nat.le_refl _) hx ⟨he, h, trivial⟩ dz ⟨trivial, trivial⟩]
  simp only [plusP]
  cases putP e n d z <;> rfl

theorem prodIn_mulIn {e : Sur} {n d : Int} (he : sGood e = true) (h : GOk n d) : ∀ {y out : Sur}, y.All GOk → Exps y → out.All GOk → Dec out → prodIn e n d y out = mulIn e n d y out ∧ ∀ z, prodIn e n d y out = some z → z.All GOk ∧ Dec z
  | .nil, out, _, _, ho, do_ => ⟨rfl, fun z hz => by simp only [prodIn, Option.some.injEq] at hz; subst hz; exact ⟨ho, do_⟩⟩
  | .cons e' n' d' r, out, hy, ey, ho, do_ => by
    simp only [prodIn, mulIn]
    rw [sumS_addS he ey.1, fMul_sh h.1 hy.2.1.1]
    cases ha : addS e e' with
    | none => exact ⟨rfl, fun z hz => by cases hz⟩
    | some z =>
      have gz := sGood_g (addS_good ha)
      by_cases hf : fracOk (muN n d n' d') (muD n d n' d') = true
      · have hp : muN n d n' d' ≠ 0 := mkN_ne (fun h0 => by rcases Int.mul_eq_zero.1 h0 with h0 | h0; exact h.2 h0; exact hy.2.1.2 h0) (mul_ne0 (fracOk_iff.1 h.1).1 (fracOk_iff.1 hy.2.1.1).1)
        simp only [if_pos hf, termP, if_neg hp]
        rw [sumP_one ho do_ gz.1 ⟨hf, hp⟩]
        cases hq : putP z (muN n d n' d') (muD n d n' d') out with
        | none => exact ⟨rfl, fun z hz => by cases hz⟩
        | some o2 =>
          have g2 := putP_g gz.1 ⟨hf, hp⟩ ho do_ hq
          simp only [Option.bind_some]
          exact prodIn_mulIn he h hy.2.2 ey.2 g2.1 g2.2.1
      · simp only [if_neg hf]
        refine ⟨by first | trivial | rfl, fun z hz => ?_⟩
        cases hz
theorem prodOut_mulOut {y : Sur} (hy : y.All GOk) (ey : Exps y) : ∀ {x out : Sur}, x.All GOk → Exps x → out.All GOk → Dec out → prodOut y x out = mulOut y x out
  | .nil, _, _, _, _, _ => rfl
  | .cons e n d r, out, hx, ex, ho, do_ => by
    simp only [prodOut, mulOut]
    obtain ⟨h1, h2⟩ := prodIn_mulIn ex.1 hx.2.1 hy ey ho do_
    rw [← h1]
    cases hq : prodIn e n d y out with
    | none => rfl
    | some z =>
      obtain ⟨g1, g2⟩ := h2 z hq
      simp only [Option.bind_some]
      exact prodOut_mulOut hy ey hx.2.2 ex.2 g1 g2
theorem prodS_mulS {x y : Sur} (hx : sGood x = true) (hy : sGood y = true) : prodS x y = mulS x y := by
  unfold prodS mulS
  rw [if_pos (by rw [hx, hy]; rfl), prodOut_mulOut (sGood_g hy).1 (sGood_exps hy) (sGood_g hx).1 (sGood_exps hx) (show Sur.All GOk .nil from trivial) (show Dec .nil from trivial)]

/-- each exponent of the first is greater than all of the second -/
def GtAll : Sur → Sur → Prop
  | .nil, _ => True
  | .cons f _ _ r, x => Lt f x ∧ GtAll r x
theorem GtAll.tail {e r : Sur} {n d : Int} : ∀ {o : Sur}, GtAll o (.cons e n d r) → GtAll o r
  | .nil, _ => trivial
  | .cons _ _ _ _, h => ⟨h.1.2, GtAll.tail h.2⟩
theorem GtAll.snoc {e r : Sur} {n d : Int} (h : Lt e r) : ∀ {o : Sur}, GtAll o r → GtAll (o.app (.cons e n d .nil)) r
  | .nil, _ => ⟨h, trivial⟩
  | .cons _ _ _ _, ho => ⟨ho.1, GtAll.snoc h ho.2⟩
theorem putP_end {e r : Sur} {n d p q : Int} : ∀ {o : Sur}, GtAll o (.cons e n d r) → putP e p q o = some (o.app (.cons e p q .nil))
  | .nil, _ => rfl
  | .cons f a b o, h => by
    simp only [putP, if_pos h.1.1, putP_end h.2]
    rfl
theorem told_good {x : Sur} (h : sGood x = true) : told x true = some x := by unfold told; rw [h]; rfl
theorem sGood_nil : sGood .nil = true := by decide
theorem sumS_nil_right {e : Sur} (h : sGood e = true) : sumS e .nil = some e := by unfold sumS; simp only [plusP, Option.bind_some]; exact told_good h
theorem sumS_nil_left {e : Sur} (h : sGood e = true) : sumS .nil e = some e := by
  unfold sumS
  rw [plusP_sumP _ .nil e (Nat.le_refl _) trivial (sGood_g h).1 trivial (sGood_g h).2]
  simp only [sumP, Option.bind_some]; exact told_good h

theorem prodOut_scale {a b : Int} (h : fracOk a b = true) : ∀ {x out : Sur}, x.All GOk → Exps x → Dec x → GtAll out x → prodOut (.cons .nil a b .nil) x out = (scaleT a b x).map (out.app ·)
  | .nil, out, _, _, _, _ => by simp [prodOut, scaleT, Sur.app_nil]
  | .cons e n d r, out, hx, ex, dx, hg => by
    simp only [prodOut, prodIn, scaleT, sumS_nil_right ex.1, fMul_sh hx.2.1.1 (show FOk a b from h)]
    by_cases hf : fracOk (muN n d a b) (muD n d a b) = true
    · simp only [if_pos hf, putP_end hg, Option.bind_some]
      rw [prodOut_scale h hx.2.2 ex.2 dx.2 (GtAll.snoc dx.1 hg.tail), Option.map_map]
      congr 1
      funext z
      simp [Sur.app_assoc, Sur.app]
    · simp only [if_neg hf]; rfl
theorem prodOut_nil : ∀ {x out : Sur}, prodOut .nil x out = some out
  | .nil, _ => rfl
  | .cons e n d r, out => by simp only [prodOut, prodIn, Option.bind_some]; exact prodOut_nil
theorem prodS_scale {x : Sur} {a b : Int} (hx : sGood x = true) (h : fracOk a b = true) : prodS x (termP .nil a b) = scaleS x a b := by
  have e1 : scaleS x a b = (scaleP x a b).bind fun z => told z true := by unfold scaleS; rw [if_pos (by rw [hx, h]; rfl)]
  rw [e1]
  unfold prodS scaleP termP
  by_cases ha : a = 0
  · rw [if_pos ha, if_pos ha, prodOut_nil]
  · rw [if_neg ha, if_neg ha, prodOut_scale h (sGood_g hx).1 (sGood_exps hx) (sGood_g hx).2 (show GtAll .nil x from trivial)]
    simp [Sur.app]

theorem mk_one {n d : Int} (h : FOk n d) : muN 1 1 n d = n ∧ muD 1 1 n d = d := by
  obtain ⟨h1, _, _, _, h5⟩ := fracOk_iff.1 h
  have hg : gsign (1 * n) (1 * d) = 1 := by unfold gsign; rw [Int.one_mul, Int.one_mul, if_neg (by omega), h5]; rfl
  unfold muN muD mkN mkD
  rw [hg, Int.one_mul, Int.one_mul]
  exact ⟨Int.tdiv_one n, Int.tdiv_one d⟩
theorem prodIn_one : ∀ {z out : Sur}, z.All GOk → Exps z → Dec z → GtAll out z → prodIn .nil 1 1 z out = some (out.app z)
  | .nil, out, _, _, _, _ => by simp [prodIn, Sur.app_nil]
  | .cons e n d r, out, hz, ez, dz, hg => by
    obtain ⟨m1, m2⟩ := mk_one hz.2.1.1
    simp only [prodIn, sumS_nil_left ez.1, m1, m2, if_pos (show fracOk n d = true from hz.2.1.1), putP_end hg, Option.bind_some]
    rw [prodIn_one hz.2.2 ez.2 dz.2 (GtAll.snoc dz.1 hg.tail)]
    simp [Sur.app_assoc, Sur.app]
theorem prodS_one {z : Sur} (h : sGood z = true) : prodS (termP .nil 1 1) z = some z := by
  unfold prodS termP
  rw [if_neg (by omega)]
  simp only [prodOut]
  rw [prodIn_one (sGood_g h).1 (sGood_exps h) (sGood_g h).2 (show GtAll .nil z from trivial)]
  simp only [Option.bind_some, Sur.app]
  exact told_good h
end Go.Proofs.YtonlfnbjbmgegaaGreat

namespace Go.Proofs.YtonlfnbjbmgegaaGreat
open Go.RowKit
set_option linter.unusedSimpArgs false
set_option linter.unusedVariables false

/-- lowest terms: the quotient's cross product -/
theorem mk_cross (n d : Int) (h : 0 < d) : mkN n d * d = n * mkD n d ∧ 0 < mkD n d ∧ Int.gcd (mkN n d) (mkD n d) = 1 := by
  have hg : gsign n d = (Int.gcd n d : Int) := by unfold gsign; rw [if_neg (by omega)]
  have hp : 0 < Int.gcd n d := Int.gcd_pos_of_ne_zero_right n (by omega)
  have e1 : (Int.gcd n d : Int) * mkN n d = n := by
    unfold mkN; rw [hg]; exact Int.mul_tdiv_cancel' (Int.gcd_dvd_left ..)
  have e2 : (Int.gcd n d : Int) * mkD n d = d := by
    unfold mkD; rw [hg]; exact Int.mul_tdiv_cancel' (Int.gcd_dvd_right ..)
  have h3 : 0 < mkD n d := by
    rcases Int.lt_or_le 0 (mkD n d) with q | q
    · exact q
    · have := Int.mul_nonpos_of_nonneg_of_nonpos (Int.natCast_nonneg (Int.gcd n d)) q
      omega
  refine ⟨?_, h3, ?_⟩
  · generalize mkN n d = p at *
    generalize mkD n d = q at *
    generalize hk : (Int.gcd n d : Int) = k at *
    calc p * d = p * (k * q) := by rw [e2]
      _ = (k * p) * q := by rw [← Int.mul_assoc, Int.mul_comm p k]
      _ = n * q := by rw [e1]
  · have := Int.gcd_mul_left (Int.gcd n d : Int) (mkN n d) (mkD n d)
    rw [e1, e2] at this
    rw [Int.natAbs_natCast] at this
    have h5 : Int.gcd n d * 1 = Int.gcd n d * Int.gcd (mkN n d) (mkD n d) := by omega
    exact (Nat.eq_of_mul_eq_mul_left hp h5).symm

/-- what made gives is the one fraction of that value -/
theorem made_iff {n d p q : Int} (h : 0 < d) : made n d = some (p, q) ↔ (FOk p q ∧ p * d = n * q) := by
  obtain ⟨c1, c2, c3⟩ := mk_cross n d h
  unfold made
  rw [if_neg (by omega)]
  constructor
  · intro hm
    split at hm
    · rename_i hf
      simp only [Option.some.injEq, Prod.mk.injEq] at hm
      obtain ⟨rfl, rfl⟩ := hm
      exact ⟨hf, c1⟩
    · exact absurd hm (by simp)
  · rintro ⟨hf, hc⟩
    have hq := hf.pos
    -- both are in lowest terms, and of one value
    have hx : mkN n d * q = p * mkD n d := by
      apply Int.eq_of_mul_eq_mul_right (a := d) (by omega)
      calc mkN n d * q * d = (mkN n d * d) * q := by rw [Int.mul_assoc, Int.mul_comm q, ← Int.mul_assoc]
        _ = (n * mkD n d) * q := by rw [c1]
        _ = (n * q) * mkD n d := by rw [Int.mul_assoc, Int.mul_comm (mkD n d), ← Int.mul_assoc]
        _ = (p * d) * mkD n d := by rw [hc]
        _ = p * mkD n d * d := by rw [Int.mul_assoc, Int.mul_comm d, ← Int.mul_assoc]
    have hcq : Int.gcd p q = 1 := (fracOk_iff.1 hf).2.2.2.2
    have d1 : q ∣ mkD n d := by
      have h1 : q ∣ p * mkD n d := ⟨mkN n d, by rw [← hx, Int.mul_comm]⟩
      have h1 := Int.natAbs_dvd_natAbs.2 h1
      rw [Int.natAbs_mul] at h1
      exact Int.natAbs_dvd_natAbs.1 (Nat.Coprime.dvd_of_dvd_mul_left (show Nat.gcd q.natAbs p.natAbs = 1 from by rw [Nat.gcd_comm]; exact hcq) h1)
    have d2 : mkD n d ∣ q := by
      have h1 : mkD n d ∣ mkN n d * q := ⟨p, by rw [hx, Int.mul_comm]⟩
      have h1 := Int.natAbs_dvd_natAbs.2 h1
      rw [Int.natAbs_mul] at h1
      exact Int.natAbs_dvd_natAbs.1 (Nat.Coprime.dvd_of_dvd_mul_left (show Nat.gcd (mkD n d).natAbs (mkN n d).natAbs = 1 from by rw [Nat.gcd_comm]; exact c3) h1)
    have e : mkD n d = q := by
      have := Int.le_of_dvd hq d2
      have := Int.le_of_dvd c2 d1
      omega
    rw [e] at hx
    have e' : mkN n d = p := Int.eq_of_mul_eq_mul_right (by omega) hx
    rw [e, e']
    exact if_pos hf
theorem made_congr {n d n' d' : Int} (h : 0 < d) (h' : 0 < d') (hc : n * d' = n' * d) : made n d = made n' d' := by
  have key : ∀ {n d n' d' p q : Int}, 0 < d → 0 < d' → n * d' = n' * d → made n d = some (p, q) → made n' d' = some (p, q) := by
    intro n d n' d' p q h h' hc hm
    obtain ⟨a, b⟩ := (made_iff h).1 hm
    refine (made_iff h').2 ⟨a, ?_⟩
    apply Int.eq_of_mul_eq_mul_right (a := d) (by omega)
    calc p * d' * d = (p * d) * d' := by rw [Int.mul_assoc, Int.mul_comm d', ← Int.mul_assoc]
      _ = (n * q) * d' := by rw [b]
      _ = (n * d') * q := by rw [Int.mul_assoc, Int.mul_comm q, ← Int.mul_assoc]
      _ = (n' * d) * q := by rw [hc]
      _ = n' * q * d := by rw [Int.mul_assoc, Int.mul_comm d, ← Int.mul_assoc]
  cases hm : made n d with
  | some pq => exact (key h h' hc hm).symm
  | none =>
    cases hm' : made n' d' with
    | none => rfl
    | some pq => rw [key h' h hc.symm hm'] at hm; exact absurd hm (by simp)

theorem FOk.neg {n d : Int} (h : FOk n d) : FOk (-n) d := by
  obtain ⟨a, b, c, e, f⟩ := fracOk_iff.1 h
  exact fracOk_iff.2 ⟨a, b, by omega, by omega, by rw [Int.neg_gcd]; exact f⟩
theorem GOk.neg {n d : Int} (h : GOk n d) : GOk (-n) d := ⟨h.1.neg, by have := h.2; omega⟩
theorem FOk.negI {n d : Int} (h : FOk n d) : negI n = -n := by
  have := fracOk_iff.1 h
  exact negI_in (by omega)

theorem fAdd_iff {n d n' d' p q : Int} (h : FOk n d) (h' : FOk n' d') : fAdd n d n' d' = some (p, q) ↔ (FOk p q ∧ p * (d * d') = (n * d' + n' * d) * q) := by
  unfold fAdd two
  rw [if_pos ⟨h, h'⟩]
  exact made_iff (Int.mul_pos h.pos h'.pos)
theorem fAdd_comm {n d n' d' : Int} : fAdd n d n' d' = fAdd n' d' n d := by
  unfold fAdd two
  rw [Int.add_comm, Int.mul_comm d d']
  by_cases h : fracOk n d = true ∧ fracOk n' d' = true
  · rw [if_pos h, if_pos ⟨h.2, h.1⟩]
  · rw [if_neg h, if_neg (fun k => h ⟨k.2, k.1⟩)]
/-- the sum, less the second, is the first -/
theorem fAdd_undo {n d n' d' p q : Int} (h : FOk n d) (h' : FOk n' d') (hs : fAdd n d n' d' = some (p, q)) : fAdd p q (-n') d' = some (n, d) := by
  obtain ⟨a, b⟩ := (fAdd_iff h h').1 hs
  refine (fAdd_iff a h'.neg).2 ⟨h, ?_⟩
  apply Int.eq_of_mul_eq_mul_right (a := 1) (by omega)
  grind
theorem fAdd_zero {n d n' d' q : Int} (h : FOk n d) (h' : FOk n' d') (hs : fAdd n d n' d' = some (0, q)) : n' = -n ∧ d' = d := by
  obtain ⟨a, b⟩ := (fAdd_iff h h').1 hs
  have hq := a.pos
  have h0 : n * d' + n' * d = 0 := by
    rcases Int.mul_eq_zero.1 (show (n * d' + n' * d) * q = 0 by omega) with e | e
    · exact e
    · omega
  have hc : cmpF n' d' (-n) d = 0 := by
    unfold cmpF
    refine cmpI_zero.2 ?_
    grind
  exact cmpF_eq h' h.neg hc
theorem fAdd_opp {n d : Int} (h : FOk n d) : fAdd n d (-n) d = some (0, 1) := by
  refine (fAdd_iff h h.neg).2 ⟨show fracOk 0 1 = true by decide, ?_⟩
  grind
theorem fMul_two {n d : Int} (h : FOk n d) : fMultiply n d 2 1 = fAdd n d n d := by
  have hd := h.pos
  unfold fMultiply fAdd two
  rw [if_pos ⟨h, by decide⟩, if_pos ⟨h, h⟩]
  refine made_congr (by omega) (Int.mul_pos hd hd) ?_
  grind

theorem sumP_comm (N : Nat) : ∀ (x y : Sur), x.len + y.len ≤ N → x.All GOk → y.All GOk → sumP x y = sumP y x := by
  induction N with
  | zero =>
    intro x y hN _ _
    cases x with
    | cons => simp [Sur.len] at hN
    | nil =>
      cases y with
      | cons => simp [Sur.len] at hN
      | nil => rfl
  | succ N ih =>
    intro x y hN hx hy
    cases y with
    | nil => rw [sumP_nil]; simp [sumP]
    | cons e n d r =>
      cases x with
      | nil => rw [sumP_nil]; simp [sumP]
      | cons e' n' d' r' =>
        have hn := order_neg e' e
        rcases order_range e' e with q | q | q
        · rw [sumP_right (.inr ⟨_, _, _, _, rfl, q⟩), sumP_left (.inr ⟨_, _, _, _, rfl, by omega⟩), ih _ _ (by simp only [Sur.len] at *; omega) hx hy.2.2]
        · have he := order_eq e' e hx.1 hy.1 q
          subst he
          rw [sumP_both q, sumP_both (order_self _), fAdd_comm, ih _ _ (by simp only [Sur.len] at *; omega) hx.2.2 hy.2.2]
        · rw [sumP_left (.inr ⟨_, _, _, _, rfl, q⟩), sumP_right (.inr ⟨_, _, _, _, rfl, by omega⟩), ih _ _ (by simp only [Sur.len] at *; omega) hx.2.2 hy]

/-- a sum's exponents are below what both are below -/
theorem sumP_lt {f : Sur} (N : Nat) : ∀ (x y : Sur), x.len + y.len ≤ N → ∀ {z : Sur}, Lt f x → Lt f y → sumP x y = some z → Lt f z := by
  induction N with
  | zero =>
    intro x y hN z _ _ h
    cases x with
    | cons => simp [Sur.len] at hN
    | nil =>
      cases y with
      | cons => simp [Sur.len] at hN
      | nil => simp [sumP] at h; subst h; trivial
  | succ N ih =>
    intro x y hN z hx hy h
    cases y with
    | nil => rw [sumP_nil] at h; simp only [Option.some.injEq] at h; subst h; exact hx
    | cons e n d r =>
      cases x with
      | nil => simp only [sumP, Option.some.injEq] at h; subst h; exact hy
      | cons e' n' d' r' =>
        rcases order_range e' e with q | q | q
        · rw [sumP_right (.inr ⟨_, _, _, _, rfl, q⟩)] at h
          obtain ⟨z', h', rfl⟩ := Option.map_eq_some_iff.1 h
          exact ⟨hy.1, ih _ _ (by simp only [Sur.len] at *; omega) hx hy.2 h'⟩
        · rw [sumP_both q] at h
          split at h
          · exact absurd h (by simp)
          · obtain ⟨z', h', rfl⟩ := Option.map_eq_some_iff.1 h
            have hl := ih _ _ (by simp only [Sur.len] at *; omega) hx.2 hy.2 h'
            split
            · exact hl
            · exact ⟨hx.1, hl⟩
        · rw [sumP_left (.inr ⟨_, _, _, _, rfl, q⟩)] at h
          obtain ⟨z', h', rfl⟩ := Option.map_eq_some_iff.1 h
          exact ⟨hx.1, ih _ _ (by simp only [Sur.len] at *; omega) hx.2 hy h'⟩

theorem sumP_g (N : Nat) : ∀ (x y : Sur), x.len + y.len ≤ N → x.All GOk → y.All GOk → Dec x → Dec y → ∀ {z : Sur}, sumP x y = some z → z.All GOk ∧ Dec z := by
  induction N with
  | zero =>
    intro x y hN _ _ _ _ z h
    cases x with
    | cons => simp [Sur.len] at hN
    | nil =>
      cases y with
      | cons => simp [Sur.len] at hN
      | nil => simp [sumP] at h; subst h; exact ⟨trivial, trivial⟩
  | succ N ih =>
    intro x y hN hx hy dx dy z h
    cases y with
    | nil => rw [sumP_nil] at h; simp only [Option.some.injEq] at h; subst h; exact ⟨hx, dx⟩
    | cons e n d r =>
      cases x with
      | nil => simp only [sumP, Option.some.injEq] at h; subst h; exact ⟨hy, dy⟩
      | cons e' n' d' r' =>
        have hn := order_neg e' e
        rcases order_range e' e with q | q | q
        · rw [sumP_right (.inr ⟨_, _, _, _, rfl, q⟩)] at h
          obtain ⟨z', h', rfl⟩ := Option.map_eq_some_iff.1 h
          obtain ⟨i1, i2⟩ := ih _ _ (by simp only [Sur.len] at *; omega) hx hy.2.2 dx dy.2 h'
          have q' : order e e' = 1 := by omega
          exact ⟨⟨hy.1, hy.2.1, i1⟩, sumP_lt _ _ _ (Nat.le_refl _) (show Lt e (.cons e' n' d' r') from ⟨q', Lt.tr hy.1 hx.1 q' hx.2.2 dx.1⟩) dy.1 h', i2⟩
        · have he := order_eq e' e hx.1 hy.1 q
          subst he
          rw [sumP_both q] at h
          split at h
          · exact absurd h (by simp)
          · rename_i p s hf
            obtain ⟨z', h', rfl⟩ := Option.map_eq_some_iff.1 h
            obtain ⟨i1, i2⟩ := ih _ _ (by simp only [Sur.len] at *; omega) hx.2.2 hy.2.2 dx.2 dy.2 h'
            have hl := sumP_lt _ _ _ (Nat.le_refl _) dx.1 dy.1 h'
            split
            · exact ⟨i1, i2⟩
            · rename_i hp
              exact ⟨⟨hx.1, ⟨((fAdd_iff hx.2.1.1 hy.2.1.1).1 hf).1, hp⟩, i1⟩, hl, i2⟩
        · rw [sumP_left (.inr ⟨_, _, _, _, rfl, q⟩)] at h
          obtain ⟨z', h', rfl⟩ := Option.map_eq_some_iff.1 h
          obtain ⟨i1, i2⟩ := ih _ _ (by simp only [Sur.len] at *; omega) hx.2.2 hy dx.2 dy h'
          exact ⟨⟨hx.1, hx.2.1, i1⟩, sumP_lt _ _ _ (Nat.le_refl _) dx.1 (show Lt e' (.cons e n d r) from ⟨q, Lt.tr hx.1 hy.1 q hy.2.2 dy.1⟩) h', i2⟩

/-- a sum whose second part lies below its first term -/
theorem sumP_low {e x y : Sur} {n d : Int} (h : Lt e y) : sumP (.cons e n d x) y = (sumP x y).map (.cons e n d ·) := by
  cases y with
  | nil => rw [sumP_nil, sumP_nil]; rfl
  | cons e' n' d' r' => exact sumP_left (.inr ⟨_, _, _, _, rfl, h.1⟩)
theorem sumP_high {e x y : Sur} {n d : Int} (h : Lt e x) : sumP x (.cons e n d y) = (sumP x y).map (.cons e n d ·) := by
  cases x with
  | nil => simp [sumP]
  | cons e' n' d' r' => exact sumP_right (.inr ⟨_, _, _, _, rfl, by have := order_neg e e'; have := h.1; omega⟩)

theorem sumP_undo (N : Nat) : ∀ (x y : Sur), x.len + y.len ≤ N → x.All GOk → y.All GOk → Dec x → Dec y → ∀ {z : Sur}, sumP x y = some z → sumP z (negP y) = some x := by
  induction N with
  | zero =>
    intro x y hN _ _ _ _ z h
    cases x with
    | cons => simp [Sur.len] at hN
    | nil =>
      cases y with
      | cons => simp [Sur.len] at hN
      | nil => simp [sumP] at h; subst h; simp [negP, sumP]
  | succ N ih =>
    intro x y hN hx hy dx dy z h
    cases y with
    | nil => rw [sumP_nil] at h; simp only [negP]; rw [sumP_nil, h]
    | cons e n d r =>
      have hneg := hy.2.1.1.negI
      simp only [negP]
      rw [hneg]
      cases x with
      | nil =>
        simp only [sumP, Option.some.injEq] at h
        subst h
        rw [sumP_both (order_self _), fAdd_opp hy.2.1.1]
        simp only [if_true]
        rw [ih .nil r (by simp only [Sur.len] at *; omega) trivial hy.2.2 trivial dy.2 (show sumP .nil r = some r by simp [sumP])]
        rfl
      | cons e' n' d' r' =>
        rcases order_range e' e with q | q | q
        · rw [sumP_right (.inr ⟨_, _, _, _, rfl, q⟩)] at h
          obtain ⟨z', h', rfl⟩ := Option.map_eq_some_iff.1 h
          rw [sumP_both (order_self _), fAdd_opp hy.2.1.1]
          simp only [if_true]
          rw [ih _ r (by simp only [Sur.len] at *; omega) hx hy.2.2 dx dy.2 h']
          rfl
        · have he := order_eq e' e hx.1 hy.1 q
          subst he
          rw [sumP_both q] at h
          split at h
          · exact absurd h (by simp)
          · rename_i p s hf
            obtain ⟨z', h', rfl⟩ := Option.map_eq_some_iff.1 h
            have i := ih _ r (by simp only [Sur.len] at *; omega) hx.2.2 hy.2.2 dx.2 dy.2 h'
            have hl := sumP_lt _ _ _ (Nat.le_refl _) dx.1 dy.1 h'
            split
            · rename_i hp
              subst hp
              obtain ⟨e1, e2⟩ := fAdd_zero hx.2.1.1 hy.2.1.1 hf
              rw [sumP_high hl, i, e1, e2, Int.neg_neg]
              rfl
            · rename_i hp
              rw [sumP_both (order_self _), fAdd_undo hx.2.1.1 hy.2.1.1 hf]
              simp only [i, Option.map_some, if_neg hx.2.1.2]
        · rw [sumP_left (.inr ⟨_, _, _, _, rfl, q⟩)] at h
          obtain ⟨z', h', rfl⟩ := Option.map_eq_some_iff.1 h
          have hn := order_neg e' e
          have i := ih r' (.cons e n d r) (by simp only [Sur.len] at *; omega) hx.2.2 hy dx.2 dy h'
          simp only [negP] at i
          rw [hneg] at i
          rw [sumP_left (.inr ⟨_, _, _, _, rfl, q⟩), i]
          rfl

theorem negP_nodes : ∀ (x : Sur), (negP x).nodes = x.nodes
  | .nil => rfl
  | .cons e n d r => by simp only [negP, Sur.nodes, negP_nodes r]
theorem formT_neg : ∀ {x : Sur} {deep : Int} {prev : Option Sur}, formT deep prev x = true → formT deep prev (negP x) = true
  | .nil, _, _, _ => rfl
  | .cons e n d r, deep, prev, h => by
    simp only [formT, Bool.and_eq_true, decide_eq_true_eq] at h
    obtain ⟨h1, h2, h3, h4, h5, h6⟩ := h
    have i := formT_neg h6
    have f : FOk n d := h1
    simp only [negP, formT, Bool.and_eq_true, decide_eq_true_eq]
    rw [f.negI]
    exact ⟨f.neg, by omega, h3, h4, h5, i⟩
theorem sGood_neg {x : Sur} (h : sGood x = true) : sGood (negP x) = true := by
  simp only [sGood, sOk, Bool.and_eq_true] at *
  rw [negP_nodes]
  exact ⟨h.1, h.2.1, formT_neg h.2.2⟩
theorem negS_good {x : Sur} (h : sGood x = true) : negS x = some (negP x) := by
  unfold negS
  rw [if_pos h]
  exact told_good (sGood_neg h)

theorem addS_some {x y z : Sur} (h : addS x y = some z) : sGood x = true ∧ sGood y = true ∧ sumP x y = some z ∧ sGood z = true := by
  have hz := addS_good h
  unfold addS at h
  split at h
  · rename_i hg
    simp only [Bool.and_eq_true] at hg
    obtain ⟨u, hu, h⟩ := Option.bind_eq_some_iff.1 h
    obtain ⟨rfl, _, _⟩ := told_eq h
    exact ⟨hg.1, hg.2, hu, hz⟩
  · exact absurd h (by simp)
theorem addS_of {x y z : Sur} (hx : sGood x = true) (hy : sGood y = true) (h : sumP x y = some z) (hz : sGood z = true) : addS x y = some z := by
  unfold addS
  rw [hx, hy, h]
  exact told_good hz
/-- the same both ways round -/
theorem addS_comm (x y : Sur) : addS x y = addS y x := by
  have key : ∀ {x y z : Sur}, addS x y = some z → addS y x = some z := by
    intro x y z h
    obtain ⟨a, b, c, d⟩ := addS_some h
    exact addS_of b a (by rw [← sumP_comm _ x y (Nat.le_refl _) (sGood_g a).1 (sGood_g b).1]; exact c) d
  cases h : addS x y with
  | some z => exact (key h).symm
  | none =>
    cases h' : addS y x with
    | none => rfl
    | some z => rw [key h'] at h; exact absurd h (by simp)
/-- undone -/
theorem addS_undo {x y z : Sur} (h : addS x y = some z) : addS z (negP y) = some x := by
  obtain ⟨a, b, c, d⟩ := addS_some h
  have ga := sGood_g a
  have gb := sGood_g b
  exact addS_of d (sGood_neg b) (sumP_undo _ x y (Nat.le_refl _) ga.1 gb.1 ga.2 gb.2 c) a

theorem scaleT_two : ∀ {x : Sur}, x.All GOk → scaleT 2 1 x = sumP x x
  | .nil, _ => by simp [scaleT, sumP]
  | .cons e n d r, h => by
    rw [sumP_both (order_self _), scaleT, fMul_two h.2.1.1, scaleT_two h.2.2]
    cases hf : fAdd n d n d with
    | none => rfl
    | some pq =>
      obtain ⟨p, q⟩ := pq
      have hp : p ≠ 0 := by
        intro h0
        subst h0
        have := (fAdd_zero h.2.1.1 h.2.1.1 hf).1
        have := h.2.1.2
        omega
      simp only [if_neg hp]
/-- twice a number -/
theorem scaleS_two (x : Sur) : scaleS x 2 1 = addS x x := by
  unfold scaleS addS
  cases hg : sGood x with
  | false => rfl
  | true =>
    have h2 : fracOk 2 1 = true := by decide
    rw [h2]
    simp only [Bool.and_self, if_true, scaleP, if_neg (show ¬ ((2 : Int) = 0) by omega)]
    rw [scaleT_two (sGood_g hg).1]
end Go.Proofs.YtonlfnbjbmgegaaGreat

namespace Go.Proofs.YtonlfnbjbmgegaaGreat
open Go.RowKit
set_option linter.unusedSimpArgs false
set_option linter.unusedVariables false

/-- a fraction as a rational number -/
def rat (n d : Int) : Rat := (n : Rat) / (d : Rat)
theorem castNe {d : Int} (h : 0 < d) : (d : Rat) ≠ 0 := by exact_mod_cast (by omega : d ≠ 0)
theorem rat_add {n d n' d' p q : Int} (h : FOk n d) (h' : FOk n' d') (hs : fAdd n d n' d' = some (p, q)) : rat p q = rat n d + rat n' d' := by
  obtain ⟨a, b⟩ := (fAdd_iff h h').1 hs
  have h1 := castNe h.pos
  have h2 := castNe h'.pos
  have h3 := castNe a.pos
  have h4 : (p : Rat) * (d * d') = (n * d' + n' * d) * q := by exact_mod_cast b
  unfold rat
  grind
theorem fMul_iff {n d n' d' p q : Int} (h : FOk n d) (h' : FOk n' d') : fMultiply n d n' d' = some (p, q) ↔ (FOk p q ∧ p * (d * d') = (n * n') * q) := by
  unfold fMultiply two
  rw [if_pos ⟨h, h'⟩]
  exact made_iff (Int.mul_pos h.pos h'.pos)
theorem rat_mul {n d n' d' p q : Int} (h : FOk n d) (h' : FOk n' d') (hs : fMultiply n d n' d' = some (p, q)) : rat p q = rat n d * rat n' d' := by
  obtain ⟨a, b⟩ := (fMul_iff h h').1 hs
  have h1 := castNe h.pos
  have h2 := castNe h'.pos
  have h3 := castNe a.pos
  have h4 : (p : Rat) * (d * d') = (n * n') * q := by exact_mod_cast b
  unfold rat
  grind
theorem rat_lt {n d n' d' : Int} (h : 0 < d) (h' : 0 < d') : rat n d < rat n' d' ↔ n * d' < n' * d := by
  have h1 : (0 : Rat) < d := by exact_mod_cast h
  have h2 : (0 : Rat) < d' := by exact_mod_cast h'
  unfold rat
  rw [Rat.lt_div_iff h2]
  have e : (n : Rat) / d * d' = (n * d') / d := by grind
  rw [e, Rat.div_lt_iff h1]
  constructor
  · intro k; exact_mod_cast k
  · intro k; exact_mod_cast k
theorem rat_eq {n d n' d' : Int} (h : 0 < d) (h' : 0 < d') (k : rat n d = rat n' d') : n * d' = n' * d := by
  have h1 := castNe h
  have h2 := castNe h'
  unfold rat at k
  have : (n : Rat) * d' = n' * d := by grind
  exact_mod_cast this
theorem rat_inj {n d n' d' : Int} (h : FOk n d) (h' : FOk n' d') (k : rat n d = rat n' d') : n = n' ∧ d = d' :=
  cmpF_eq h h' (cmpI_zero.2 (rat_eq h.pos h'.pos k))
theorem rat_zero (d : Int) : rat 0 d = 0 := by
  unfold rat
  rw [show ((0 : Int) : Rat) = 0 from rfl]
  grind
theorem rat_pos {n d : Int} (h : 0 < d) : 0 < rat n d ↔ 0 < n := by
  have := rat_lt (n := 0) (d := 1) (n' := n) (by omega) h
  rw [rat_zero] at this
  rw [this]
  omega
theorem rat_neg {n d : Int} (h : 0 < d) : rat n d < 0 ↔ n < 0 := by
  have := rat_lt (n := n) (d := d) (n' := 0) (d' := 1) h (by omega)
  rw [rat_zero] at this
  rw [this]
  omega
theorem rat_ne {n d : Int} (h : GOk n d) : rat n d ≠ 0 := by
  intro k
  have h1 := (rat_pos (n := n) h.1.pos)
  have h2 := (rat_neg (n := n) h.1.pos)
  rw [k] at h1 h2
  have h3 : ¬ (0 : Rat) < 0 := by grind
  have h4 : ¬ 0 < n := fun q => h3 (h1.2 q)
  have h5 : ¬ n < 0 := fun q => h3 (h2.2 q)
  exact h.2 (by omega)

open Classical in
/-- the coefficient of a power -/
noncomputable def co : Sur → Sur → Rat
  | .nil, _ => 0
  | .cons e n d r, f => (if e = f then rat n d else 0) + co r f
theorem co_self {e r : Sur} {n d : Int} : co (.cons e n d r) e = rat n d + co r e := by simp [co]
theorem co_ne {e r f : Sur} {n d : Int} (h : e ≠ f) : co (.cons e n d r) f = co r f := by simp only [co, if_neg h]; grind
theorem order_ne {e f : Sur} (h : order e f = 1) : e ≠ f := by rintro rfl; rw [order_self] at h; omega
theorem order_ne' {e f : Sur} (h : order e f = 1) : f ≠ e := fun k => order_ne h k.symm
theorem co_lt {f : Sur} : ∀ {x : Sur}, Lt f x → co x f = 0
  | .nil, _ => rfl
  | .cons e n d r, h => by rw [co_ne (order_ne' h.1)]; exact co_lt h.2
theorem order_flip {x y : Sur} : order x y = -1 ↔ order y x = 1 := by rw [order_neg y x]; omega
theorem order_eqI {x y : Sur} (hx : x.All GOk) (hy : y.All GOk) (h : order x y = 0) : x = y := order_eq x y hx hy h

/-- a number is told by its coefficients -/
theorem co_inj : ∀ {x y : Sur}, x.All GOk → Dec x → y.All GOk → Dec y → (∀ f, co x f = co y f) → x = y
  | .nil, .nil, _, _, _, _, _ => rfl
  | .nil, .cons e n d r, _, _, hy, dy, h => by
    have := h e
    rw [co_self, co_lt dy.1] at this
    simp only [co] at this
    exact absurd (by grind) (rat_ne hy.2.1)
  | .cons e n d r, .nil, hx, dx, _, _, h => by
    have := h e
    rw [co_self, co_lt dx.1] at this
    simp only [co] at this
    exact absurd (by grind) (rat_ne hx.2.1)
  | .cons e n d r, .cons e' n' d' r', hx, dx, hy, dy, h => by
    rcases order_range e e' with q | q | q
    · have q' := order_flip.1 q
      have := h e'
      rw [co_self, co_lt dy.1, co_ne (order_ne' q'), co_lt (Lt.tr hy.1 hx.1 q' hx.2.2 dx.1)] at this
      exact absurd (by grind) (rat_ne hy.2.1)
    · obtain rfl := order_eqI hx.1 hy.1 q
      have := h e
      rw [co_self, co_self, co_lt dx.1, co_lt dy.1] at this
      obtain ⟨rfl, rfl⟩ := rat_inj hx.2.1.1 hy.2.1.1 (by grind)
      rw [co_inj hx.2.2 dx.2 hy.2.2 dy.2 (fun f => by have := h f; simp only [co] at this; grind)]
    · have := h e
      rw [co_self, co_lt dx.1, co_ne (order_ne' q), co_lt (Lt.tr hx.1 hy.1 q hy.2.2 dy.1)] at this
      exact absurd (by grind) (rat_ne hx.2.1)

theorem co_term {z : Sur} {p q : Int} (f : Sur) : co (termP z p q) f = co (.cons z p q .nil) f := by
  unfold termP
  split
  · rename_i h
    subst h
    simp only [co, rat_zero]
    split <;> grind
  · rfl
/-- sums add coefficients -/
theorem co_sum (N : Nat) : ∀ (x y : Sur), x.len + y.len ≤ N → x.All GOk → y.All GOk → ∀ {z : Sur}, sumP x y = some z → ∀ f, co z f = co x f + co y f := by
  induction N with
  | zero =>
    intro x y hN _ _ z h f
    cases x with
    | cons => simp [Sur.len] at hN
    | nil =>
      simp only [sumP, Option.some.injEq] at h
      subst h
      simp only [co]; grind
  | succ N ih =>
    intro x y hN hx hy z h f
    cases x with
    | nil =>
      simp only [sumP, Option.some.injEq] at h
      subst h
      simp only [co]; grind
    | cons e n d r =>
      cases y with
      | nil =>
        simp only [sumP, Option.some.injEq] at h
        subst h
        simp only [co]; grind
      | cons e' n' d' r' =>
        simp only [Sur.len] at hN
        rw [sumP] at h
        split at h
        · obtain ⟨u, hu, rfl⟩ := Option.map_eq_some_iff.1 h
          have := ih r _ (by simp only [Sur.len]; omega) hx.2.2 hy hu f
          simp only [co] at this ⊢
          grind
        · split at h
          · obtain ⟨u, hu, rfl⟩ := Option.map_eq_some_iff.1 h
            have := ih _ r' (by simp only [Sur.len]; omega) hx hy.2.2 hu f
            simp only [co] at this ⊢
            grind
          · have q : order e e' = 0 := by rcases order_range e e' with q | q | q <;> omega
            obtain rfl := order_eqI hx.1 hy.1 q
            cases hf : fAdd n d n' d' with
            | none => rw [hf] at h; cases h
            | some v =>
              obtain ⟨p, k⟩ := v
              rw [hf] at h
              obtain ⟨u, hu, rfl⟩ := Option.map_eq_some_iff.1 h
              have := ih r r' (by omega) hx.2.2 hy.2.2 hu f
              have hr := rat_add hx.2.1.1 hy.2.1.1 hf
              split
              · rename_i hp
                have hp' : p = 0 := hp
                subst hp'
                rw [rat_zero] at hr
                simp only [co]
                split <;> grind
              · simp only [co]
                split <;> grind
theorem co_addS {x y z : Sur} (h : addS x y = some z) (f : Sur) : co z f = co x f + co y f := by
  obtain ⟨a, b, c, _⟩ := addS_some h
  exact co_sum _ x y (Nat.le_refl _) (sGood_g a).1 (sGood_g b).1 c f

open Classical in
/-- one term times a number: the coefficient of a power -/
noncomputable def rowC (e : Sur) (c : Rat) : Sur → Sur → Rat
  | .nil, _ => 0
  | .cons e' n' d' r, f => (if addS e e' = some f then c * rat n' d' else 0) + rowC e c r f
noncomputable def mulC (y : Sur) : Sur → Sur → Rat
  | .nil, _ => 0
  | .cons e n d r, f => rowC e (rat n d) y f + mulC y r f
theorem addS_inj {e a b f : Sur} (h : addS e a = some f) (h' : addS e b = some f) : a = b := by
  rw [addS_comm] at h h'
  have h1 := addS_undo h
  have h2 := addS_undo h'
  rw [h1] at h2
  injection h2
theorem rowC_at {e t f : Sur} {c : Rat} (h : addS e t = some f) : ∀ (y : Sur), rowC e c y f = c * co y t
  | .nil => by simp only [rowC, co]; grind
  | .cons e' n' d' r => by
    have ih := rowC_at h (c := c) r
    simp only [rowC, co]
    rw [ih]
    by_cases k : e' = t
    · subst k
      rw [if_pos h, if_pos rfl]; grind
    · rw [if_neg (fun h' => k (addS_inj h' h)), if_neg k]; grind
theorem rowC_no {e f : Sur} {c : Rat} (h : ∀ t, addS e t ≠ some f) : ∀ (y : Sur), rowC e c y f = 0
  | .nil => rfl
  | .cons e' n' d' r => by simp only [rowC, if_neg (h e'), rowC_no h r]; grind
theorem rowC_add {e f y z s : Sur} {c : Rat} (h : ∀ g, co s g = co y g + co z g) : rowC e c s f = rowC e c y f + rowC e c z f := by
  by_cases k : ∃ t, addS e t = some f
  · obtain ⟨t, ht⟩ := k
    rw [rowC_at ht, rowC_at ht, rowC_at ht, h t]; grind
  · have k' : ∀ t, addS e t ≠ some f := fun t ht => k ⟨t, ht⟩
    rw [rowC_no k', rowC_no k', rowC_no k']; grind
theorem mulC_add {y z s f : Sur} (h : ∀ g, co s g = co y g + co z g) : ∀ (x : Sur), mulC s x f = mulC y x f + mulC z x f
  | .nil => by simp only [mulC]; grind
  | .cons e n d r => by
    have h1 := rowC_add (e := e) (c := rat n d) (f := f) h
    have h2 := mulC_add (f := f) h r
    simp only [mulC]
    grind

theorem termP_g {z : Sur} {p q : Int} (hz : z.All GOk) (h : FOk p q) : (termP z p q).All GOk ∧ Dec (termP z p q) := by
  unfold termP
  split
  · exact ⟨trivial, trivial⟩
  · rename_i hp
    exact ⟨⟨hz, ⟨h, hp⟩, trivial⟩, trivial, trivial⟩
theorem mulIn_co {e : Sur} {n d : Int} (h : FOk n d) : ∀ {y out z : Sur}, y.All GOk → out.All GOk → Dec out → mulIn e n d y out = some z → z.All GOk ∧ Dec z ∧ ∀ f, co z f = co out f + rowC e (rat n d) y f
  | .nil, out, z, _, ho, dq, hm => by
    simp only [mulIn, Option.some.injEq] at hm
    subst hm
    exact ⟨ho, dq, fun f => by simp only [rowC]; grind⟩
  | .cons e' n' d' r, out, z, hy, ho, dq, hm => by
    simp only [mulIn] at hm
    split at hm
    · rename_i t p q ht hf
      obtain ⟨u, hu, hr⟩ := Option.bind_eq_some_iff.1 hm
      have gt := sGood_g (addS_good ht)
      have hpq := ((fMul_iff h hy.2.1.1).1 hf).1
      obtain ⟨g1, g2⟩ := termP_g gt.1 hpq
      obtain ⟨g3, g4⟩ := sumP_g _ out _ (Nat.le_refl _) ho g1 dq g2 hu
      obtain ⟨a, b, c⟩ := mulIn_co h hy.2.2 g3 g4 hr
      refine ⟨a, b, fun f => ?_⟩
      have hr := rat_mul h hy.2.1.1 hf
      rw [c f, co_sum _ out _ (Nat.le_refl _) ho g1 hu f, co_term]
      simp only [rowC, co, ht, Option.some.injEq, hr]
      by_cases k : t = f
      · rw [if_pos k, if_pos (show addS e e' = some f by rw [ht, k])]; grind
      · rw [if_neg k, if_neg (show ¬ addS e e' = some f from fun q => k (by rw [ht] at q; injection q))]; grind
    · cases hm
theorem mulOut_co {y : Sur} (hy : y.All GOk) : ∀ {x out z : Sur}, x.All GOk → out.All GOk → Dec out → mulOut y x out = some z → z.All GOk ∧ Dec z ∧ ∀ f, co z f = co out f + mulC y x f
  | .nil, out, z, _, ho, dq, hm => by
    simp only [mulOut, Option.some.injEq] at hm
    subst hm
    exact ⟨ho, dq, fun f => by simp only [mulC]; grind⟩
  | .cons e n d r, out, z, hx, ho, dq, hm => by
    obtain ⟨u, hu, hr⟩ := Option.bind_eq_some_iff.1 hm
    obtain ⟨a, b, c⟩ := mulIn_co hx.2.1.1 hy ho dq hu
    obtain ⟨a', b', c'⟩ := mulOut_co hy hx.2.2 a b hr
    refine ⟨a', b', fun f => ?_⟩
    rw [c' f, c f]
    simp only [mulC]
    grind
theorem mulS_some {x y z : Sur} (h : mulS x y = some z) : sGood x = true ∧ sGood y = true ∧ mulOut y x .nil = some z ∧ sGood z = true := by
  unfold mulS at h
  split at h
  · rename_i hg
    simp only [Bool.and_eq_true] at hg
    obtain ⟨u, hu, ht⟩ := Option.bind_eq_some_iff.1 h
    obtain ⟨rfl, _, hgz⟩ := told_eq ht
    exact ⟨hg.1, hg.2, hu, hgz⟩
  · cases h
theorem mulS_co {x y z : Sur} (h : mulS x y = some z) (f : Sur) : co z f = mulC y x f := by
  obtain ⟨gx, gy, hm, _⟩ := mulS_some h
  have := (mulOut_co (sGood_g gy).1 (sGood_g gx).1 (show Sur.All GOk .nil from trivial) (show Dec .nil from trivial) hm).2.2 f
  rw [this]
  simp only [co]; grind
theorem good_inj {x y : Sur} (gx : sGood x = true) (gy : sGood y = true) (h : ∀ f, co x f = co y f) : x = y :=
  co_inj (sGood_g gx).1 (sGood_g gx).2 (sGood_g gy).1 (sGood_g gy).2 h
/-- products distribute -/
theorem mulS_distrib {x y z s a p b c : Sur} (hs : addS y z = some s) (ha : mulS x s = some a) (hp : mulS x y = some p) (hb : mulS x z = some b) (hc : addS p b = some c) : a = c :=
  good_inj (mulS_some ha).2.2.2 (addS_good hc) fun f => by
    rw [mulS_co ha f, co_addS hc f, mulS_co hp f, mulS_co hb f]
    exact mulC_add (co_addS hs) x

/-- greater, by the first coefficient that differs -/
def GtF (u v : Sur → Rat) : Prop := ∃ g : Sur, g.All GOk ∧ v g < u g ∧ ∀ h : Sur, h.All GOk → order h g = 1 → u h = v h
theorem lt_cons {h e r : Sur} {n d : Int} (hh : h.All GOk) (hx : (Sur.cons e n d r).All GOk) (dx : Dec (.cons e n d r)) (q : order h e = 1) : Lt h (.cons e n d r) := ⟨q, Lt.tr hh hx.1 q hx.2.2 dx.1⟩
theorem gt_of_order : ∀ {x y : Sur}, x.All GOk → Dec x → y.All GOk → Dec y → order x y = 1 → GtF (co x) (co y)
  | .nil, .nil, _, _, _, _, h => absurd h order_nn
  | .nil, .cons e n d r, _, _, hy, dy, h => by
    have hn := (rat_neg hy.2.1.1.pos).2 (order_nc.1 h)
    refine ⟨e, hy.1, ?_, fun k hk hq => ?_⟩
    · rw [co_self, co_lt dy.1]; simp only [co]; grind
    · rw [co_lt (lt_cons hk hy dy hq)]; rfl
  | .cons e n d r, .nil, hx, dx, _, _, h => by
    have hn := (rat_pos hx.2.1.1.pos).2 (order_cn.1 h)
    refine ⟨e, hx.1, ?_, fun k hk hq => ?_⟩
    · rw [co_self, co_lt dx.1]; simp only [co]; grind
    · rw [co_lt (lt_cons hk hx dx hq)]; rfl
  | .cons e n d r, .cons e' n' d' r', hx, dx, hy, dy, h => by
    rcases order_cc.1 h with ⟨q, hn⟩ | ⟨q, hn⟩ | ⟨q, hc⟩ | ⟨q, hc, hr⟩
    · have hn := (rat_pos hx.2.1.1.pos).2 hn
      refine ⟨e, hx.1, ?_, fun k hk hq => ?_⟩
      · rw [co_self, co_lt dx.1, co_lt (lt_cons hx.1 hy dy q)]; grind
      · rw [co_lt (lt_cons hk hx dx hq), co_lt (lt_cons hk hy dy (order_tr hk hx.1 hy.1 hq q))]
    · have hn := (rat_neg hy.2.1.1.pos).2 hn
      have q := order_flip.1 q
      refine ⟨e', hy.1, ?_, fun k hk hq => ?_⟩
      · rw [co_self, co_lt dy.1, co_lt (lt_cons hy.1 hx dx q)]; grind
      · rw [co_lt (lt_cons hk hy dy hq), co_lt (lt_cons hk hx dx (order_tr hk hy.1 hx.1 hq q))]
    · obtain rfl := order_eqI hx.1 hy.1 q
      have hl := (rat_lt hy.2.1.1.pos hx.2.1.1.pos).2 hc
      refine ⟨e, hx.1, ?_, fun k hk hq => ?_⟩
      · rw [co_self, co_self, co_lt dx.1, co_lt dy.1]; grind
      · rw [co_lt (lt_cons hk hx dx hq), co_lt (lt_cons hk hy dy hq)]
    · obtain rfl := order_eqI hx.1 hy.1 q
      obtain ⟨rfl, rfl⟩ := cmpF_eq hx.2.1.1 hy.2.1.1 (cmpI_zero.2 hc)
      obtain ⟨g, hg, h1, h2⟩ := gt_of_order hx.2.2 dx.2 hy.2.2 dy.2 hr
      refine ⟨g, hg, ?_, fun k hk hq => ?_⟩
      · simp only [co]; grind
      · have := h2 k hk hq
        simp only [co]; grind
theorem GtF.irr {u v : Sur → Rat} (h : GtF u v) (k : ∀ f, u f = v f) : False := by
  obtain ⟨g, _, h1, _⟩ := h
  rw [k g] at h1
  grind
theorem GtF.asym {u v : Sur → Rat} (h : GtF u v) (k : GtF v u) : False := by
  obtain ⟨g, hg, h1, h2⟩ := h
  obtain ⟨g', hg', k1, k2⟩ := k
  rcases order_range g g' with q | q | q
  · have := h2 g' hg' (order_flip.1 q); grind
  · obtain rfl := order_eqI hg hg' q; grind
  · have := k2 g hg q; grind
theorem order_of_gt {x y : Sur} (hx : x.All GOk) (dx : Dec x) (hy : y.All GOk) (dy : Dec y) (h : GtF (co x) (co y)) : order x y = 1 := by
  rcases order_range x y with q | q | q
  · exact (h.asym (gt_of_order hy dy hx dx (order_flip.1 q))).elim
  · obtain rfl := order_eqI hx hy q
    exact (h.irr fun _ => rfl).elim
  · exact q
theorem GtF.add {u v u' v' : Sur → Rat} (h : GtF u v) (k : GtF u' v') : GtF (fun f => u f + u' f) (fun f => v f + v' f) := by
  obtain ⟨g, hg, h1, h2⟩ := h
  obtain ⟨g', hg', k1, k2⟩ := k
  rcases order_range g g' with q | q | q
  · have q := order_flip.1 q
    refine ⟨g', hg', ?_, fun f hf hq => ?_⟩
    · have := h2 g' hg' q
      simp only []
      grind
    · have := h2 f hf (order_tr hf hg' hg hq q)
      have := k2 f hf hq
      simp only []
      grind
  · obtain rfl := order_eqI hg hg' q
    refine ⟨g, hg, ?_, fun f hf hq => ?_⟩
    · simp only []
      grind
    · have := h2 f hf hq
      have := k2 f hf hq
      simp only []
      grind
  · refine ⟨g, hg, ?_, fun f hf hq => ?_⟩
    · have := k2 g hg q
      simp only []
      grind
    · have := h2 f hf hq
      have := k2 f hf (order_tr hf hg hg' hq q)
      simp only []
      grind
theorem GtF.addEq {u v u' v' : Sur → Rat} (h : GtF u v) (k : ∀ f, u' f = v' f) : GtF (fun f => u f + u' f) (fun f => v f + v' f) := by
  obtain ⟨g, hg, h1, h2⟩ := h
  refine ⟨g, hg, ?_, fun f hf hq => ?_⟩
  · have := k g
    simp only []
    grind
  · have := h2 f hf hq
    have := k f
    simp only []
    grind
theorem GtF.congr {u v u' v' : Sur → Rat} (h : GtF u v) (k : ∀ f, u' f = u f) (k' : ∀ f, v' f = v f) : GtF u' v' := by
  obtain ⟨g, hg, h1, h2⟩ := h
  exact ⟨g, hg, by rw [k, k']; exact h1, fun f hf hq => by rw [k, k']; exact h2 f hf hq⟩

/-- e + e' is E; then s + t is less where s or t is less -/
theorem sum_less {e e' E s t f : Sur} (hE : addS e e' = some E) (hf : addS s t = some f) (hs : s = e ∨ order e s = 1) (ht : t = e' ∨ order e' t = 1) : (s = e ∧ t = e' ∧ f = E) ∨ order E f = 1 := by
  obtain ⟨ge, ge', _, gE⟩ := addS_some hE
  obtain ⟨gs, gt, _, gf⟩ := addS_some hf
  obtain ⟨ae, de⟩ := sGood_g ge
  obtain ⟨ae', de'⟩ := sGood_g ge'
  obtain ⟨aE, dE⟩ := sGood_g gE
  obtain ⟨aS, ds⟩ := sGood_g gs
  obtain ⟨at', dt⟩ := sGood_g gt
  obtain ⟨af, df⟩ := sGood_g gf
  rcases hs with rfl | hs
  · rcases ht with rfl | ht
    · rw [hE] at hf; injection hf with hf
      exact .inl ⟨rfl, rfl, hf.symm⟩
    · refine .inr (order_of_gt aE dE af df (((gt_of_order ae' de' at' dt ht).addEq (u' := co s) (v' := co s) fun _ => rfl).congr (fun k => ?_) (fun k => ?_)))
      · rw [co_addS hE k]; grind
      · rw [co_addS hf k]; grind
  · rcases ht with rfl | ht
    · refine .inr (order_of_gt aE dE af df (((gt_of_order ae de aS ds hs).addEq (u' := co t) (v' := co t) fun _ => rfl).congr (fun k => ?_) (fun k => ?_)))
      · rw [co_addS hE k]
      · rw [co_addS hf k]
    · refine .inr (order_of_gt aE dE af df (((gt_of_order ae de aS ds hs).add (gt_of_order ae' de' at' dt ht)).congr (fun k => ?_) (fun k => ?_)))
      · rw [co_addS hE k]
      · rw [co_addS hf k]
theorem row_zero {e e' r' E s f : Sur} {n' d' : Int} {c : Rat} (hE : addS e e' = some E) (hy : (Sur.cons e' n' d' r').All GOk) (dy : Dec (.cons e' n' d' r')) (hs : s = e ∨ order e s = 1) (hf : order f E = 1 ∨ (f = E ∧ order e s = 1)) : rowC s c (.cons e' n' d' r') f = 0 := by
  by_cases k : ∃ t, addS s t = some f
  · obtain ⟨t, ht⟩ := k
    have at' := (sGood_g (addS_some ht).2.1).1
    have key : order t e' = 1 := by
      rcases order_range t e' with q | q | q
      · rcases sum_less hE ht hs (.inr (order_flip.1 q)) with ⟨rfl, rfl, rfl⟩ | h
        · rw [order_self] at q; omega
        · rcases hf with hf | ⟨rfl, _⟩
          · have := order_neg f E; omega
          · have := order_self f; omega
      · obtain rfl := order_eqI at' hy.1 q
        rcases sum_less hE ht hs (.inl rfl) with ⟨rfl, _, rfl⟩ | h
        · rcases hf with hf | ⟨_, hf⟩
          · rw [order_self] at hf; omega
          · rw [order_self] at hf; omega
        · rcases hf with hf | ⟨rfl, _⟩
          · have := order_neg f E; omega
          · have := order_self f; omega
      · exact q
    rw [rowC_at ht, co_lt (lt_cons at' hy dy key)]; grind
  · exact rowC_no (fun t ht => k ⟨t, ht⟩) _
theorem mulC_zero {e e' r' E f : Sur} {n' d' : Int} (hE : addS e e' = some E) (hy : (Sur.cons e' n' d' r').All GOk) (dy : Dec (.cons e' n' d' r')) (hf : order f E = 1 ∨ f = E) : ∀ {r : Sur}, Lt e r → mulC (.cons e' n' d' r') r f = 0
  | .nil, _ => rfl
  | .cons s n d r, hl => by
    simp only [mulC]
    rw [row_zero hE hy dy (.inr hl.1) (hf.imp id fun h => ⟨h, hl.1⟩), mulC_zero hE hy dy hf hl.2]
    grind
/-- the first term of a product -/
theorem mulS_lead {e e' r r' p : Sur} {n d n' d' : Int} (h : mulS (.cons e n d r) (.cons e' n' d' r') = some p) : ∃ E n'' d'' r'', p = .cons E n'' d'' r'' ∧ GOk n'' d'' ∧ rat n'' d'' = rat n d * rat n' d' := by
  obtain ⟨gx, gy, hm, gp⟩ := mulS_some h
  obtain ⟨hx, dx⟩ := sGood_g gx
  obtain ⟨hy, dy⟩ := sGood_g gy
  obtain ⟨hp, dp⟩ := sGood_g gp
  obtain ⟨E, hE⟩ : ∃ E, addS e e' = some E := by
    obtain ⟨u, hu, _⟩ := Option.bind_eq_some_iff.1 hm
    simp only [mulIn] at hu
    split at hu
    · rename_i t p q ht hf
      exact ⟨t, ht⟩
    · cases hu
  have gE := (addS_some hE).2.2.2
  obtain ⟨aE, dE⟩ := sGood_g gE
  have hco := mulS_co h
  have hhi : ∀ f, order f E = 1 → co p f = 0 := fun f hf => by
    rw [hco f]
    simp only [mulC]
    rw [row_zero hE hy dy (.inl rfl) (.inl hf), mulC_zero hE hy dy (.inl hf) dx.1]
    grind
  have hlo : co p E = rat n d * rat n' d' := by
    rw [hco E]
    simp only [mulC]
    rw [mulC_zero hE hy dy (.inr rfl) dx.1, rowC_at hE, co_self, co_lt dy.1]
    grind
  have h1 := rat_ne hx.2.1
  have h2 := rat_ne hy.2.1
  cases p with
  | nil =>
    simp only [co] at hlo
    exfalso
    grind
  | cons e'' n'' d'' r'' =>
    refine ⟨e'', n'', d'', r'', rfl, hp.2.1, ?_⟩
    rcases order_range e'' E with q | q | q
    · have := co_lt (lt_cons aE hp dp (order_flip.1 q))
      rw [this] at hlo
      exfalso
      grind
    · obtain rfl := order_eqI hp.1 aE q
      rw [co_self, co_lt dp.1] at hlo
      rw [← hlo]
      grind
    · have := hhi e'' q
      rw [co_self, co_lt dp.1] at this
      exact absurd (by grind) (rat_ne hp.2.1)
/-- the sign -/
def sgS : Sur → Int
  | .nil => 0
  | .cons _ n _ _ => if 0 < n then 1 else -1
theorem sgS_mul {x y p : Sur} (h : mulS x y = some p) : sgS p = sgS x * sgS y := by
  obtain ⟨gx, gy, hm, gp⟩ := mulS_some h
  obtain ⟨hx, dx⟩ := sGood_g gx
  obtain ⟨hy, dy⟩ := sGood_g gy
  cases x with
  | nil =>
    simp only [mulOut, Option.some.injEq] at hm
    subst hm
    simp [sgS]
  | cons e n d r =>
    cases y with
    | nil =>
      have : ∀ (x : Sur), mulOut .nil x .nil = some .nil := fun x => by
        induction x with
        | nil => rfl
        | cons e n d r _ ih => simp only [mulOut, mulIn, Option.bind_some]; exact ih
      rw [this] at hm
      injection hm with hm
      subst hm
      simp [sgS]
    | cons e' n' d' r' =>
      obtain ⟨E, n'', d'', r'', rfl, hg, hr⟩ := mulS_lead h
      have a1 := rat_pos (n := n) hx.2.1.1.pos
      have a2 := rat_pos (n := n') hy.2.1.1.pos
      have a3 := rat_pos (n := n'') hg.1.pos
      have b1 := rat_neg (n := n) hx.2.1.1.pos
      have b2 := rat_neg (n := n') hy.2.1.1.pos
      have b3 := rat_neg (n := n'') hg.1.pos
      have c1 := hx.2.1.2
      have c2 := hy.2.1.2
      have c3 := hg.2
      simp only [sgS]
      generalize rat n d = q1 at *
      generalize rat n' d' = q2 at *
      generalize rat n'' d'' = q3 at *
      subst hr
      by_cases k1 : 0 < n
      · by_cases k2 : 0 < n'
        · have := a3.1 (Rat.mul_pos (a1.2 k1) (a2.2 k2))
          rw [if_pos k1, if_pos k2, if_pos this]; rfl
        · have h2 := b2.2 (by omega)
          have : q1 * q2 < 0 := by
            have := Rat.mul_pos (a1.2 k1) (show 0 < -q2 by grind)
            grind
          have := b3.1 this
          rw [if_pos k1, if_neg k2, if_neg (by omega)]; rfl
      · have h1 := b1.2 (by omega)
        by_cases k2 : 0 < n'
        · have : q1 * q2 < 0 := by
            have := Rat.mul_pos (show 0 < -q1 by grind) (a2.2 k2)
            grind
          have := b3.1 this
          rw [if_neg k1, if_pos k2, if_neg (by omega)]; rfl
        · have h2 := b2.2 (by omega)
          have : 0 < q1 * q2 := by
            have := Rat.mul_pos (show 0 < -q1 by grind) (show 0 < -q2 by grind)
            grind
          have := a3.1 this
          rw [if_neg k1, if_neg k2, if_pos this]; rfl

/-- OmegaTo -/
def omS (x : Sur) : Option Sur := told (termP x 1 1) (sGood x)
theorem omS_some {x v : Sur} (h : omS x = some v) : v = .cons x 1 1 .nil ∧ sGood x = true := by
  obtain ⟨rfl, g, _⟩ := told_eq h
  exact ⟨by simp [termP], g⟩
theorem mul_one1 : fMultiply 1 1 1 1 = some (1, 1) := (fMul_iff (show fracOk 1 1 = true by decide) (show fracOk 1 1 = true by decide)).2 ⟨show fracOk 1 1 = true by decide, by omega⟩
/-- powers of omega add their exponents -/
theorem omS_mul {x y v w u : Sur} (hv : omS x = some v) (hw : omS y = some w) (hu : mulS v w = some u) : ∃ e, addS x y = some e ∧ u = .cons e 1 1 .nil := by
  obtain ⟨rfl, _⟩ := omS_some hv
  obtain ⟨rfl, _⟩ := omS_some hw
  obtain ⟨_, _, hm, _⟩ := mulS_some hu
  simp only [mulOut, mulIn, mul_one1] at hm
  rcases ha : addS x y with _ | e
  · rw [ha] at hm; simp at hm
  · rw [ha] at hm
    simp [sumP, termP, mulIn, mulOut] at hm
    exact ⟨e, rfl, hm.symm⟩
end Go.Proofs.YtonlfnbjbmgegaaGreat

namespace Go.Proofs.YtonlfnbjbmgegaaGreat
open Go.RowKit
set_option linter.unusedSimpArgs false
set_option linter.unusedVariables false

/-- exponents as functions -/
abbrev Gam := Sur → Rat
abbrev Fnl := (Gam → Rat) → Rat
def gadd (g h : Gam) : Gam := fun s => g s + h s
def gz : Gam := fun _ => 0
theorem gadd_comm (g h : Gam) : gadd g h = gadd h g := by funext s; simp only [gadd]; grind
theorem gadd_assoc (g h k : Gam) : gadd (gadd g h) k = gadd g (gadd h k) := by funext s; simp only [gadd]; grind
theorem gadd_zero (g : Gam) : gadd g gz = g := by funext s; simp only [gadd, gz]; grind
theorem zero_gadd (g : Gam) : gadd gz g = g := by funext s; simp only [gadd, gz]; grind
noncomputable def fn : Sur → Fnl
  | .nil, _ => 0
  | .cons e n d r, f => rat n d * f (co e) + fn r f
def fmul (S T : Fnl) : Fnl := fun f => S fun g => T fun h => f (gadd g h)
def fone : Fnl := fun f => f gz
def Lin (T : Fnl) : Prop := ∀ (a b : Rat) (f k : Gam → Rat), T (fun g => a * f g + b * k g) = a * T f + b * T k
/-- linear, and the order of two of them does not matter -/
structure Nice (S : Fnl) : Prop where
  lin : Lin S
  fub : ∀ (T : Fnl), Lin T → ∀ f : Gam → Gam → Rat, S (fun g => T (fun h => f g h)) = T (fun h => S (fun g => f g h))
theorem Lin.zero {T : Fnl} (h : Lin T) : T (fun _ => 0) = 0 := by
  have := h 0 0 (fun _ => 0) (fun _ => 0)
  have e : (fun _ : Gam => (0 : Rat) * 0 + 0 * 0) = fun _ => 0 := by funext g; grind
  rw [e] at this
  grind
theorem Lin.add {T : Fnl} (h : Lin T) (f k : Gam → Rat) : T (fun g => f g + k g) = T f + T k := by
  have := h 1 1 f k
  have e : (fun g : Gam => (1 : Rat) * f g + 1 * k g) = fun g => f g + k g := by funext g; grind
  rw [e] at this
  grind
theorem Lin.smul {T : Fnl} (h : Lin T) (a : Rat) (f : Gam → Rat) : T (fun g => a * f g) = a * T f := by
  have := h a 0 f f
  have e : (fun g : Gam => a * f g + 0 * f g) = fun g => a * f g := by funext g; grind
  rw [e] at this
  grind
theorem fn_lin : ∀ (x : Sur), Lin (fn x)
  | .nil => fun a b f k => by simp only [fn]; grind
  | .cons e n d r => fun a b f k => by
    have := fn_lin r a b f k
    simp only [fn]
    grind
theorem fn_nice (x : Sur) : Nice (fn x) := ⟨fn_lin x, fun T hT f => by
  induction x with
  | nil => simp only [fn]; exact (hT.zero).symm
  | cons e n d r _ ih =>
    simp only [fn]
    have k := hT (rat n d) 1 (fun h => f (co e) h) (fun h => fn r fun g => f g h)
    have e : (fun h => rat n d * f (co e) h + 1 * fn r fun g => f g h) = fun h => rat n d * f (co e) h + fn r fun g => f g h := by funext h; grind
    rw [e] at k
    rw [ih, k]
    grind⟩
theorem fone_nice : Nice fone := ⟨fun a b f k => rfl, fun T hT f => rfl⟩
theorem Nice.mul {S T : Fnl} (hS : Nice S) (hT : Nice T) : Nice (fmul S T) := ⟨fun a b f k => by
    unfold fmul
    rw [← hS.lin]
    congr 1
    funext g
    exact hT.lin a b _ _,
  fun U hU f => by
    unfold fmul
    rw [← hS.fub U hU]
    congr 1
    funext g
    exact hT.fub U hU _⟩
theorem Nice.add {S T : Fnl} (hS : Nice S) (hT : Nice T) : Nice (fun f => S f + T f) := ⟨fun a b f k => by
    rw [hS.lin, hT.lin]; grind,
  fun U hU f => by
    rw [hS.fub U hU, hT.fub U hU, ← hU.add]⟩
theorem Nice.smul {S : Fnl} (hS : Nice S) (c : Rat) : Nice (fun f => c * S f) := ⟨fun a b f k => by
    rw [hS.lin]; grind,
  fun U hU f => by
    rw [hS.fub U hU, ← hU.smul]⟩
theorem Nice.zero : Nice (fun _ => 0) := ⟨fun a b f k => by grind, fun U hU f => hU.zero.symm⟩
theorem fmul_comm {S T : Fnl} (hS : Nice S) (hT : Nice T) : fmul S T = fmul T S := by
  funext f
  unfold fmul
  rw [hS.fub T hT.lin]
  congr 1
  funext h
  congr 1
  funext g
  rw [gadd_comm]
theorem fmul_assoc (S T U : Fnl) : fmul (fmul S T) U = fmul S (fmul T U) := by
  funext f
  simp only [fmul, gadd_assoc]
theorem fone_mul (S : Fnl) : fmul fone S = S := by funext f; simp only [fmul, fone, zero_gadd]
theorem fmul_one (S : Fnl) : fmul S fone = S := by funext f; simp only [fmul, fone, gadd_zero]
theorem fmul_add_right {S : Fnl} (hS : Nice S) (T U : Fnl) : fmul S (fun f => T f + U f) = fun f => fmul S T f + fmul S U f := by
  funext f
  exact hS.lin.add _ _
theorem fmul_add_left (S T U : Fnl) : fmul (fun f => S f + T f) U = fun f => fmul S U f + fmul T U f := rfl
theorem fmul_smul_right {S : Fnl} (hS : Nice S) (c : Rat) (T : Fnl) : fmul S (fun f => c * T f) = fun f => c * fmul S T f := by
  funext f
  exact hS.lin.smul c _
theorem fmul_smul_left (S T : Fnl) (c : Rat) : fmul (fun f => c * S f) T = fun f => c * fmul S T f := rfl
theorem fmul_zero_right {S : Fnl} (hS : Nice S) : fmul S (fun _ => 0) = fun _ => 0 := by funext f; exact hS.lin.zero
def fpow (S : Fnl) : Nat → Fnl
  | 0 => fone
  | k + 1 => fmul (fpow S k) S
theorem Nice.pow {S : Fnl} (hS : Nice S) : ∀ k, Nice (fpow S k)
  | 0 => fone_nice
  | k + 1 => (Nice.pow hS k).mul hS
theorem fpow_add {S : Fnl} (i : Nat) : ∀ j, fmul (fpow S i) (fpow S j) = fpow S (i + j)
  | 0 => fmul_one _
  | j + 1 => by
    show fmul (fpow S i) (fmul (fpow S j) S) = fmul (fpow S (i + j)) S
    rw [← fmul_assoc, fpow_add i j]

/- the program's arithmetic -/
theorem fn_term (z : Sur) (p q : Int) (f : Gam → Rat) : fn (termP z p q) f = rat p q * f (co z) := by
  unfold termP
  split
  · rename_i h
    subst h
    simp only [fn, rat_zero]; grind
  · simp only [fn]; grind
theorem fn_app : ∀ (x y : Sur) (f : Gam → Rat), fn (x.app y) f = fn x f + fn y f
  | .nil, y, f => by simp only [Sur.app, fn]; grind
  | .cons e n d r, y, f => by
    have := fn_app r y f
    simp only [Sur.app, fn]
    grind
theorem fn_sumP (N : Nat) : ∀ (x y : Sur), x.len + y.len ≤ N → x.All GOk → y.All GOk → ∀ {z : Sur}, sumP x y = some z → ∀ f, fn z f = fn x f + fn y f := by
  induction N with
  | zero =>
    intro x y hN _ _ z h f
    cases x with
    | cons => simp [Sur.len] at hN
    | nil =>
      simp only [sumP, Option.some.injEq] at h
      subst h
      simp only [fn]; grind
  | succ N ih =>
    intro x y hN hx hy z h f
    cases x with
    | nil =>
      simp only [sumP, Option.some.injEq] at h
      subst h
      simp only [fn]; grind
    | cons e n d r =>
      cases y with
      | nil =>
        simp only [sumP, Option.some.injEq] at h
        subst h
        simp only [fn]; grind
      | cons e' n' d' r' =>
        simp only [Sur.len] at hN
        rw [sumP] at h
        split at h
        · obtain ⟨u, hu, rfl⟩ := Option.map_eq_some_iff.1 h
          have := ih r _ (by simp only [Sur.len]; omega) hx.2.2 hy hu f
          simp only [fn] at this ⊢
          grind
        · split at h
          · obtain ⟨u, hu, rfl⟩ := Option.map_eq_some_iff.1 h
            have := ih _ r' (by simp only [Sur.len]; omega) hx hy.2.2 hu f
            simp only [fn] at this ⊢
            grind
          · have q : order e e' = 0 := by rcases order_range e e' with q | q | q <;> omega
            obtain rfl := order_eqI hx.1 hy.1 q
            cases hf : fAdd n d n' d' with
            | none => rw [hf] at h; cases h
            | some v =>
              obtain ⟨p, k⟩ := v
              rw [hf] at h
              obtain ⟨u, hu, rfl⟩ := Option.map_eq_some_iff.1 h
              have := ih r r' (by omega) hx.2.2 hy.2.2 hu f
              have hr := rat_add hx.2.1.1 hy.2.1.1 hf
              split
              · rename_i hp
                have hp' : p = 0 := hp
                subst hp'
                rw [rat_zero] at hr
                simp only [fn]
                grind
              · simp only [fn]
                grind
theorem fn_addS {x y z : Sur} (h : addS x y = some z) : fn z = fun f => fn x f + fn y f := by
  funext f
  obtain ⟨a, b, c, _⟩ := addS_some h
  exact fn_sumP _ x y (Nat.le_refl _) (sGood_g a).1 (sGood_g b).1 c f
theorem fn_negP : ∀ {x : Sur}, x.All FOk → ∀ f, fn (negP x) f = - fn x f
  | .nil, _, f => by simp only [negP, fn]; grind
  | .cons e n d r, h, f => by
    have ih := fn_negP h.2.2 f
    have e1 : rat (negI n) d = - rat n d := by
      rw [FOk.negI h.2.1]
      unfold rat
      rw [show ((-n : Int) : Rat) = -(n : Rat) by exact_mod_cast rfl]
      grind
    simp only [negP, fn]
    rw [e1, ih]
    grind
theorem negP_negP : ∀ {x : Sur}, x.All FOk → negP (negP x) = x
  | .nil, _ => rfl
  | .cons e n d r, h => by
    simp only [negP]
    rw [negP_negP h.2.2, FOk.negI h.2.1, FOk.negI h.2.1.neg]
    simp
theorem negP_allI : ∀ {x : Sur}, x.All FOk → (negP x).All FOk
  | .nil, _ => trivial
  | .cons e n d r, h => ⟨h.1, by rw [FOk.negI h.2.1]; exact h.2.1.neg, negP_allI h.2.2⟩
theorem subS_some {x y z : Sur} (h : subS x y = some z) (hy : y.All FOk) : sGood x = true ∧ sGood z = true ∧ fn z = fun f => fn x f - fn y f := by
  obtain ⟨a, b, c, d⟩ := addS_some h
  refine ⟨a, d, ?_⟩
  rw [fn_addS h]
  funext f
  rw [fn_negP hy f]
  grind
theorem fn_mulIn {e : Sur} {n d : Int} (h : FOk n d) : ∀ {y out z : Sur}, y.All GOk → out.All GOk → Dec out → mulIn e n d y out = some z → ∀ f, fn z f = fn out f + rat n d * fn y (fun k => f (gadd (co e) k))
  | .nil, out, z, _, ho, dq, hm, f => by
    simp only [mulIn, Option.some.injEq] at hm
    subst hm
    simp only [fn]; grind
  | .cons e' n' d' r, out, z, hy, ho, dq, hm, f => by
    simp only [mulIn] at hm
    split at hm
    · rename_i t p q ht hf
      obtain ⟨u, hu, hr⟩ := Option.bind_eq_some_iff.1 hm
      have gt := sGood_g (addS_good ht)
      have hpq := ((fMul_iff h hy.2.1.1).1 hf).1
      obtain ⟨g1, g2⟩ := termP_g gt.1 hpq
      obtain ⟨g3, g4⟩ := sumP_g _ out _ (Nat.le_refl _) ho g1 dq g2 hu
      have c := fn_mulIn h hy.2.2 g3 g4 hr f
      have hr := rat_mul h hy.2.1.1 hf
      have hg : co t = gadd (co e) (co e') := by funext s; exact co_addS ht s
      rw [c, fn_sumP _ out _ (Nat.le_refl _) ho g1 hu f, fn_term, hr, hg]
      simp only [fn]
      grind
    · cases hm
theorem fn_mulOut {y : Sur} (hy : y.All GOk) : ∀ {x out z : Sur}, x.All GOk → out.All GOk → Dec out → mulOut y x out = some z → ∀ f, fn z f = fn out f + fmul (fn x) (fn y) f
  | .nil, out, z, _, ho, dq, hm, f => by
    simp only [mulOut, Option.some.injEq] at hm
    subst hm
    simp only [fmul, fn]; grind
  | .cons e n d r, out, z, hx, ho, dq, hm, f => by
    obtain ⟨u, hu, hr⟩ := Option.bind_eq_some_iff.1 hm
    obtain ⟨a, b, _⟩ := mulIn_co hx.2.1.1 hy ho dq hu
    have c := fn_mulIn hx.2.1.1 hy ho dq hu f
    have c' := fn_mulOut hy hx.2.2 a b hr f
    rw [c', c]
    simp only [fmul, fn]
    grind
theorem fn_mulS {x y z : Sur} (h : mulS x y = some z) : fn z = fmul (fn x) (fn y) := by
  obtain ⟨gx, gy, hm, _⟩ := mulS_some h
  funext f
  have := fn_mulOut (sGood_g gy).1 (sGood_g gx).1 (show Sur.All GOk .nil from trivial) (show Dec .nil from trivial) hm f
  rw [this]
  simp only [fn]; grind
theorem fn_scaleT {a b : Int} (hab : FOk a b) : ∀ {x z : Sur}, x.All GOk → scaleT a b x = some z → ∀ f, fn z f = rat a b * fn x f
  | .nil, z, _, h, f => by
    simp only [scaleT, Option.some.injEq] at h
    subst h
    simp only [fn]; grind
  | .cons e n d r, z, hx, h, f => by
    simp only [scaleT] at h
    split at h
    · cases h
    · rename_i p q hf
      obtain ⟨u, hu, rfl⟩ := Option.map_eq_some_iff.1 h
      have ih := fn_scaleT hab hx.2.2 hu f
      have hr := rat_mul hx.2.1.1 hab hf
      simp only [fn]
      rw [hr, ih]
      grind
theorem scaleS_some {x z : Sur} {a b : Int} (h : scaleS x a b = some z) : sGood x = true ∧ FOk a b ∧ sGood z = true ∧ fn z = fun f => rat a b * fn x f := by
  unfold scaleS at h
  split at h
  · rename_i hg
    simp only [Bool.and_eq_true] at hg
    obtain ⟨u, hu, ht⟩ := Option.bind_eq_some_iff.1 h
    obtain ⟨rfl, _, hgz⟩ := told_eq ht
    refine ⟨hg.1, hg.2, hgz, ?_⟩
    funext f
    unfold scaleP at hu
    split at hu
    · rename_i ha
      subst ha
      simp only [Option.some.injEq] at hu
      subst hu
      simp only [fn, rat_zero]; grind
    · exact fn_scaleT hg.2 (sGood_g hg.1).1 hu f
  · cases h
theorem fn_one : fn (.cons .nil 1 1 .nil) = fone := by
  funext f
  have e : co .nil = gz := by funext s; rfl
  simp only [fn, fone, e]
  unfold rat
  grind

/- a number is told by its functional -/
/-- exponents that are right numbers -/
def ExG : Sur → Prop
  | .nil => True
  | .cons e _ _ r => (e.All GOk ∧ Dec e) ∧ ExG r
theorem formT_exG : ∀ {x : Sur} {deep : Int} {prev : Option Sur}, formT deep prev x = true → ExG x
  | .nil, _, _, _ => trivial
  | .cons e n d r, deep, prev, h => by
    simp only [formT, Bool.and_eq_true, decide_eq_true_eq] at h
    exact ⟨⟨formT_g h.2.2.2.1, (formT_dec h.2.2.2.1).1⟩, formT_exG h.2.2.2.2.2⟩
theorem sGood_exG {x : Sur} (h : sGood x = true) : ExG x := by
  simp only [sGood, sOk, Bool.and_eq_true] at h
  exact formT_exG h.2.2
open Classical in
noncomputable def ind (g : Gam) : Gam → Rat := fun h => if h = g then 1 else 0
theorem fn_ind {f : Sur} (hf : f.All GOk) (df : Dec f) : ∀ {x : Sur}, ExG x → fn x (ind (co f)) = co x f
  | .nil, _ => rfl
  | .cons e n d r, h => by
    have ih := fn_ind hf df h.2
    simp only [fn, co]
    rw [ih]
    by_cases k : e = f
    · subst k
      simp only [ind, if_pos]; grind
    · have : ¬ co e = co f := fun q => k (co_inj h.1.1 h.1.2 hf df fun s => congrFun q s)
      simp only [ind, if_neg this, if_neg k]; grind
theorem co_bad {f : Sur} (hf : ¬ (f.All GOk ∧ Dec f)) : ∀ {x : Sur}, ExG x → co x f = 0
  | .nil, _ => rfl
  | .cons e n d r, h => by
    have ih := co_bad hf h.2
    have hne : e ≠ f := by rintro rfl; exact hf h.1
    rw [co_ne hne]
    exact ih
theorem fn_inj {x y : Sur} (gx : sGood x = true) (gy : sGood y = true) (h : fn x = fn y) : x = y :=
  good_inj gx gy fun f => by
    by_cases hf : f.All GOk ∧ Dec f
    · rw [← fn_ind hf.1 hf.2 (sGood_exG gx), ← fn_ind hf.1 hf.2 (sGood_exG gy), h]
    · rw [co_bad hf (sGood_exG gx), co_bad hf (sGood_exG gy)]

/- bounds of exponents -/
/-- all exponents lie in P -/
def Sup (T : Fnl) (P : Gam → Prop) : Prop := ∀ f k : Gam → Rat, (∀ g, P g → f g = k g) → T f = T k
theorem Sup.mono {T : Fnl} {P Q : Gam → Prop} (h : Sup T P) (k : ∀ g, P g → Q g) : Sup T Q := fun f j q => h f j fun g hg => q g (k g hg)
theorem Sup.mul {S T : Fnl} {P Q R : Gam → Prop} (hS : Sup S P) (hT : Sup T Q) (k : ∀ g h, P g → Q h → R (gadd g h)) : Sup (fmul S T) R := fun f j q => by
  unfold fmul
  exact hS _ _ fun g hg => hT _ _ fun h hh => q _ (k g h hg hh)
/-- at most -/
def LeF (u v : Gam) : Prop := u = v ∨ GtF v u
def gsm (k : Nat) (g : Gam) : Gam := fun s => (k : Rat) * g s
theorem GtF.trans {u v w : Sur → Rat} (h : GtF u v) (k : GtF v w) : GtF u w := by
  obtain ⟨g, hg, h1, h2⟩ := h
  obtain ⟨g', hg', k1, k2⟩ := k
  rcases order_range g g' with q | q | q
  · have q := order_flip.1 q
    exact ⟨g', hg', by have := h2 g' hg' q; grind, fun f hf hq => by
      have := h2 f hf (order_tr hf hg' hg hq q)
      have := k2 f hf hq
      grind⟩
  · obtain rfl := order_eqI hg hg' q
    exact ⟨g, hg, by grind, fun f hf hq => by
      have := h2 f hf hq
      have := k2 f hf hq
      grind⟩
  · exact ⟨g, hg, by have := k2 g hg q; grind, fun f hf hq => by
      have := h2 f hf hq
      have := k2 f hf (order_tr hf hg hg' hq q)
      grind⟩
theorem LeF.trans {u v w : Gam} (h : LeF u v) (k : LeF v w) : LeF u w := by
  rcases h with rfl | h
  · exact k
  · rcases k with rfl | k
    · exact .inr h
    · exact .inr (k.trans h)
theorem LeF.add {u v u' v' : Gam} (h : LeF u v) (k : LeF u' v') : LeF (gadd u u') (gadd v v') := by
  rcases h with rfl | h
  · rcases k with rfl | k
    · exact .inl rfl
    · exact .inr ((k.addEq (u' := u) (v' := u) fun _ => rfl).congr (fun f => by simp only [gadd]; grind) (fun f => by simp only [gadd]; grind))
  · rcases k with rfl | k
    · exact .inr (h.addEq (u' := u') (v' := u') fun _ => rfl)
    · exact .inr (h.add k)
theorem LeF.gt {u v w : Gam} (h : LeF u v) (k : GtF w v) : GtF w u := by
  rcases h with rfl | h
  · exact k
  · exact k.trans h
theorem gsm_succ (k : Nat) (g : Gam) : gsm (k + 1) g = gadd (gsm k g) g := by
  funext s
  simp only [gsm, gadd]
  rw [show ((k + 1 : Nat) : Rat) = (k : Rat) + 1 by exact_mod_cast rfl]
  grind
theorem gsm_zero (g : Gam) : gsm 0 g = gz := by
  funext s
  simp only [gsm, gz]
  rw [show ((0 : Nat) : Rat) = 0 from rfl]
  grind
theorem gsm_add (i j : Nat) (g : Gam) : gadd (gsm i g) (gsm j g) = gsm (i + j) g := by
  funext s
  simp only [gsm, gadd]
  rw [show ((i + j : Nat) : Rat) = (i : Rat) + j by exact_mod_cast rfl]
  grind
theorem gsm_down {m : Gam} (h : GtF gz m) (k : Nat) : GtF (gsm k m) (gsm (k + 1) m) :=
  (h.addEq (u' := gsm k m) (v' := gsm k m) fun _ => rfl).congr (fun f => by simp only [gz]; grind) (fun f => by rw [gsm_succ]; simp only [gadd]; grind)
theorem gsm_le {m : Gam} (h : GtF gz m) (k : Nat) : ∀ j, LeF (gsm (k + j) m) (gsm k m)
  | 0 => .inl rfl
  | j + 1 => LeF.trans (.inr (gsm_down h (k + j))) (gsm_le h k j)
/-- all exponents are at most k times m -/
def Ups (m : Gam) (k : Nat) (T : Fnl) : Prop := Sup T fun g => LeF g (gsm k m)
theorem Ups.mul {m : Gam} {i j : Nat} {S T : Fnl} (hS : Ups m i S) (hT : Ups m j T) : Ups m (i + j) (fmul S T) :=
  Sup.mul hS hT fun g h hg hh => by rw [← gsm_add]; exact hg.add hh
theorem Ups.one {m : Gam} : Ups m 0 fone := fun f k h => h _ (.inl (gsm_zero m).symm)
theorem Ups.pow {m : Gam} {S : Fnl} (h : Ups m 1 S) : ∀ k, Ups m k (fpow S k)
  | 0 => Ups.one
  | k + 1 => (Ups.pow h k).mul h
theorem Ups.down {m : Gam} {T : Fnl} {i j : Nat} (h : Ups m j T) (hm : GtF gz m) (hij : i ≤ j) : Ups m i T :=
  Sup.mono h fun g hg => by
    obtain ⟨k, rfl⟩ := Nat.exists_eq_add_of_le hij
    exact hg.trans (gsm_le hm i k)
/-- a test function that sees nothing at most n times m -/
def Off (m : Gam) (n : Nat) (f : Gam → Rat) : Prop := ∀ g, LeF g (gsm n m) → f g = 0
theorem Ups.off {m : Gam} {n : Nat} {T : Fnl} (h : Ups m n T) (hT : Lin T) {f : Gam → Rat} (hf : Off m n f) : T f = 0 :=
  (h f (fun _ => 0) hf).trans hT.zero
/-- all exponents lie in P -/
def ExP (P : Gam → Prop) : Sur → Prop
  | .nil => True
  | .cons e _ _ r => P (co e) ∧ ExP P r
theorem fn_sup {P : Gam → Prop} : ∀ {x : Sur}, ExP P x → Sup (fn x) P
  | .nil, _ => fun f k q => rfl
  | .cons e n d r, h => fun f k q => by
    have := fn_sup h.2 f k q
    simp only [fn]
    rw [q _ h.1, this]
/-- the exponents of a right number are at most its first one -/
theorem exP_lead {e : Sur} (he : e.All GOk) (de : Dec e) : ∀ {r : Sur}, ExG r → Lt e r → ExP (fun g => LeF g (co e)) r
  | .nil, _, _ => trivial
  | .cons e' n d r, h, hl => ⟨.inr (gt_of_order he de h.1.1 h.1.2 hl.1), exP_lead he de h.2 hl.2⟩
theorem fn_lead {e r : Sur} {n d : Int} (g : sGood (.cons e n d r) = true) : Sup (fn (.cons e n d r)) fun u => LeF u (co e) := by
  have h := sGood_exG g
  have k := sGood_g g
  exact fn_sup ⟨.inl rfl, exP_lead h.1.1 h.1.2 h.2 k.2.1⟩
theorem ExP.mono {P Q : Gam → Prop} (h : ∀ g, P g → Q g) : ∀ {x : Sur}, ExP P x → ExP Q x
  | .nil, _ => trivial
  | .cons _ _ _ _, k => ⟨h _ k.1, ExP.mono h k.2⟩
/-- the first exponent of a number all of whose exponents lie in P (as a functional) lies there -/
theorem lead_in {e r : Sur} {n d : Int} {P : Gam → Prop} (g : sGood (.cons e n d r) = true) (h : Sup (fn (.cons e n d r)) P) : P (co e) := by
  have hx := sGood_exG g
  have hg := sGood_g g
  by_cases hp : P (co e)
  · exact hp
  · have h1 := h (ind (co e)) (fun _ => 0) fun u hu => by
      have : u ≠ co e := fun q => hp (q ▸ hu)
      simp only [ind, if_neg this]
    rw [(fn_lin _).zero, fn_ind hx.1.1 hx.1.2 hx, co_self, co_lt hg.2.1] at h1
    exact absurd (by grind) (rat_ne hg.1.2.1)
end Go.Proofs.YtonlfnbjbmgegaaGreat

namespace Go.Proofs.YtonlfnbjbmgegaaGreat
set_option linter.unusedSimpArgs false
set_option linter.unusedVariables false

def sm : Nat → (Nat → Rat) → Rat
  | 0, _ => 0
  | n + 1, a => sm n a + a n
theorem sm_congr {a b : Nat → Rat} : ∀ {n : Nat}, (∀ i, i < n → a i = b i) → sm n a = sm n b
  | 0, _ => rfl
  | n + 1, h => by
    simp only [sm]
    rw [sm_congr (fun i hi => h i (by omega)), h n (by omega)]
theorem sm_add (a b : Nat → Rat) : ∀ n, sm n (fun i => a i + b i) = sm n a + sm n b
  | 0 => by simp only [sm]; grind
  | n + 1 => by simp only [sm]; rw [sm_add a b n]; grind
theorem sm_smul (c : Rat) (a : Nat → Rat) : ∀ n, sm n (fun i => c * a i) = c * sm n a
  | 0 => by simp only [sm]; grind
  | n + 1 => by simp only [sm]; rw [sm_smul c a n]; grind
theorem sm_zero : ∀ {n : Nat} {a : Nat → Rat}, (∀ i, i < n → a i = 0) → sm n a = 0
  | 0, _, _ => rfl
  | n + 1, a, h => by
    simp only [sm]
    rw [sm_zero (fun i hi => h i (by omega)), h n (by omega)]; grind
theorem sm_shift (a : Nat → Rat) : ∀ n, sm (n + 1) a = a 0 + sm n (fun i => a (i + 1))
  | 0 => by simp only [sm]; grind
  | n + 1 => by
    have := sm_shift a n
    simp only [sm] at this ⊢
    rw [this]; grind
theorem sm_swap (c : Nat → Nat → Rat) (m : Nat) : ∀ n, sm n (fun i => sm m (fun j => c i j)) = sm m (fun j => sm n (fun i => c i j))
  | 0 => by simp only [sm]; exact (sm_zero fun _ _ => rfl).symm
  | n + 1 => by
    simp only [sm]
    rw [sm_swap c m n, ← sm_add]
/-- what is 0 from m on need not be summed -/
theorem sm_cut {a : Nat → Rat} {m : Nat} : ∀ {n : Nat}, m ≤ n → (∀ i, m ≤ i → i < n → a i = 0) → sm n a = sm m a
  | 0, h, _ => by
    obtain rfl : m = 0 := by omega
    rfl
  | n + 1, h, k => by
    by_cases e : m = n + 1
    · subst e; rfl
    · simp only [sm]
      rw [sm_cut (n := n) (by omega) (fun i hi hn => k i hi (by omega)), k n (by omega) (by omega)]; grind
theorem sm_from {a : Nat → Rat} (i : Nat) : ∀ (n : Nat), sm n (fun j => a j) = sm (i + n) (fun k => if i ≤ k then a (k - i) else 0)
  | 0 => by
    rw [sm_zero (n := i + 0)]
    · rfl
    · intro k hk
      rw [if_neg (by omega)]
  | n + 1 => by
    rw [show i + (n + 1) = (i + n) + 1 by omega]
    simp only [sm]
    rw [sm_from i n, if_pos (by omega), show i + n - i = n by omega]
/-- a square of terms that are 0 beyond the diagonal -/
theorem sm_tri {b : Nat → Nat → Rat} {n : Nat} (h : ∀ i j, n ≤ i + j → b i j = 0) : sm n (fun i => sm n (fun j => b i j)) = sm n (fun k => sm (k + 1) (fun i => b i (k - i))) := by
  have e1 : sm n (fun i => sm n (fun j => b i j)) = sm n (fun i => sm n (fun k => if i ≤ k then b i (k - i) else 0)) := sm_congr fun i hi => by
    rw [sm_cut (m := n - i) (n := n) (by omega) (fun j hj hn => h i j (by omega)), sm_from (a := b i) i (n - i), show i + (n - i) = n by omega]
  rw [e1, sm_swap]
  exact sm_congr fun k hk => by
    rw [sm_cut (m := k + 1) (n := n) (by omega) (fun i hi hn => if_neg (by omega))]
    exact sm_congr fun i hi => if_pos (by omega)
theorem castS (k : Nat) : ((k + 1 : Nat) : Rat) = (k : Rat) + 1 := by exact_mod_cast rfl
theorem castP (k : Nat) : ((k + 1 : Nat) : Rat) ≠ 0 := by
  have : (k + 1 : Nat) ≠ 0 := by omega
  exact_mod_cast this
/-- the product rule -/
theorem sm_D (c : Nat → Nat → Rat) (k : Nat) : ((k + 1 : Nat) : Rat) * sm (k + 2) (fun i => c i (k + 1 - i)) = sm (k + 1) (fun i => ((i + 1 : Nat) : Rat) * c (i + 1) (k - i)) + sm (k + 1) (fun i => ((k - i + 1 : Nat) : Rat) * c i (k - i + 1)) := by
  rw [← sm_smul]
  have e : sm (k + 2) (fun i => ((k + 1 : Nat) : Rat) * c i (k + 1 - i)) = sm (k + 2) (fun i => (i : Rat) * c i (k + 1 - i) + ((k + 1 - i : Nat) : Rat) * c i (k + 1 - i)) := sm_congr fun i hi => by
    have : ((k + 1 : Nat) : Rat) = (i : Rat) + ((k + 1 - i : Nat) : Rat) := by
      have : k + 1 = i + (k + 1 - i) := by omega
      rw [this]
      have h2 : i + (k + 1 - i) - i = k + 1 - i := by omega
      rw [h2]
      exact_mod_cast rfl
    rw [this]; grind
  rw [e, sm_add, sm_shift]
  congr 1
  · rw [show ((0 : Nat) : Rat) = 0 from rfl]
    have : sm (k + 1) (fun i => ((i + 1 : Nat) : Rat) * c (i + 1) (k + 1 - (i + 1))) = sm (k + 1) (fun i => ((i + 1 : Nat) : Rat) * c (i + 1) (k - i)) := sm_congr fun i hi => by rw [show k + 1 - (i + 1) = k - i by omega]
    rw [this]; grind
  · simp only [sm]
    rw [show k + 1 - (k + 1) = 0 by omega, show ((0 : Nat) : Rat) = 0 from rfl]
    have : sm (k + 1) (fun i => ((k + 1 - i : Nat) : Rat) * c i (k + 1 - i)) = sm (k + 1) (fun i => ((k - i + 1 : Nat) : Rat) * c i (k - i + 1)) := sm_congr fun i hi => by rw [show k + 1 - i = k - i + 1 by omega]
    simp only [sm] at this
    rw [this]; grind

/- the coefficients -/
def ifac : Nat → Rat
  | 0 => 1
  | k + 1 => ifac k * rat 1 ((k + 1 : Nat) : Int)
theorem rat_one (k : Nat) : ((k + 1 : Nat) : Rat) * rat 1 ((k + 1 : Nat) : Int) = 1 := by
  unfold rat
  have := castP k
  rw [show (((k + 1 : Nat) : Int) : Rat) = ((k + 1 : Nat) : Rat) from rfl, show ((1 : Int) : Rat) = 1 from rfl]
  grind
theorem ifac_D (k : Nat) : ((k + 1 : Nat) : Rat) * ifac (k + 1) = ifac k := by
  have := rat_one k
  simp only [ifac]
  grind
/-- the steps of a power: the coefficients over 0 .. k -/
def bin (a : Rat) : Nat → Rat
  | 0 => 1
  | k + 1 => bin a k * ((a - k) * rat 1 ((k + 1 : Nat) : Int))
theorem bin_D (a : Rat) (k : Nat) : ((k + 1 : Nat) : Rat) * bin a (k + 1) = (a - k) * bin a k := by
  have := rat_one k
  simp only [bin]
  grind
/-- sums of exponents: Vandermonde's -/
theorem bin_add (a b : Rat) : ∀ k, sm (k + 1) (fun i => bin a i * bin b (k - i)) = bin (a + b) k
  | 0 => by
    show 0 + 1 * 1 = (1 : Rat)
    grind
  | k + 1 => by
    have h := sm_D (fun i j => bin a i * bin b j) k
    have ih := bin_add a b k
    have e1 : sm (k + 1) (fun i => ((i + 1 : Nat) : Rat) * (bin a (i + 1) * bin b (k - i))) = sm (k + 1) (fun i => (a - i) * (bin a i * bin b (k - i))) := sm_congr fun i hi => by
      have := bin_D a i
      grind
    have e2 : sm (k + 1) (fun i => ((k - i + 1 : Nat) : Rat) * (bin a i * bin b (k - i + 1))) = sm (k + 1) (fun i => (b - (k - i : Nat)) * (bin a i * bin b (k - i))) := sm_congr fun i hi => by
      have := bin_D b (k - i)
      grind
    rw [e1, e2, ← sm_add] at h
    have e3 : sm (k + 1) (fun i => (a - i) * (bin a i * bin b (k - i)) + (b - (k - i : Nat)) * (bin a i * bin b (k - i))) = sm (k + 1) (fun i => (a + b - k) * (bin a i * bin b (k - i))) := sm_congr fun i hi => by
      have : ((k - i : Nat) : Rat) = (k : Rat) - i := by
        have h1 : k = (k - i) + i := by omega
        have h2 : (k : Rat) = ((k - i : Nat) : Rat) + i := by
          have : (k : Rat) = (((k - i) + i : Nat) : Rat) := by rw [← h1]
          rw [this]; exact_mod_cast rfl
        grind
      rw [this]; grind
    rw [e3, sm_smul, ih] at h
    have h2 := bin_D (a + b) k
    have h3 := castP k
    grind
/-- (exp t - 1) -/
def wex (k : Nat) : Rat := if k = 0 then 0 else ifac k
def conv (a b : Nat → Rat) (k : Nat) : Rat := sm (k + 1) (fun i => a i * b (k - i))
def dlt (k : Nat) : Rat := if k = 0 then 1 else 0
/-- the powers of (exp t - 1) -/
def qex : Nat → Nat → Rat
  | 0, k => dlt k
  | i + 1, k => conv (qex i) wex k
theorem wex_D (k : Nat) : ((k + 1 : Nat) : Rat) * wex (k + 1) = wex k + dlt k := by
  have := ifac_D k
  unfold wex dlt
  rw [if_neg (by omega), this]
  split
  · rename_i h; subst h; simp only [ifac]; grind
  · grind
theorem conv_dlt (a : Nat → Rat) (k : Nat) : conv a dlt k = a k := by
  unfold conv
  simp only [sm]
  rw [sm_zero fun i hi => by simp only [dlt]; rw [if_neg (by omega)]; grind]
  simp only [dlt]
  rw [if_pos (by omega)]; grind
theorem dlt_conv (a : Nat → Rat) (k : Nat) : conv dlt a k = a k := by
  unfold conv
  rw [sm_shift]
  rw [sm_zero fun i hi => by simp only [dlt]; rw [if_neg (by omega)]; grind]
  show 1 * a (k - 0) + 0 = a k
  rw [Nat.sub_zero]; grind
theorem conv_D (a b : Nat → Rat) (k : Nat) : ((k + 1 : Nat) : Rat) * conv a b (k + 1) = conv (fun i => ((i + 1 : Nat) : Rat) * a (i + 1)) b k + conv a (fun j => ((j + 1 : Nat) : Rat) * b (j + 1)) k := by
  have h := sm_D (fun i j => a i * b j) k
  unfold conv
  rw [h]
  congr 1
  · exact sm_congr fun i hi => by grind
  · exact sm_congr fun i hi => by grind
theorem qex_D : ∀ i k, ((k + 1 : Nat) : Rat) * qex (i + 1) (k + 1) = ((i + 1 : Nat) : Rat) * (qex (i + 1) k + qex i k)
  | 0, k => by
    have e : ∀ j, qex 1 j = wex j := fun j => dlt_conv wex j
    show ((k + 1 : Nat) : Rat) * qex 1 (k + 1) = ((0 + 1 : Nat) : Rat) * (qex 1 k + qex 0 k)
    rw [e, e, wex_D]
    simp only [qex]
    rw [show ((0 + 1 : Nat) : Rat) = 1 from rfl]; grind
  | i + 1, k => by
    show ((k + 1 : Nat) : Rat) * conv (qex (i + 1)) wex (k + 1) = _
    rw [conv_D]
    have e1 : conv (fun j => ((j + 1 : Nat) : Rat) * qex (i + 1) (j + 1)) wex k = ((i + 1 : Nat) : Rat) * (qex (i + 2) k + qex (i + 1) k) := by
      have : conv (fun j => ((j + 1 : Nat) : Rat) * qex (i + 1) (j + 1)) wex k = sm (k + 1) (fun j => ((i + 1 : Nat) : Rat) * (qex (i + 1) j * wex (k - j) + qex i j * wex (k - j))) := sm_congr fun j hj => by
        simp only []
        rw [qex_D i j]; grind
      rw [this, sm_smul, sm_add]; rfl
    have e2 : conv (qex (i + 1)) (fun j => ((j + 1 : Nat) : Rat) * wex (j + 1)) k = qex (i + 2) k + qex (i + 1) k := by
      have : conv (qex (i + 1)) (fun j => ((j + 1 : Nat) : Rat) * wex (j + 1)) k = sm (k + 1) (fun j => qex (i + 1) j * wex (k - j) + qex (i + 1) j * dlt (k - j)) := sm_congr fun j hj => by
        simp only []
        rw [wex_D]; grind
      rw [this, sm_add]
      have := conv_dlt (qex (i + 1)) k
      unfold conv at this
      rw [this]; rfl
    rw [e1, e2]
    have := castS (i + 1)
    grind
theorem qex_low : ∀ i k, k < i → qex i k = 0
  | 0, k, h => by omega
  | i + 1, k, h => sm_zero fun j hj => by
    by_cases hji : j < i
    · rw [qex_low i j hji]; grind
    · obtain rfl : j = k := by omega
      rw [show j - j = 0 by omega]
      unfold wex
      rw [if_pos rfl]; grind
/-- (-1)^i -/
def sgA : Nat → Rat
  | 0 => 1
  | i + 1 => - sgA i
theorem sm_tele (b : Nat → Rat) : ∀ M, sm M (fun i => sgA i * (b (i + 1) + b i)) = b 0 - sgA M * b M
  | 0 => by simp only [sm, sgA]; grind
  | M + 1 => by
    simp only [sm, sgA]
    rw [sm_tele b M]; grind
/-- logarithms undo exponentials -/
theorem log_exp (n k : Nat) (h : k < n) : sm (n - 1) (fun i => sgA i * rat 1 ((i + 1 : Nat) : Int) * qex (i + 1) k) = if k = 1 then 1 else 0 := by
  cases k with
  | zero =>
    rw [sm_zero fun i hi => by rw [qex_low (i + 1) 0 (by omega)]; grind]
    rw [if_neg (by omega)]
  | succ k =>
    have e : ((k + 1 : Nat) : Rat) * sm (n - 1) (fun i => sgA i * rat 1 ((i + 1 : Nat) : Int) * qex (i + 1) (k + 1)) = sm (n - 1) (fun i => sgA i * (qex (i + 1) k + qex i k)) := by
      rw [← sm_smul]
      exact sm_congr fun i hi => by
        have h1 := qex_D i k
        have h2 := rat_one i
        grind
    rw [sm_tele (fun i => qex i k), qex_low (n - 1) k (by omega)] at e
    have h3 := castP k
    rw [show qex 0 k = if k = 0 then 1 else 0 from rfl] at e
    by_cases hk : k = 0
    · subst hk
      rw [if_pos rfl]
      rw [if_pos rfl] at e
      rw [show ((0 + 1 : Nat) : Rat) = 1 from rfl] at e
      grind
    · rw [if_neg (by omega)]
      rw [if_neg hk] at e
      grind
end Go.Proofs.YtonlfnbjbmgegaaGreat

namespace Go.Proofs.YtonlfnbjbmgegaaGreat

set_option linter.unusedSimpArgs false
set_option linter.unusedVariables false

theorem lin_sm {T : Fnl} (hT : Lin T) (c : Nat → Rat) (F : Nat → Gam → Rat) : ∀ n, T (fun g => sm n (fun j => c j * F j g)) = sm n (fun j => c j * T (F j))
  | 0 => hT.zero
  | n + 1 => by
    have h := hT 1 (c n) (fun g => sm n (fun j => c j * F j g)) (F n)
    have e : (fun g => 1 * sm n (fun j => c j * F j g) + c n * F n g) = fun g => sm (n + 1) (fun j => c j * F j g) := by funext g; simp only [sm]; grind
    rw [e, lin_sm hT c F n] at h
    rw [h]
    simp only [sm]
    grind
theorem ups_of_off {m : Gam} {n : Nat} {T : Fnl} (hT : Lin T) (h : ∀ f, Off m n f → T f = 0) : Ups m n T := fun f k hfk => by
  have e := hT 1 (-1) f k
  have h0 := h (fun g => 1 * f g + -1 * k g) fun g hg => by have := hfk g hg; grind
  rw [h0] at e
  grind
/-- a test function behind a factor with exponents of at most 0 -/
theorem Off.mul {m : Gam} {n j : Nat} {Z : Fnl} (hm : GtF gz m) (hZ : Ups m j Z) (lZ : Lin Z) {f : Gam → Rat} (hf : Off m n f) : Off m n fun g => Z fun h => f (gadd g h) := fun g hg => by
  refine (hZ _ (fun _ => 0) fun h hh => ?_).trans lZ.zero
  refine hf _ ?_
  have := hg.add hh
  rw [gsm_add] at this
  exact this.trans (gsm_le hm n j)

/- powers of a sum -/
def fad (X Y : Fnl) : Fnl := fun f => X f + Y f
def mono (X Y : Fnl) (i j : Nat) : Fnl := fmul (fpow X i) (fpow Y j)
theorem mono_step {X Y : Fnl} (hX : Nice X) (hY : Nice Y) (i j : Nat) (f : Gam → Rat) : fmul (mono X Y i j) (fad X Y) f = mono X Y (i + 1) j f + mono X Y i (j + 1) f := by
  have nm : Nice (mono X Y i j) := (hX.pow i).mul (hY.pow j)
  have e : fmul (mono X Y i j) (fad X Y) f = fmul (mono X Y i j) X f + fmul (mono X Y i j) Y f := congrFun (fmul_add_right nm X Y) f
  rw [e]
  congr 1
  · unfold mono
    rw [fmul_assoc, fmul_comm (hY.pow j) hX, ← fmul_assoc]; rfl
  · unfold mono
    rw [fmul_assoc]; rfl
/-- the binomial law, in divided powers -/
theorem pow_sum {X Y : Fnl} (hX : Nice X) (hY : Nice Y) : ∀ (k : Nat) (f : Gam → Rat), ifac k * fpow (fad X Y) k f = sm (k + 1) (fun i => ifac i * ifac (k - i) * mono X Y i (k - i) f)
  | 0, f => by
    have e : mono X Y 0 0 f = fone f := by unfold mono; rw [show fpow X 0 = fone from rfl, fone_mul]; rfl
    show (1 : Rat) * fone f = 0 + 1 * 1 * mono X Y 0 0 f
    rw [e]; grind
  | k + 1, f => by
    have ih := pow_sum hX hY k (fun g => fad X Y fun h => f (gadd g h))
    have e0 : ∀ i j, mono X Y i j (fun g => fad X Y fun h => f (gadd g h)) = mono X Y (i + 1) j f + mono X Y i (j + 1) f := fun i j => mono_step hX hY i j f
    have e1 : fpow (fad X Y) k (fun g => fad X Y fun h => f (gadd g h)) = fpow (fad X Y) (k + 1) f := rfl
    rw [e1] at ih
    have hD := sm_D (fun i j => ifac i * ifac j * mono X Y i j f) k
    have e2 : sm (k + 1) (fun i => ifac i * ifac (k - i) * mono X Y i (k - i) (fun g => fad X Y fun h => f (gadd g h))) = sm (k + 1) (fun i => ((i + 1 : Nat) : Rat) * (ifac (i + 1) * ifac (k - i) * mono X Y (i + 1) (k - i) f) + ((k - i + 1 : Nat) : Rat) * (ifac i * ifac (k - i + 1) * mono X Y i (k - i + 1) f)) := sm_congr fun i hi => by
      have h1 := ifac_D i
      have h2 := ifac_D (k - i)
      rw [e0, ← h1, ← h2]
      have h3 : ifac (i + 1) = rat 1 ((i + 1 : Nat) : Int) * ifac i := by simp only [ifac]; grind
      have h4 : ifac (k - i + 1) = rat 1 ((k - i + 1 : Nat) : Int) * ifac (k - i) := by simp only [ifac]; grind
      grind
    rw [e2, sm_add, ← hD] at ih
    have h5 := ifac_D k
    have h6 := castP k
    have h7 : ((k + 1 : Nat) : Rat) * (ifac (k + 1) * fpow (fad X Y) (k + 1) f) = ((k + 1 : Nat) : Rat) * sm (k + 2) (fun i => ifac i * ifac (k + 1 - i) * mono X Y i (k + 1 - i) f) := by
      rw [← ih, ← h5]; grind
    grind
theorem mono_off {X Y : Fnl} (hX : Nice X) (hY : Nice Y) {m : Gam} (hm : GtF gz m) (uX : Ups m 1 X) (uY : Ups m 1 Y) {n : Nat} {f : Gam → Rat} (hf : Off m n f) (i j : Nat) (h : n ≤ i + j) : mono X Y i j f = 0 :=
  (((uX.pow i).mul (uY.pow j)).down hm h).off ((hX.pow i).mul (hY.pow j)).lin hf
/-- the product of two exponentials, as far as a test function sees -/
theorem exp_prod {X Y : Fnl} (hX : Nice X) (hY : Nice Y) {m : Gam} (hm : GtF gz m) (uX : Ups m 1 X) (uY : Ups m 1 Y) {n : Nat} {f : Gam → Rat} (hf : Off m n f) :
    sm n (fun i => ifac i * fpow X i (fun g => sm n (fun j => ifac j * fpow Y j (fun h => f (gadd g h))))) = sm n (fun k => ifac k * fpow (fad X Y) k f) := by
  have e1 : sm n (fun i => ifac i * fpow X i (fun g => sm n (fun j => ifac j * fpow Y j (fun h => f (gadd g h))))) = sm n (fun i => sm n (fun j => ifac i * ifac j * mono X Y i j f)) := sm_congr fun i hi => by
    rw [lin_sm (hX.pow i).lin ifac (fun j g => fpow Y j (fun h => f (gadd g h))) n, ← sm_smul]
    exact sm_congr fun j hj => by
      have : fpow X i (fun g => fpow Y j (fun h => f (gadd g h))) = mono X Y i j f := rfl
      rw [this]; grind
  rw [e1, sm_tri (b := fun i j => ifac i * ifac j * mono X Y i j f) fun i j hij => by
    have := mono_off hX hY hm uX uY hf i j hij
    rw [this]; grind]
  exact sm_congr fun k hk => (pow_sum hX hY k f).symm
/-- the powers of (exp x - 1), as far as a test function sees -/
theorem pow_exp {X Z : Fnl} (hX : Nice X) (hZ : Nice Z) {m : Gam} (hm : GtF gz m) (uX : Ups m 1 X) {n : Nat} (eZ : ∀ f, Z f = sm n (fun j => wex j * fpow X j f)) : ∀ (i : Nat) (f : Gam → Rat), Off m n f → fpow Z i f = sm n (fun k => qex i k * fpow X k f)
  | 0, f, hf => by
    by_cases hn : n = 0
    · subst hn
      exact Ups.off (m := m) (n := 0) Ups.one fone_nice.lin hf
    · obtain ⟨n', rfl⟩ : ∃ n', n = n' + 1 := ⟨n - 1, by omega⟩
      rw [sm_shift, sm_zero fun i hi => by simp only [qex, dlt]; rw [if_neg (by omega)]; grind]
      show fone f = (if 0 = 0 then 1 else 0) * fone f + 0
      rw [if_pos rfl]; grind
  | i + 1, f, hf => by
    have uZ : Ups m 0 Z := fun a b hab => by
      rw [eZ, eZ]
      refine sm_congr fun j hj => ?_
      rw [((uX.pow j).down hm (Nat.zero_le j)) a b hab]
    have ih := pow_exp hX hZ hm uX eZ i (fun g => Z fun h => f (gadd g h)) (Off.mul hm uZ hZ.lin hf)
    have e1 : fpow Z (i + 1) f = fpow Z i (fun g => Z fun h => f (gadd g h)) := rfl
    rw [e1, ih]
    have e2 : sm n (fun k => qex i k * fpow X k (fun g => Z fun h => f (gadd g h))) = sm n (fun k => sm n (fun j => qex i k * wex j * fpow X (k + j) f)) := sm_congr fun k hk => by
      have : (fun g => Z fun h => f (gadd g h)) = fun g => sm n (fun j => wex j * fpow X j (fun h => f (gadd g h))) := by funext g; exact eZ _
      rw [this, lin_sm (hX.pow k).lin wex (fun j g => fpow X j (fun h => f (gadd g h))) n, ← sm_smul]
      exact sm_congr fun j hj => by
        have : fpow X k (fun g => fpow X j (fun h => f (gadd g h))) = fpow X (k + j) f := congrFun (fpow_add k j) f
        rw [this]; grind
    rw [e2, sm_tri (b := fun k j => qex i k * wex j * fpow X (k + j) f) fun k j hkj => by
      have : fpow X (k + j) f = 0 := ((uX.pow (k + j)).down hm hkj).off (hX.pow _).lin hf
      rw [this]; grind]
    refine sm_congr fun k hk => ?_
    simp only [qex]
    unfold conv
    have : sm (k + 1) (fun j => qex i j * wex (k - j) * fpow X (j + (k - j)) f) = sm (k + 1) (fun j => fpow X k f * (qex i j * wex (k - j))) := sm_congr fun j hj => by
      rw [show j + (k - j) = k by omega]; grind
    rw [this, sm_smul]; grind
/-- the logarithm of an exponential -/
theorem log_exp_f {X Z : Fnl} (hX : Nice X) (hZ : Nice Z) {m : Gam} (hm : GtF gz m) (uX : Ups m 1 X) {n : Nat} (hn : 2 ≤ n) (eZ : ∀ f, Z f = sm n (fun j => wex j * fpow X j f)) {f : Gam → Rat} (hf : Off m n f) :
    sm (n - 1) (fun i => sgA i * rat 1 ((i + 1 : Nat) : Int) * fpow Z (i + 1) f) = X f := by
  have e1 : sm (n - 1) (fun i => sgA i * rat 1 ((i + 1 : Nat) : Int) * fpow Z (i + 1) f) = sm (n - 1) (fun i => sm n (fun k => sgA i * rat 1 ((i + 1 : Nat) : Int) * qex (i + 1) k * fpow X k f)) := sm_congr fun i hi => by
    rw [pow_exp hX hZ hm uX eZ (i + 1) f hf, ← sm_smul]
    exact sm_congr fun k hk => by grind
  rw [e1, sm_swap]
  have e2 : sm n (fun k => sm (n - 1) (fun i => sgA i * rat 1 ((i + 1 : Nat) : Int) * qex (i + 1) k * fpow X k f)) = sm n (fun k => (if k = 1 then 1 else 0) * fpow X k f) := sm_congr fun k hk => by
    rw [← log_exp n k hk]
    have : sm (n - 1) (fun i => sgA i * rat 1 ((i + 1 : Nat) : Int) * qex (i + 1) k * fpow X k f) = sm (n - 1) (fun i => fpow X k f * (sgA i * rat 1 ((i + 1 : Nat) : Int) * qex (i + 1) k)) := sm_congr fun i hi => by grind
    rw [this, sm_smul]; grind
  rw [e2]
  obtain ⟨n', rfl⟩ : ∃ n', n = n' + 2 := ⟨n - 2, by omega⟩
  rw [sm_shift, sm_shift, sm_zero fun i hi => by rw [if_neg (by omega)]; grind]
  rw [if_neg (by omega), if_pos (by omega)]
  have : fpow X (0 + 1) f = X f := congrFun (fone_mul X) f
  rw [this]; grind
end Go.Proofs.YtonlfnbjbmgegaaGreat
