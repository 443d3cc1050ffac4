/-
  Sums and products as the reference makes them, and that they are the program's: plain.
-/
import Derived.Test.YtphabopnbcgodaaSOrdFn
import Derived.Test.YtphabopnbcgodaaSFrac
import Derived.Test.YtphabopnbcgodaaWMulFn
namespace Go.Proofs.Ytphabopnbcgodaa
open Go.RowKit
set_option linter.unusedSimpArgs false
set_option linter.unusedVariables false

/-- suPut -/
def putP (e : Sur) (n d : Int) : Sur → Option Sur
  | .nil => some (.cons e n d .nil)
  | .cons e' n' d' r =>
    if order e' e = 1 then (putP e n d r).map (.cons e' n' d' ·)
    else if order e' e = 0 then
      if fracOk (adN n' d' n d) (adD n' d' n d) = true then some ((termP e (adN n' d' n d) (adD n' d' n d)).app r) else none
    else some (.cons e n d (.cons e' n' d' r))
/-- suPlus -/
def plusP : Sur → Sur → Option Sur
  | x, .nil => some x
  | x, .cons e n d r => (putP e n d x).bind fun z => plusP z r
/-- suSum -/
def sumS (x y : Sur) : Option Sur := (plusP x y).bind fun z => told z true

theorem plusP_low {e : Sur} {n d : Int} : ∀ {r x : Sur}, Lt e r → plusP (.cons e n d x) r = (plusP x r).map (.cons e n d ·)
  | .nil, x, _ => by simp [plusP]
  | .cons e2 n2 d2 r2, x, h => by
    simp only [plusP, putP, if_pos h.1]
    cases putP e2 n2 d2 x with
    | none => rfl
    | some z => simp only [Option.map_some, Option.bind_some]; exact plusP_low h.2

theorem plusP_sumP (N : Nat) : ∀ (x y : Sur), x.len + y.len ≤ N → x.All GOk → y.All GOk → Dec x → Dec y → plusP x y = sumP x y := by
  induction N with
  | zero =>
    intro x y hN _ _ _ _
    cases x with
    | cons => simp [Sur.len] at hN
    | nil =>
      cases y with
      | cons => simp [Sur.len] at hN
      | nil => simp [plusP, sumP]
  | succ N ih =>
    intro x y hN hx hy dx dy
    cases y with
    | nil => rw [sumP_nil]; rfl
    | cons e n d r =>
      cases x with
      | nil =>
        simp only [plusP, putP, Option.bind_some]
        rw [plusP_low dy.1, ih .nil r (by simp only [Sur.len] at *; omega) trivial hy.2.2 trivial dy.2]
        simp [sumP]
      | cons e' n' d' r' =>
        rcases order_range e' e with q | q | q
        · simp only [plusP, putP]
          rw [if_neg (by omega), if_neg (by omega), Option.bind_some, plusP_low dy.1, ih (.cons e' n' d' r') r (by simp only [Sur.len] at *; omega) hx hy.2.2 dx dy.2, sumP_right (.inr ⟨e', n', d', r', rfl, q⟩)]
        · have he := order_eq e' e hx.1 hy.1 q
          subst he
          simp only [plusP, putP]
          rw [if_neg (by omega), if_pos q, sumP_both q, fAdd_sh hx.2.1.1 hy.2.1.1]
          by_cases hf : fracOk (adN n' d' n d) (adD n' d' n d) = true
          · rw [if_pos hf, if_pos hf]
            simp only [Option.bind_some, termP]
            by_cases hp : adN n' d' n d = 0
            · rw [if_pos hp]
              simp only [Sur.app, hp, if_true]
              rw [ih r' r (by simp only [Sur.len] at *; omega) hx.2.2 hy.2.2 dx.2 dy.2]
              simp
            · rw [if_neg hp]
              simp only [Sur.app, hp, if_false]
              rw [plusP_low dy.1, ih r' r (by simp only [Sur.len] at *; omega) hx.2.2 hy.2.2 dx.2 dy.2]
          · rw [if_neg hf, if_neg hf]; rfl
        · have hl : Lt e' (.cons e n d r) := ⟨q, Lt.tr hx.1 hy.1 q hy.2.2 dy.1⟩
          rw [plusP_low hl, ih r' _ (by simp only [Sur.len] at *; omega) hx.2.2 hy dx.2 dy, sumP, if_pos q]

theorem sumS_addS {x y : Sur} (hx : sGood x = true) (hy : sGood y = true) : sumS x y = addS x y := by
  have gx := sGood_g hx
  have gy := sGood_g hy
  unfold sumS addS
  rw [if_pos (by rw [hx, hy]; rfl), plusP_sumP _ x y (Nat.le_refl _) gx.1 gy.1 gx.2 gy.2]

theorem Sur.All.appd {p : Int → Int → Prop} {x y : Sur} (hx : x.All p) (hy : y.All p) : (x.app y).All p := Sur.All.app hx hy
/-- what a put leaves -/
theorem putP_all {e : Sur} {n d : Int} (he : e.All FOk) (h : FOk n d) : ∀ {x z : Sur}, x.All FOk → putP e n d x = some z → z.All FOk ∧ z.len ≤ x.len + 1
  | .nil, z, _, hp => by
    simp only [putP, Option.some.injEq] at hp
    subst hp
    exact ⟨⟨he, h, trivial⟩, by simp [Sur.len]⟩
  | .cons e' n' d' r, z, hx, hp => by
    simp only [putP] at hp
    split at hp
    · obtain ⟨u, hu, rfl⟩ := Option.map_eq_some_iff.1 hp
      obtain ⟨i1, i2⟩ := putP_all he h hx.2.2 hu
      exact ⟨⟨hx.1, hx.2.1, i1⟩, by simp only [Sur.len]; omega⟩
    · split at hp
      · split at hp
        · rename_i hf
          simp only [Option.some.injEq] at hp
          subst hp
          have ht := termP_all he (show FOk _ _ from hf)
          exact ⟨ht.1.appd hx.2.2, by rw [Sur.len_app]; simp only [Sur.len]; omega⟩
        · cases hp
      · simp only [Option.some.injEq] at hp
        subst hp
        exact ⟨⟨he, h, hx⟩, by simp [Sur.len]⟩
theorem plusP_all : ∀ {y x z : Sur}, x.All FOk → y.All FOk → plusP x y = some z → z.All FOk ∧ z.len ≤ x.len + y.len
  | .nil, x, z, hx, _, h => by simp only [plusP, Option.some.injEq] at h; subst h; exact ⟨hx, by simp [Sur.len]⟩
  | .cons e n d r, x, z, hx, hy, h => by
    simp only [plusP] at h
    obtain ⟨u, hu, h⟩ := Option.bind_eq_some_iff.1 h
    obtain ⟨i1, i2⟩ := putP_all hy.1 hy.2.1 hx hu
    obtain ⟨j1, j2⟩ := plusP_all i1 hy.2.2 h
    exact ⟨j1, by simp only [Sur.len]; omega⟩

theorem mkN_ne {n d : Int} (hn : n ≠ 0) (hd : d ≠ 0) : mkN n d ≠ 0 := by
  have hg := Int.gcd_pos_of_ne_zero_right n hd
  have hle : Int.gcd n d ≤ n.natAbs := Int.gcd_le_natAbs_left d hn
  have ha : (gsign n d).natAbs = Int.gcd n d := by unfold gsign; split <;> omega
  intro h
  have h1 : (mkN n d).natAbs = 0 := by rw [h]; rfl
  unfold mkN at h1
  rw [Int.natAbs_tdiv, ha] at h1
  have := (Nat.div_eq_zero_iff).1 h1
  omega

theorem putP_g {e : Sur} {n d : Int} (he : e.All GOk) (h : GOk n d) : ∀ {x z : Sur}, x.All GOk → Dec x → putP e n d x = some z → z.All GOk ∧ Dec z ∧ (∀ f, Lt f x → order f e = 1 → Lt f z)
  | .nil, z, _, _, hp => by
    simp only [putP, Option.some.injEq] at hp
    subst hp
    exact ⟨⟨he, h, trivial⟩, ⟨trivial, trivial⟩, fun f _ hf => ⟨hf, trivial⟩⟩
  | .cons e' n' d' r, z, hx, dx, hp => by
    simp only [putP] at hp
    split at hp
    · rename_i q
      obtain ⟨u, hu, rfl⟩ := Option.map_eq_some_iff.1 hp
      obtain ⟨i1, i2, i3⟩ := putP_g he h hx.2.2 dx.2 hu
      exact ⟨⟨hx.1, hx.2.1, i1⟩, ⟨i3 e' dx.1 q, i2⟩, fun f hf hfe => ⟨hf.1, i3 f hf.2 hfe⟩⟩
    · split at hp
      · rename_i q
        have hee := order_eq e' e hx.1 he q
        subst hee
        split at hp
        · rename_i hf
          simp only [Option.some.injEq] at hp
          subst hp
          unfold termP
          split
          · exact ⟨hx.2.2, dx.2, fun f hf _ => hf.2⟩
          · rename_i hp0
            exact ⟨⟨he, ⟨hf, hp0⟩, hx.2.2⟩, ⟨dx.1, dx.2⟩, fun f hf hfe => ⟨hfe, hf.2⟩⟩
        · cases hp
      · rename_i q1 q0
        simp only [Option.some.injEq] at hp
        subst hp
        have q : order e e' = 1 := by rw [order_neg]; have := order_range e' e; omega
        exact ⟨⟨he, h, hx⟩, ⟨⟨q, Lt.tr he hx.1 q hx.2.2 dx.1⟩, dx⟩, fun f hf hfe => ⟨hfe, hf⟩⟩

/-- all exponents are right -/
def Exps : Sur → Prop
  | .nil => True
  | .cons e _ _ r => sGood e = true ∧ Exps r
theorem formT_less : ∀ {x : Sur} {deep deep' : Int} {prev : Option Sur}, deep' ≤ deep → formT deep prev x = true → formT deep' prev x = true
  | .nil, _, _, _, _, _ => rfl
  | .cons e n d r, deep, deep', prev, hd, h => by
    simp only [formT, Bool.and_eq_true, decide_eq_true_eq] at h ⊢
    obtain ⟨h1, h2, h3, h4, h5, h6⟩ := h
    exact ⟨h1, h2, by omega, formT_less (by omega) h4, h5, formT_less hd h6⟩
theorem formT_exps : ∀ {x : Sur} {deep : Int} {prev : Option Sur}, 0 ≤ deep → x.nodes ≤ 60 → formT deep prev x = true → Exps x
  | .nil, _, _, _, _, _ => trivial
  | .cons e n d r, deep, prev, hd, hn, h => by
    simp only [formT, Bool.and_eq_true, decide_eq_true_eq] at h
    obtain ⟨h1, h2, h3, h4, h5, h6⟩ := h
    simp only [Sur.nodes] at hn
    refine ⟨?_, formT_exps hd (by omega) h6⟩
    simp only [sGood, sOk, Bool.and_eq_true, decide_eq_true_eq]
    exact ⟨by omega, by omega, formT_less (by omega) h4⟩
theorem sGood_exps {x : Sur} (h : sGood x = true) : Exps x := by
  simp only [sGood, sOk, Bool.and_eq_true, decide_eq_true_eq] at h
  exact formT_exps (Int.le_refl _) (by omega) h.2.2

/-- the inner loop of suProduct -/
def prodIn (e : Sur) (n d : Int) : Sur → Sur → Option Sur
  | .nil, out => some out
  | .cons e' n' d' r, out => match sumS e e' with
    | none => none
    | some z => if fracOk (muN n d n' d') (muD n d n' d') = true then (putP z (muN n d n' d') (muD n d n' d') out).bind (prodIn e n d r) else none
def prodOut (y : Sur) : Sur → Sur → Option Sur
  | .nil, out => some out
  | .cons e n d r, out => (prodIn e n d y out).bind (prodOut y r)
/-- suProduct -/
def prodS (x y : Sur) : Option Sur := (prodOut y x .nil).bind fun z => told z true

theorem sumP_one {e z : Sur} {n d : Int} (hx : z.All GOk) (dz : Dec z) (he : e.All GOk) (h : GOk n d) : sumP z (.cons e n d .nil) = putP e n d z := by
  rw [← plusP_sumP _ z (.cons e n d .nil) (Nat.le_refl _) hx ⟨he, h, trivial⟩ dz ⟨trivial, trivial⟩]
  simp only [plusP]
  cases putP e n d z <;> rfl

theorem prodIn_mulIn {e : Sur} {n d : Int} (he : sGood e = true) (h : GOk n d) : ∀ {y out : Sur}, y.All GOk → Exps y → out.All GOk → Dec out → prodIn e n d y out = mulIn e n d y out ∧ ∀ z, prodIn e n d y out = some z → z.All GOk ∧ Dec z
  | .nil, out, _, _, ho, do_ => ⟨rfl, fun z hz => by simp only [prodIn, Option.some.injEq] at hz; subst hz; exact ⟨ho, do_⟩⟩
  | .cons e' n' d' r, out, hy, ey, ho, do_ => by
    simp only [prodIn, mulIn]
    rw [sumS_addS he ey.1, fMul_sh h.1 hy.2.1.1]
    cases ha : addS e e' with
    | none => exact ⟨rfl, fun z hz => by cases hz⟩
    | some z =>
      have gz := sGood_g (addS_good ha)
      by_cases hf : fracOk (muN n d n' d') (muD n d n' d') = true
      · have hp : muN n d n' d' ≠ 0 := mkN_ne (fun h0 => by rcases Int.mul_eq_zero.1 h0 with h0 | h0; exact h.2 h0; exact hy.2.1.2 h0) (mul_ne0 (fracOk_iff.1 h.1).1 (fracOk_iff.1 hy.2.1.1).1)
        simp only [if_pos hf, termP, if_neg hp]
        rw [sumP_one ho do_ gz.1 ⟨hf, hp⟩]
        cases hq : putP z (muN n d n' d') (muD n d n' d') out with
        | none => exact ⟨rfl, fun z hz => by cases hz⟩
        | some o2 =>
          have g2 := putP_g gz.1 ⟨hf, hp⟩ ho do_ hq
          simp only [Option.bind_some]
          exact prodIn_mulIn he h hy.2.2 ey.2 g2.1 g2.2.1
      · simp only [if_neg hf]
        refine ⟨by first | trivial | rfl, fun z hz => ?_⟩
        cases hz
theorem prodOut_mulOut {y : Sur} (hy : y.All GOk) (ey : Exps y) : ∀ {x out : Sur}, x.All GOk → Exps x → out.All GOk → Dec out → prodOut y x out = mulOut y x out
  | .nil, _, _, _, _, _ => rfl
  | .cons e n d r, out, hx, ex, ho, do_ => by
    simp only [prodOut, mulOut]
    obtain ⟨h1, h2⟩ := prodIn_mulIn ex.1 hx.2.1 hy ey ho do_
    rw [← h1]
    cases hq : prodIn e n d y out with
    | none => rfl
    | some z =>
      obtain ⟨g1, g2⟩ := h2 z hq
      simp only [Option.bind_some]
      exact prodOut_mulOut hy ey hx.2.2 ex.2 g1 g2
theorem prodS_mulS {x y : Sur} (hx : sGood x = true) (hy : sGood y = true) : prodS x y = mulS x y := by
  unfold prodS mulS
  rw [if_pos (by rw [hx, hy]; rfl), prodOut_mulOut (sGood_g hy).1 (sGood_exps hy) (sGood_g hx).1 (sGood_exps hx) (show Sur.All GOk .nil from trivial) (show Dec .nil from trivial)]

/-- each exponent of the first is greater than all of the second -/
def GtAll : Sur → Sur → Prop
  | .nil, _ => True
  | .cons f _ _ r, x => Lt f x ∧ GtAll r x
theorem GtAll.tail {e r : Sur} {n d : Int} : ∀ {o : Sur}, GtAll o (.cons e n d r) → GtAll o r
  | .nil, _ => trivial
  | .cons _ _ _ _, h => ⟨h.1.2, GtAll.tail h.2⟩
theorem GtAll.snoc {e r : Sur} {n d : Int} (h : Lt e r) : ∀ {o : Sur}, GtAll o r → GtAll (o.app (.cons e n d .nil)) r
  | .nil, _ => ⟨h, trivial⟩
  | .cons _ _ _ _, ho => ⟨ho.1, GtAll.snoc h ho.2⟩
theorem putP_end {e r : Sur} {n d p q : Int} : ∀ {o : Sur}, GtAll o (.cons e n d r) → putP e p q o = some (o.app (.cons e p q .nil))
  | .nil, _ => rfl
  | .cons f a b o, h => by
    simp only [putP, if_pos h.1.1, putP_end h.2]
    rfl
theorem told_good {x : Sur} (h : sGood x = true) : told x true = some x := by unfold told; rw [h]; rfl
theorem sGood_nil : sGood .nil = true := by decide
theorem sumS_nil_right {e : Sur} (h : sGood e = true) : sumS e .nil = some e := by unfold sumS; simp only [plusP, Option.bind_some]; exact told_good h
theorem sumS_nil_left {e : Sur} (h : sGood e = true) : sumS .nil e = some e := by
  unfold sumS
  rw [plusP_sumP _ .nil e (Nat.le_refl _) trivial (sGood_g h).1 trivial (sGood_g h).2]
  simp only [sumP, Option.bind_some]; exact told_good h

theorem prodOut_scale {a b : Int} (h : fracOk a b = true) : ∀ {x out : Sur}, x.All GOk → Exps x → Dec x → GtAll out x → prodOut (.cons .nil a b .nil) x out = (scaleT a b x).map (out.app ·)
  | .nil, out, _, _, _, _ => by simp [prodOut, scaleT, Sur.app_nil]
  | .cons e n d r, out, hx, ex, dx, hg => by
    simp only [prodOut, prodIn, scaleT, sumS_nil_right ex.1, fMul_sh hx.2.1.1 (show FOk a b from h)]
    by_cases hf : fracOk (muN n d a b) (muD n d a b) = true
    · simp only [if_pos hf, putP_end hg, Option.bind_some]
      rw [prodOut_scale h hx.2.2 ex.2 dx.2 (GtAll.snoc dx.1 hg.tail), Option.map_map]
      congr 1
      funext z
      simp [Sur.app_assoc, Sur.app]
    · simp only [if_neg hf]; rfl
theorem prodOut_nil : ∀ {x out : Sur}, prodOut .nil x out = some out
  | .nil, _ => rfl
  | .cons e n d r, out => by simp only [prodOut, prodIn, Option.bind_some]; exact prodOut_nil
theorem prodS_scale {x : Sur} {a b : Int} (hx : sGood x = true) (h : fracOk a b = true) : prodS x (termP .nil a b) = scaleS x a b := by
  have e1 : scaleS x a b = (scaleP x a b).bind fun z => told z true := by unfold scaleS; rw [if_pos (by rw [hx, h]; rfl)]
  rw [e1]
  unfold prodS scaleP termP
  by_cases ha : a = 0
  · rw [if_pos ha, if_pos ha, prodOut_nil]
  · rw [if_neg ha, if_neg ha, prodOut_scale h (sGood_g hx).1 (sGood_exps hx) (sGood_g hx).2 (show GtAll .nil x from trivial)]
    simp [Sur.app]

theorem mk_one {n d : Int} (h : FOk n d) : muN 1 1 n d = n ∧ muD 1 1 n d = d := by
  obtain ⟨h1, _, _, _, h5⟩ := fracOk_iff.1 h
  have hg : gsign (1 * n) (1 * d) = 1 := by unfold gsign; rw [Int.one_mul, Int.one_mul, if_neg (by omega), h5]; rfl
  unfold muN muD mkN mkD
  rw [hg, Int.one_mul, Int.one_mul]
  exact ⟨Int.tdiv_one n, Int.tdiv_one d⟩
theorem prodIn_one : ∀ {z out : Sur}, z.All GOk → Exps z → Dec z → GtAll out z → prodIn .nil 1 1 z out = some (out.app z)
  | .nil, out, _, _, _, _ => by simp [prodIn, Sur.app_nil]
  | .cons e n d r, out, hz, ez, dz, hg => by
    obtain ⟨m1, m2⟩ := mk_one hz.2.1.1
    simp only [prodIn, sumS_nil_left ez.1, m1, m2, if_pos (show fracOk n d = true from hz.2.1.1), putP_end hg, Option.bind_some]
    rw [prodIn_one hz.2.2 ez.2 dz.2 (GtAll.snoc dz.1 hg.tail)]
    simp [Sur.app_assoc, Sur.app]
theorem prodS_one {z : Sur} (h : sGood z = true) : prodS (termP .nil 1 1) z = some z := by
  unfold prodS termP
  rw [if_neg (by omega)]
  simp only [prodOut]
  rw [prodIn_one (sGood_g h).1 (sGood_exps h) (sGood_g h).2 (show GtAll .nil z from trivial)]
  simp only [Option.bind_some, Sur.app]
  exact told_good h
end Go.Proofs.Ytphabopnbcgodaa
