/-
  Roots by terms: each step lowers what remains (plain).
-/
import Derived.Test.YtonlfnbjbmgegaaGreatSRtEq
namespace Go.Proofs.YtonlfnbjbmgegaaGreat
open Go.RowKit
set_option linter.unusedSimpArgs false
set_option linter.unusedVariables false

/-- what is known of a root's terms and of what remains -/
structure RInv (x s r : Sur) (k m : Nat) : Prop where
  gs : sGood s = true
  gr : sGood r = true
  eq : ∀ f, fn x f = fpow (fn s) k f + fn r f
  hd : ∃ e0 n0 d0 s', s = .cons e0 n0 d0 s' ∧ rootC (fC x).1 (fC x).2 k = some (n0, d0)
  ab : r ≠ .nil → ExP (fun u => GtF (gadd u (gsm (k - 1) (co (fE s)))) (co (fE r))) s
  ls : ∃ q0 e n d, s = .app q0 (.cons e n d .nil) ∧ Sup (fn r) fun u => GtF (gadd (co e) (gsm (k - 1) (co (fE s)))) u
  ln : s.len ≤ m
theorem mpow_true' (x : Sur) (k : Int) : (mpow x k true).1 = true := by unfold mpow; rw [mpowGo_stop x k 13 0 true oneS (by simp)]
theorem mpow_fn {x : Sur} {k : Nat} (hk : k ≤ 12) (h : (mpow x k false).1 = false) : sGood (mpow x k false).2 = true ∧ fn (mpow x k false).2 = fpow (fn x) k := by
  have := mpowGo_fn x k (by omega) 13 0 oneS rfl (by omega) (by decide) (by rw [show fpow (fn x) 0 = fone from rfl, ← fn_one]; rfl) h
  rw [Int.toNat_natCast] at this
  exact this
theorem rnP_rat (c : Int × Int) (hc : FOk c.1 c.2) (b : Bool) : ∀ i, (rnP c b i).1 = false → b = false ∧ FOk (rnP c b i).2.1 (rnP c b i).2.2 ∧ rat (rnP c b i).2.1 (rnP c b i).2.2 = rp (rat c.1 c.2) i
  | 0, h => ⟨h, show fracOk 1 1 = true by decide, rat_11⟩
  | i + 1, h => by
    simp only [rnP, Bool.or_eq_false_iff] at h
    obtain ⟨h1, h2, h3⟩ := rnP_rat c hc b i h.1
    simp only [rnP, rp]
    cases hm : fMultiply (rnP c b i).2.1 (rnP c b i).2.2 c.1 c.2 with
    | none => rw [hm] at h; simp at h
    | some v =>
      obtain ⟨p, q⟩ := v
      refine ⟨h1, two_ok hm, ?_⟩
      simp only [Option.getD_some]
      rw [rat_mul h2 hc hm, h3]
/-- what a step that did not fail gives -/
theorem rs_some {x s r : Sur} {k i : Nat} (hk : k ≤ 12) (h : rsB3 x s r k i = false) : ∃ S R, rsB x s r k i = false ∧ addS s (rsT x s r k i) = some S ∧ rsS x s r k i = some S ∧ rsR x s r k i = some R ∧ sGood S = true ∧ sGood R = true ∧ ∀ f, fn x f = fpow (fn S) k f + fn R f := by
  unfold rsB3 at h
  rw [Bool.or_eq_false_iff] at h
  obtain ⟨h1, h2⟩ := h
  have hb2 : rsB2 x s r k i = false := by
    cases hb : rsB2 x s r k i
    · rfl
    · unfold rsP at h1
      rw [hb, mpow_true'] at h1
      cases h1
  have h1' := h1
  unfold rsP at h1'
  rw [hb2] at h1'
  unfold rsB2 at hb2
  rw [Bool.or_eq_false_iff] at hb2
  cases hS : rsS x s r k i with
  | none => rw [hS] at hb2; simp at hb2
  | some S =>
  cases hR : rsR x s r k i with
  | none => rw [hR] at h2; simp at h2
  | some R =>
  rw [hS] at h1'
  simp only [Option.getD_some] at h1'
  obtain ⟨gp, hp⟩ := mpow_fn hk h1'
  have hR' : subS x (mpow S k false).2 = some R := by
    have := hR
    unfold rsR rsP rsB2 at this
    rw [hS, hb2.1] at this
    exact this
  obtain ⟨_, gR, eR⟩ := subS_some hR' (sGood_len gp).2.2
  refine ⟨S, R, hb2.1, hS, rfl, rfl, addS_good (show addS s (rsT x s r k i) = some S from hS), gR, fun f => ?_⟩
  rw [eR, hp]; grind
theorem gsm_pred {k : Nat} (h : 1 ≤ k) (e : Gam) : gadd (gsm (k - 1) e) e = gsm k e := by
  rw [← gsm_succ]; congr 1; omega
theorem rat_div {n d n' d' p q : Int} (h : FOk n d) (h' : FOk n' d') (h0 : n' ≠ 0) (hs : fDivide n d n' d' = some (p, q)) : FOk p q ∧ rat p q * rat n' d' = rat n d := by
  unfold fDivide two at hs
  rw [if_pos ⟨h, h'⟩] at hs
  have hd : d * n' ≠ 0 := fun e => by
    rcases Int.mul_eq_zero.1 e with e | e
    · have := h.pos; omega
    · exact h0 e
  have hok := made_ok hs
  refine ⟨hok, ?_⟩
  unfold made at hs
  rw [if_neg hd] at hs
  split at hs
  · simp only [Option.some.injEq, Prod.mk.injEq] at hs
    have hx := mk_crossD (n * d') (d * n')
    rw [hs.1, hs.2] at hx
    have k1 := castNe h.pos
    have k2 := castNe h'.pos
    have k3 := castNe (show FOk p q from hok).pos
    have k4 : (p : Rat) * (d * n') = (n * d') * q := by exact_mod_cast hx
    unfold rat
    grind
  · cases hs
/-- the first step -/
theorem root_first {x : Sur} {k : Nat} (gx : sGood x = true) (nx : x.len ≠ 0) (h2 : 2 ≤ k) (h4 : k ≤ 4) (hb : rsB3 x .nil x k 0 = false) : RInv x ((rsS x .nil x k 0).getD .nil) ((rsR x .nil x k 0).getD .nil) k 1 := by
  obtain ⟨S, R, b0, hS, eS, eR, gS, gR, heq⟩ := rs_some (by omega) hb
  rw [eS, eR]
  simp only [Option.getD_some]
  cases x with
  | nil => exact absurd rfl nx
  | cons ex xn xd x' =>
  have kx := (sGood_g gx).1.2.1
  unfold rsB rfB at b0
  rw [if_pos rfl] at b0
  simp only [Bool.or_eq_false_iff, Bool.not_eq_false'] at b0
  obtain ⟨⟨_, b1⟩, b2⟩ := b0
  cases hE : rfE (.cons ex xn xd x') k with
  | none => rw [hE] at b1; simp at b1
  | some e0 =>
  cases hC : rfC (.cons ex xn xd x') k with
  | none => rw [hC] at b2; simp at b2
  | some c =>
  obtain ⟨cn, cd⟩ := c
  have hC' : rootC xn xd k = some (cn, cd) := hC
  obtain ⟨hok, _, _, hrp⟩ := root_facts kx.1 h2 h4 hC'
  have hc0 : cn ≠ 0 := fun h0 => by
    rw [h0, rat_zero] at hrp
    have : rp 0 k = 0 := by
      obtain ⟨j, rfl⟩ : ∃ j, k = j + 1 := ⟨k - 1, by omega⟩
      simp only [rp]; grind
    rw [this] at hrp
    exact rat_ne kx hrp.symm
  have hT : rsT (.cons ex xn xd x') .nil (.cons ex xn xd x') k 0 = .cons e0 cn cd .nil := by
    unfold rsT rfT
    rw [if_pos rfl, hE, hC]
    simp only [Option.getD_some, termP, if_neg hc0]
  rw [hT] at hS
  have hS1 : S = .cons e0 cn cd .nil := by
    have h1 := (addS_some hS).2.2.1
    have abv0 : Above (.cons e0 cn cd .nil) .nil := trivial
    have h2 := sumP_above abv0
    rw [h2] at h1
    injection h1 with h1
    exact h1.symm
  subst hS1
  have hco : gsm k (co e0) = co ex := by
    have hE' : scaleS ex 1 k = some e0 := hE
    rw [co_scaleS hE']
    funext u
    have hk : (k : Rat) ≠ 0 := by
      obtain ⟨j, rfl⟩ : ∃ j, k = j + 1 := ⟨k - 1, by omega⟩
      exact castP j
    show (k : Rat) * (rat 1 k * co ex u) = co ex u
    unfold rat
    rw [show ((1 : Int) : Rat) = 1 by exact_mod_cast rfl, show (((k : Nat) : Int) : Rat) = ((k : Nat) : Rat) by exact_mod_cast rfl]
    grind
  have hsup : Sup (fn R) fun u => GtF (gadd (co e0) (gsm (k - 1) (co e0))) u := by
    obtain ⟨Q, hq, hQ⟩ := fpow_lead (S := fn (.cons e0 cn cd .nil)) (S' := fun _ => 0) (c := rat cn cd) (e := co e0) (fun f => by simp only [fn]) (fun f k _ => rfl) k
    have e1 : gadd (co e0) (gsm (k - 1) (co e0)) = co ex := by rw [gadd_comm, gsm_pred (by omega), hco]
    rw [e1]
    have key : ∀ f, fn R f = fn x' f - Q f := fun f => by
      have h1 := heq f
      rw [hq, hrp, hco] at h1
      simp only [fn] at h1
      simp only [fn] at hq
      grind
    intro f k' hfk
    rw [key, key, fn_sup (rest_low gx) f k' hfk, hQ f k' (by rw [hco]; exact hfk)]
  refine ⟨gS, gR, heq, ⟨e0, cn, cd, .nil, rfl, hC'⟩, fun hr1 => ?_, ⟨.nil, e0, cn, cd, rfl, hsup⟩, Nat.le_refl _⟩
  cases R with
  | nil => exact absurd rfl hr1
  | cons e1 n1 d1 r2 => exact ⟨lead_in gR hsup, trivial⟩
/-- a further step -/
theorem root_step {x s r : Sur} {k m i : Nat} (gx : sGood x = true) (nx : x.len ≠ 0) (h2 : 2 ≤ k) (h4 : k ≤ 4) (h : RInv x s r k m) (nr : r.len ≠ 0) (hi : i ≠ 0) (hb : rsB3 x s r k i = false) : RInv x ((rsS x s r k i).getD .nil) ((rsR x s r k i).getD .nil) k (m + 1) := by
  obtain ⟨S, R, b0, hS, eS, eR, gS, gR, heq⟩ := rs_some (by omega) hb
  rw [eS, eR]
  simp only [Option.getD_some]
  obtain ⟨gs, gr, hxs, ⟨E0, n0, d0, s', hs, hC0⟩, hab, hls, hln⟩ := h
  subst hs
  cases r with
  | nil => exact absurd rfl nr
  | cons er rn rd r' =>
  have hab' : ExP (fun u => GtF (gadd u (gsm (k - 1) (co E0))) (co er)) (.cons E0 n0 d0 s') := hab (by intro h; cases h)
  clear hab hls
  have kr := (sGood_g gr).1.2.1
  have ks := (sGood_g gs).1.2.1
  obtain ⟨j, rfl⟩ : ∃ j, k = j + 1 := ⟨k - 1, by omega⟩
  rw [Nat.add_sub_cancel] at *
  unfold rsB rnB at b0
  rw [if_neg hi, if_neg (by simp [Sur.len])] at b0
  simp only [Bool.or_eq_false_iff, Bool.not_eq_false'] at b0
  obtain ⟨⟨bq, bm⟩, bc⟩ := b0
  unfold rnQ at bq
  obtain ⟨b1, hqok, hqr⟩ := rnP_rat (fC (.cons E0 n0 d0 s')) ks.1 _ _ bq
  unfold rnB1 at b1
  simp only [Bool.or_eq_false_iff, Bool.not_eq_false'] at b1
  obtain ⟨⟨_, bk⟩, be⟩ := b1
  cases hK : rnK (.cons E0 n0 d0 s') (j + 1) with
  | none => rw [hK] at bk; simp at bk
  | some K =>
  cases hE : rnE (.cons E0 n0 d0 s') (.cons er rn rd r') (j + 1) with
  | none => rw [hE] at be; simp at be
  | some e' =>
  cases hM : rnM (.cons E0 n0 d0 s') (.cons er rn rd r') (j + 1) with
  | none => rw [hM] at bm; simp at bm
  | some M =>
  cases hC : rnC (.cons E0 n0 d0 s') (.cons er rn rd r') (j + 1) with
  | none => rw [hC] at bc; simp at bc
  | some c =>
  obtain ⟨Mn, Md⟩ := M
  obtain ⟨cn, cd⟩ := c
  have hcoK : co K = gsm j (co E0) := by
    have hK' : scaleS E0 (((j + 1 : Nat) : Int) - 1) 1 = some K := hK
    rw [co_scaleS hK', show ((j + 1 : Nat) : Int) - 1 = (j : Int) by omega, rat_nat]
    rfl
  have gK : sGood K = true := (scaleS_some (show scaleS E0 (((j + 1 : Nat) : Int) - 1) 1 = some K from hK)).2.2.1
  have hE' : subS er K = some e' := by
    have := hE
    unfold rnE at this
    rw [hK] at this
    exact this
  have co0 : gadd (co e') (gsm j (co E0)) = co er := by rw [← hcoK]; exact co_subS hE' (sGood_len gK).2.2
  have ge' : sGood e' = true := addS_good (show addS er (negP K) = some e' from hE')
  have hMok : FOk Mn Md ∧ rat Mn Md = rp (rat n0 d0) j * ((j + 1 : Nat) : Rat) := by
    have hM' : fMultiply (rnP (fC (.cons E0 n0 d0 s')) _ (j + 1 - 1)).2.1 _ ((j + 1 : Nat) : Int) 1 = some (Mn, Md) := hM
    refine ⟨two_ok hM', ?_⟩
    rw [rat_mul hqok (frac_kk h2 h4) hM', hqr, rat_nat]
    rfl
  have hr0 : rat n0 d0 ≠ 0 := rat_ne ks
  have hrp0 : ∀ i, rp (rat n0 d0) i ≠ 0 := fun i => by
    induction i with
    | zero => simp only [rp]; decide
    | succ i ih => simp only [rp]; intro hz; rcases Rat.mul_eq_zero.1 hz with hz | hz <;> contradiction
  have hM0 : Mn ≠ 0 := fun h0 => by
    have h1 := hMok.2
    rw [h0, rat_zero] at h1
    rcases Rat.mul_eq_zero.1 h1.symm with hz | hz
    · exact hrp0 j hz
    · exact castP j hz
  have hc : FOk cn cd ∧ rat cn cd * rat Mn Md = rat rn rd := by
    have hC' : fDivide rn rd Mn Md = some (cn, cd) := by
      have := hC
      unfold rnC at this
      rw [hM] at this
      exact this
    exact rat_div kr.1 hMok.1 hM0 hC'
  have hc0 : cn ≠ 0 := fun h0 => by
    have h1 := hc.2
    rw [h0, rat_zero] at h1
    exact rat_ne kr (by grind)
  have hT : rsT x (.cons E0 n0 d0 s') (.cons er rn rd r') (j + 1) i = .cons e' cn cd .nil := by
    unfold rsT rnT
    rw [if_neg hi, if_neg (by simp [Sur.len]), hE, hC]
    simp only [Option.getD_some, termP, if_neg hc0]
  rw [hT] at hS
  have abv : Above (.cons e' cn cd .nil) (.cons E0 n0 d0 s') := by
    have hx := sGood_exG gs
    have ke := sGood_g ge'
    have key : ∀ {q : Sur}, ExP (fun u => GtF (gadd u (gsm j (co E0))) (co er)) q → ExG q → Above (.cons e' cn cd .nil) q := fun {q} => by
      induction q with
      | nil => exact fun _ _ => trivial
      | cons e n d q' _ ih =>
        intro hab hx
        refine ⟨⟨order_of_gt hx.1.1 hx.1.2 ke.1 ke.2 ?_, trivial⟩, ih hab.2 hx.2⟩
        have h1 := hab.1
        rw [← co0] at h1
        exact h1.cancel
    exact key hab' hx
  have hlow : GtF (co E0) (co e') := by
    have h1 := hab'.1
    rw [← co0] at h1
    exact h1.cancel
  have hS1 : S = (Sur.cons E0 n0 d0 s').app (.cons e' cn cd .nil) := by
    have h1 := (addS_some hS).2.2.1
    rw [sumP_above abv] at h1
    injection h1 with h1
    exact h1.symm
  have hsup : Sup (fn R) fun u => GtF (co er) u := by
    obtain ⟨Q, hq, hQ⟩ := fpow_lead (S := fn (.cons E0 n0 d0 s')) (S' := fn s') (c := rat n0 d0) (e := co E0) (fun f => rfl) (fn_sup (rest_low gs)) j
    obtain ⟨B, hB, hBs⟩ := fpow_plus (fn_nice (.cons E0 n0 d0 s')) (fn_nice (.cons e' cn cd .nil)) (fn_lead gs) (T := fn (.cons e' cn cd .nil)) (e' := co e') (fun f k hfk => by simp only [fn]; rw [hfk _ (.inl rfl)]) hlow j
    have hSf : fn S = fun f => fn (.cons E0 n0 d0 s') f + fn (.cons e' cn cd .nil) f := fn_addS hS
    have key : ∀ f, fn R f = fn r' f - ((j + 1 : Nat) : Rat) * (rat cn cd * Q (fun g => f (gadd g (co e')))) - B f := fun f => by
      have h1 := heq f
      have h2 := hxs f
      rw [hSf, hB] at h1
      have h3 : fmul (fpow (fn (.cons E0 n0 d0 s')) j) (fn (.cons e' cn cd .nil)) f = rat cn cd * (rp (rat n0 d0) j * f (co er) + Q (fun g => f (gadd g (co e')))) := by
        have h4 : fmul (fpow (fn (.cons E0 n0 d0 s')) j) (fn (.cons e' cn cd .nil)) f = fpow (fn (.cons E0 n0 d0 s')) j (fun g => rat cn cd * f (gadd g (co e'))) := by
          show fpow _ j (fun g => fn (.cons e' cn cd .nil) fun h => f (gadd g h)) = _
          congr 1
          funext g
          simp only [fn]; grind
        rw [h4, ((fn_nice _).pow j).lin.smul, hq, gadd_comm, co0]
      rw [h3] at h1
      have h5 := hc.2
      rw [hMok.2] at h5
      have h6 : fn (.cons er rn rd r') f = rat rn rd * f (co er) + fn r' f := rfl
      rw [h6, ← h5] at h2
      grind
    intro f k' hfk
    rw [key, key, fn_sup (rest_low gr) f k' hfk, hQ (fun g => f (gadd g (co e'))) (fun g => k' (gadd g (co e'))) fun u hu => hfk _ (by rw [← co0, gadd_comm (co e')]; exact hu.addR), hBs f k' fun u hu => hfk _ (by rw [← co0, gadd_comm (co e')]; exact hu)]
  have hfE : fE S = E0 := by rw [hS1]; rfl
  refine ⟨gS, gR, heq, ⟨E0, n0, d0, s'.app (.cons e' cn cd .nil), hS1, hC0⟩, fun hr1 => ?_, ⟨.cons E0 n0 d0 s', e', cn, cd, hS1, by rw [hfE, Nat.add_sub_cancel, co0]; exact hsup⟩, by rw [hS1, Sur.len_snoc]; omega⟩
  cases R with
  | nil => exact absurd rfl hr1
  | cons e1 n1 d1 r2 =>
    have hl := lead_in gR hsup
    rw [hfE, hS1, Nat.add_sub_cancel]
    refine ExP.app (ExP.mono (fun u hu => hu.trans hl) hab') ⟨?_, trivial⟩
    show GtF (gadd (co e') (gsm j (co E0))) (co e1)
    rw [co0]; exact hl
end Go.Proofs.YtonlfnbjbmgegaaGreat
