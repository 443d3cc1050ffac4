/-
  Walks: roots by terms, the reference's.
-/
import Derived.Test.YtonlfnbjbmgegaaGreatRB
import Derived.Test.YtonlfnbjbmgegaaGreatWQuo2
namespace Go.Proofs.YtonlfnbjbmgegaaGreat
open Go.RowKit
open List renaming getElem_toArray → zp1, getElem_cons_zero → zp2, getElem_cons_succ → zp3, setIfInBounds_toArray → zp4, set_cons_zero → zp5, set_cons_succ → zp6
set_option linter.unusedSimpArgs false
set_option linter.unusedVariables false

theorem optF_some (a : Int × Int) : optF (some a) = .tuple #[.agg #[.int .i64 a.1, .int .i64 a.2], .bool true] := rfl
attribute [local go_sem high] has_cell has_frozen
set_option synthInstance.maxHeartbeats 2000000 in
set_option synthInstance.maxSize 4000 in
set_option maxHeartbeats 4000000 in
set_option maxRecDepth 100000 in
theorem kpower_any (x : Sur) (k : Nat) (bad : Bool) (mb : Nat) (X : Nat → Prop) (A : Option Addr) (c : Nat) (w : World) [hmb : Has w mb (.cells #[.bool bad] 76 (0, 0))] [hX : XOk X mb] (sx : SSl X w x A c) (gx : sGood x = true) (h1 : k ≤ 12) :
    Calls Tryz.prog 54 #[.pointer (some ⟨mb, 0, none⟩), .agg #[.slice A x.len c], .int .i64 k] w fun e w' => ∃ A' c', e = .returned (.agg #[.slice A' (kpow x k bad).2.len c']) ∧ SSl (XL w) w' (kpow x k bad).2 A' c' ∧ Below w.heap.size (w.setCell ⟨mb, 0, none⟩ (.bool (kpow x k bad).1)) w' := by
  haveI := Tr.arg sx
  have hX2 := hX
  clear sx
  have HG := Lib.hid gx
  go_enter Tryz.func54, Tryz.ntmps54
  go_wp2_with (first | ((with_reducible refine at_dst (N := 4) rfl ?_); refine ev_box (cs := #[.slice A x.len c]) (t := 26) rfl ?hr4 ?_; (case hr4 => first | (go_simp; done) | (go_simp; rfl)); intro g4 v4 _ _ _ _) | ((with_reducible refine at_dst (N := 6) rfl ?_); refine ev_box (cs := #[.slice none 0 0]) (t := 26) rfl ?hr6 ?_; (case hr6 => first | (go_simp; done) | (go_simp; rfl)); intro g6 v6 _ _ _ _) | ((with_reducible refine at_dst (N := 7) rfl ?_); refine ev_box (cs := #[.slice none 0 0]) (t := 26) rfl ?hr7 ?_; (case hr7 => first | (go_simp; done) | (go_simp; rfl)); intro g7 v7 _ _ _ _) | (go_at_call 77; refine (suInt_any _ (XL _) _ (fun k hk => hk) (by unfold I64; omega)).mono ?_; rintro e8 w8 ⟨A8, c8, rfl, hs, hb⟩; haveI : Bel _ w8 := ⟨hb⟩; haveI := Tr.arg hs; clear hs hb))
  have hone : termP .nil 1 1 = oneS := rfl
  simp only [hone] at *
  clear hone
  go_loopw [2] (fun s wr => ∃ (m : Nat) (b : Bool) (Ao : Option Addr) (co : Nat) (out : Sur), s = .int .i64 m ∧ m ≤ k ∧ Has wr mb (.cells #[.bool b] 76 (0, 0)) ∧ Has wr g7 (.cells #[.slice Ao out.len co] 26 (0, 0)) ∧
      Tr wr Ao (XV wr (XU (XE mb) (XU (XE g6) (XU (XE g7) (XL w))))) out co ∧ Kp v7 (XU (XE mb) (XE g7)) wr ∧ Hid (sGood out = true) ∧ Hid (kpow x k bad = kpowGo x m b out)) (fun s _ => (intOf s).toNat)
  case atStart => exact ⟨k, bad, A8, c8, oneS, rfl, Nat.le_refl _, inferInstance, inferInstance, Tr.lp (XU (XE mb) (XU (XE g6) (XU (XE g7) (XL w)))), kp _ _ _, (show sGood oneS = true by decide), rfl⟩
  case round =>
    obtain ⟨m, b, Ao, co, out, rfl, hm, _, _, _, _, GO, HS⟩ := hrel
    by_cases hm0 : 0 < m
    · obtain ⟨m', rfl⟩ : ∃ m', m = m' + 1 := ⟨m - 1, by omega⟩
      have hmn : (0 : Int) < ((m' + 1 : Nat) : Int) := by omega
      have GN : Hid (sGood (keepS b (prodS out x)) = true) := keepS_good fun z h => prodS_good h
      have HN : Hid (kpow x k bad = kpowGo x m' (b || !(prodS out x).isSome) (keepS b (prodS out x))) := HS.out
      clear HS hm0
      go_wp2_with (first | (go_at_call 61; (with_reducible refine (kmul_any out x b mb _ _ Ao A _ _ _ (tr _ Ao) (tr _ A) GO.out HG.out has1 has_frozen).mono ?_); rintro e16 w16 ⟨A16, c16, rfl, hf, hb⟩; haveI := belM hb; haveI := Fs.of hf; clear hf hb))
      exact ⟨⟨m', _, A16, c16, _, by go_num, by omega, inferInstance, inferInstance, Tr.lp (XU (XE mb) (XU (XE g6) (XU (XE g7) (XL w)))), kp _ _ _, GN, HN⟩, by simp only [intOf]; omega⟩
    · obtain rfl : m = 0 := by omega
      have HE : Hid (kpow x k bad = (b, out)) := HS.out
      clear HS hm0
      go_wp2
      refine bodyPost_ret (v := .agg #[.slice Ao out.len co]) (by simp [results, Tryz.results54, go_sem]) rfl ?_
      rw [HE.out]
      exact ⟨Ao, co, rfl, (trx (XL w) _ Ao : SSl (XL w) _ out Ao co), marked w _ mb⟩

theorem sCoef_I64 {n d : Int} {k : Nat} {p : Int × Int} (hf : fracOk n d = true) (h2 : 2 ≤ k) (h : sCoef n d k = some p) : fracOk p.1 p.2 = true := by
  rw [sCoef_rootC hf h2] at h
  unfold rootC at h
  split at h
  · cases h
  · obtain ⟨a, b⟩ := p
    exact made_ok h
set_option synthInstance.maxHeartbeats 2000000 in
set_option synthInstance.maxSize 4000 in
set_option maxHeartbeats 16000000 in
set_option maxRecDepth 100000 in
theorem seRoots_any (x : Sur) (k : Nat) (n : Int) (X : Nat → Prop) (A : Option Addr) (c : Nat) (w : World) (hX : ∀ k, X k → k < w.heap.size) (sx : SSl X w x A c) (gx : sGood x = true) (h2 : 2 ≤ k) (h4 : k ≤ 4) (h0 : 0 ≤ n) (h12 : n ≤ 12) :
    Calls Tryz.prog 43 #[.agg #[.slice A x.len c], .int .i64 k, .int .i64 n] w fun e w' => ∃ A1 c1 A2 c2, e = .returned (.tuple #[.agg #[.slice A1 (srR x k n.toNat).2.1.len c1], .agg #[.slice A2 (srR x k n.toNat).2.2.len c2], .bool (!(srR x k n.toNat).1)]) ∧ SSl (XL w) w' (srR x k n.toNat).2.1 A1 c1 ∧ SSl X w' (srR x k n.toNat).2.2 A2 c2 ∧ sGood (srR x k n.toNat).2.1 = true ∧ sGood (srR x k n.toNat).2.2 = true ∧ Below w.heap.size w w' := by
  obtain ⟨N, hN⟩ : ∃ N : Nat, n = N := ⟨n.toNat, by omega⟩
  subst hN
  rw [Int.toNat_natCast]
  haveI : ∀ U, [LeB w U] → XSub X (XL U) := fun U _ => ⟨fun k hk => Nat.lt_of_lt_of_le (hX k hk) LeB.h⟩
  haveI : XSub X X := ⟨fun _ h => h⟩
  haveI := Tr.arg sx
  clear sx
  have GX := Lib.hid gx
  have hw : IntKind.i64.wrap ((k : Int) - 1) = (k : Int) - 1 := IntWalk.i64_in _ (by omega)
  have HF1 := Lib.hid (frac_inv h2 h4)
  have HF2 := Lib.hid (frac_less h2 h4)
  go_enter Tryz.func43, Tryz.ntmps43
  go_upto_region 2 with (first | ((with_reducible refine at_dst (N := 3) rfl ?_); refine ev_box (cs := #[.slice A x.len c]) (t := 26) rfl ?hr3 ?_; (case hr3 => first | (go_simp; done) | (go_simp; rfl)); intro g3 v3 _ _ _ _) | ((with_reducible refine at_dst (N := 6) rfl ?_); refine ev_box (cs := #[.slice none 0 0]) (t := 26) rfl ?hr6 ?_; (case hr6 => first | (go_simp; done) | (go_simp; rfl)); intro g6 v6 _ _ _ _) | ((with_reducible refine at_dst (N := 7) rfl ?_); refine ev_box (cs := #[.slice none 0 0]) (t := 26) rfl ?hr7 ?_; (case hr7 => first | (go_simp; done) | (go_simp; rfl)); intro g7 v7 _ _ _ _) | ((with_reducible refine at_dst (N := 20) rfl ?_); refine ev_box (cs := #[.bool false]) (t := 76) rfl ?hr20 ?_; (case hr20 => first | (go_simp; done) | (go_simp; rfl)); intro g20 v20 _ _ _ _))
  go_cut [10, 11] (fun s10 s11 wx => ∃ g10 g11 : Nat, s10 = .pointer (some ⟨g10, 0, none⟩) ∧ s11 = .pointer (some ⟨g11, 0, none⟩) ∧ Has wx g10 (.cells #[.slice none 0 0] 26 (0, 0)) ∧ Has wx g11 (.cells #[.slice A x.len c] 26 (0, 0)) ∧ Bel v20 wx ∧ GeB v20 g10 ∧ GeB v20 g11 ∧ g10 ≠ g11)
  case first => as_aux_lemma =>
    refine wp_region_held_drew (S := (fun w' => w'.cell? ⟨g3, 0, none⟩ = some (.slice A x.len c))) (by kernel_rfl) ?hSn1_ (fun hHeld => ?hRn1_)
    case hSn1_ => (exact has1)
    refine wpAnyH_take (i := 0) (v := ?vn1_1) rfl (by kernel_rfl) (by kernel_rfl) (by kernel_rfl) (fun _ _ _ h => h) (Or.inl ⟨by rfl, ?hyn1_1⟩) (by assumption) ?hRn1_1
    case hyn1_1 => (intro w hSw; (try dsimp only at hSw); go_simp; (try with_reducible rfl))
    try simp only [Act.put, zp1, zp2, zp3, zp4, zp5, zp6]
    refine wpAnyH_take (i := 1) (v := ?vn1_2) rfl (by kernel_rfl) (by kernel_rfl) (by kernel_rfl) (fun _ _ _ h => h) (Or.inl ⟨by rfl, ?hyn1_2⟩) (by assumption) ?hRn1_2
    case hyn1_2 => (intro w hSw; (try dsimp only at hSw); go_simp; (try with_reducible rfl))
    try simp only [Act.put, zp1, zp2, zp3, zp4, zp5, zp6]
    refine wpAnyH_ready (rs := [2, 3]) (by kernel_rfl) (by simp) ?_
    refine AllReadyH.cons rfl (fun K hK => ?bn1_3) (AllReadyH.cons rfl (fun K hK => ?bn1_4) (AllReadyH.nil))
    case' bn1_3 =>
      go_simp
      refine hK.out _ _ ?hSn1_5 (fun hHeld => ?hRn1_5)
      case hSn1_5 => ((try dsimp only); exact has1)
      clear hK K
      try simp only [Act.put, zp1, zp2, zp3, zp4, zp5, zp6]
      refine wpAnyH_ready (rs := [3]) (by kernel_rfl) (by simp) ?_
      refine AllReadyH.cons rfl (fun K hK => ?_) AllReadyH.nil
      go_simp
      refine hK.out _ _ ?hSn1_6 (fun hHeld => ?hRn1_6)
      case hSn1_6 => ((try dsimp only); exact has1)
      clear hK K
      try simp only [Act.put, zp1, zp2, zp3, zp4, zp5, zp6]
      refine wpAnyH_ready (rs := [4]) (by kernel_rfl) (by simp) ?_
      refine AllReadyH.cons rfl (fun K hK => ?_) AllReadyH.nil
      go_simp
      refine hK.out _ _ ?hSn1_7 (fun hHeld => ?hRn1_7)
      case hSn1_7 => ((try dsimp only); exact has1)
      clear hK K
      try simp only [Act.put, zp1, zp2, zp3, zp4, zp5, zp6]
      refine wpAnyH_ready (rs := [5]) (by kernel_rfl) (by simp) ?_
      refine AllReadyH.cons rfl (fun K hK => ?_) AllReadyH.nil
      go_simp
      refine hK.out _ _ ?hSn1_8 (fun hHeld => ?hRn1_8)
      case hSn1_8 => ((try dsimp only); exact has1)
      clear hK K
      try simp only [Act.put, zp1, zp2, zp3, zp4, zp5, zp6]
      refine wpAnyH_done (by kernel_rfl) ?_ _
    case' bn1_4 =>
      go_simp
      refine hK.out _ _ ?hSn1_9 (fun hHeld => ?hRn1_9)
      case hSn1_9 => ((try dsimp only); exact has1)
      clear hK K
      try simp only [Act.put, zp1, zp2, zp3, zp4, zp5, zp6]
      refine wpAnyH_ready (rs := [2]) (by kernel_rfl) (by simp) ?_
      refine AllReadyH.cons rfl (fun K hK => ?_) AllReadyH.nil
      go_simp
      refine hK.out _ _ ?hSn1_10 (fun hHeld => ?hRn1_10)
      case hSn1_10 => ((try dsimp only); exact has1)
      clear hK K
      try simp only [Act.put, zp1, zp2, zp3, zp4, zp5, zp6]
      refine wpAnyH_ready (rs := [4]) (by kernel_rfl) (by simp) ?_
      refine AllReadyH.cons rfl (fun K hK => ?_) AllReadyH.nil
      go_simp
      refine hK.out _ _ ?hSn1_11 (fun hHeld => ?hRn1_11)
      case hSn1_11 => ((try dsimp only); exact has1)
      clear hK K
      try simp only [Act.put, zp1, zp2, zp3, zp4, zp5, zp6]
      refine wpAnyH_ready (rs := [5]) (by kernel_rfl) (by simp) ?_
      refine AllReadyH.cons rfl (fun K hK => ?_) AllReadyH.nil
      go_simp
      refine hK.out _ _ ?hSn1_12 (fun hHeld => ?hRn1_12)
      case hSn1_12 => ((try dsimp only); exact has1)
      clear hK K
      try simp only [Act.put, zp1, zp2, zp3, zp4, zp5, zp6]
      refine wpAnyH_done (by kernel_rfl) ?_ _
    all_goals
      go_wp2
      go_meet
      exact ⟨_, _, rfl, rfl, inferInstance, inferInstance, ⟨ext _ _⟩, inferInstance, inferInstance, by simp⟩
  case rest =>
  rename World => wb
  obtain ⟨g10, g11, rfl, rfl, _, _, _, _, _, hne⟩ := hcut
  haveI : NeB g10 g11 := ⟨hne⟩
  haveI : NeB g11 g10 := ⟨fun h => hne h.symm⟩
  haveI : GeB w g10 := ⟨by have h1 := (GeB.h (w := v20) (g := g10)); have h2 := (LeB.h (w := w) (W := v20)); omega⟩
  haveI : GeB w g11 := ⟨by have h1 := (GeB.h (w := v20) (g := g11)); have h2 := (LeB.h (w := w) (W := v20)); omega⟩
  haveI nb1 : ∀ g, [LtB g v20] → NeB g g10 := fun g _ => ⟨by have h1 := (GeB.h (w := v20) (g := g10)); have h2 : g < v20.heap.size := LtB.h; omega⟩
  haveI nb2 : ∀ g, [LtB g v20] → NeB g g11 := fun g _ => ⟨by have h1 := (GeB.h (w := v20) (g := g11)); have h2 : g < v20.heap.size := LtB.h; omega⟩
  haveI nb3 : ∀ g, [LtB g v20] → NeB g10 g := fun g _ => ⟨by have h1 := (GeB.h (w := v20) (g := g10)); have h2 : g < v20.heap.size := LtB.h; omega⟩
  haveI nb4 : ∀ g, [LtB g v20] → NeB g11 g := fun g _ => ⟨by have h1 := (GeB.h (w := v20) (g := g11)); have h2 : g < v20.heap.size := LtB.h; omega⟩
  have hg20 : g20 < v20.heap.size := LtB.h
  have hg20w : w.heap.size ≤ g20 := GeB.h
  go_wp2_with fail
  go_loopw [2] (fun s wr => ∃ (m : Nat) (bad : Bool) (As : Option Addr) (cs : Nat) (s' : Sur) (Ar : Option Addr) (cr : Nat) (r : Sur), s = .int .i64 m ∧ m ≤ N ∧ Has wr g20 (.cells #[.bool bad] 76 (0, 0)) ∧ Has wr g10 (.cells #[.slice As s'.len cs] 26 (0, 0)) ∧ Has wr g11 (.cells #[.slice Ar r.len cr] 26 (0, 0)) ∧
      Fs wr As v20 wr s' cs ∧ Tr wr Ar (XV wr (XU X (XU (XE g6) (XU (XE g7) (XU (XE g20) (XU (XE g10) (XE g11))))))) r cr ∧ Kp wb (XU (XE g20) (XU (XE g10) (XE g11))) wr ∧ Hid (sGood s' = true) ∧ Hid (sGood r = true) ∧ Hid (srGo x k N false .nil x = srGo x k m bad s' r)) (fun s _ => (intOf s).toNat)
  case atStart => exact ⟨N, false, none, 0, .nil, A, c, x, rfl, by omega, inferInstance, inferInstance, inferInstance, Fs.nil, Tr.lp (XU X (XU (XE g6) (XU (XE g7) (XU (XE g20) (XU (XE g10) (XE g11)))))), kp _ _ _, sGood_nil, GX, rfl⟩
  case round =>
    obtain ⟨m, bad, As, cs, s, Ar, cr, r, rfl, hm, _, _, _, _, _, _, GS, GR, HS⟩ := hrel
    by_cases hgo : 0 < m ∧ bad = false ∧ r.len ≠ 0
    · obtain ⟨hm1, rfl, nr⟩ := hgo
      obtain ⟨m', rfl⟩ : ∃ m', m = m' + 1 := ⟨m - 1, by omega⟩
      obtain ⟨b, o, A1, d1, hAr, q0, q1, q2, se1, hXb, hbl⟩ := (tr wr Ar).at0 nr
      have hbm : b ≠ g20 := fun h => hXb (.inr (.inr (.inr (.inr (.inl h)))))
      have hir := fC_I64 (tr wr Ar) nr
      haveI := Tr.arg se1
      clear se1
      have HCO := Lib.hid (fC_ok GR.out nr)
      have HCR : Hid (fracOk (fC r).1 (fC r).2 = true) := HCO.out.1
      have HGE : Hid (sGood (fE r) = true) := fE_good GR.out
      have hr0 : (0 : Int) < (r.len : Int) := by omega
      have hr0n : 0 < r.len := by omega
      have hr1 : ((r.len : Int) == 0) = false := by simp; omega
      have hmn : (0 : Int) < ((m' + 1 : Nat) : Int) := by omega
      have Q0 : ∀ W, KpI wr (XE g20) W → W.cell? ⟨b, o, none⟩ = some (.slice A1 (fE r).len d1) := fun W h => kpi_cell (k := h) hbl hbm q0
      have Q1 : ∀ W, KpI wr (XE g20) W → W.cell? ⟨b, o + 1, none⟩ = some (.int .i64 (fC r).1) := fun W h => kpi_cell (k := h) hbl hbm q1
      have Q2 : ∀ W, KpI wr (XE g20) W → W.cell? ⟨b, o + 2, none⟩ = some (.int .i64 (fC r).2) := fun W h => kpi_cell (k := h) hbl hbm q2
      obtain ⟨s', hs'⟩ : ∃ s', ssS s r k = s' := ⟨_, rfl⟩
      obtain ⟨b4, hb4⟩ : ∃ b4, ssB s r k = b4 := ⟨_, rfl⟩
      obtain ⟨⟨pb, pp⟩, hP⟩ : ∃ P, ssP s r k = P := ⟨_, rfl⟩
      obtain ⟨R, hR⟩ : ∃ R, ssR x s r k = R := ⟨_, rfl⟩
      have HP : Hid (kpow s' k b4 = (pb, pp)) := by show _ = _; rw [← hs', ← hb4]; exact hP
      have HR : Hid (sumS x (negP pp) = R) := by show _ = _; have h := hR; unfold ssR at h; rw [hP] at h; exact h
      have HN2 : ¬ (s.len = 0 ∧ sCoef (fC r).1 (fC r).2 k = none) → Hid (srGo x k N false .nil x = srGo x k m' (pb || !R.isSome) s' (keepS pb R)) := fun h => by
        show _ = _
        rw [HS.out, srGo_step nr h]
        unfold ssB6 ssR1
        rw [hs', hP, hR]
      have HN0 : (s.len = 0 ∧ sCoef (fC r).1 (fC r).2 k = none) → Hid (srR x k N = (true, .nil, .nil)) := fun h => by
        show _ = _
        unfold srR
        rw [HS.out, srGo_none nr h]; rfl
      have HS1 : Hid (sGood s' = true) := by show _ = _; rw [← hs']; exact ssS_good
      have HPG : Hid (sGood pp = true) := by
        have h := kpow_good s' k b4 oneS (by decide)
        have h2 := HP.out
        unfold kpow at h2
        rw [h2] at h
        exact h
      have GR1 : Hid (sGood (keepS pb R) = true) := keepS_good fun z h => sumS_good (HR.out.trans h)
      clear hP hR HS
      by_cases ns : s.len = 0
      · have hs1 : ((s.len : Int) == 0) = true := by simpa using ns
        have HT1 : Hid (sfT r k = s') := by show _ = _; have h := hs'; unfold ssS at h; rw [if_pos ns] at h; exact h
        have HB1 : Hid (sfB2 r k = b4) := by show _ = _; have h := hb4; unfold ssB at h; rw [if_pos ns] at h; exact h
        by_cases hno : sCoef (fC r).1 (fC r).2 k = none
        · have HE := HN0 ⟨ns, hno⟩
          have HCo := Lib.hid hno
          clear HN0 HN2 hno ns hs' hb4 nr q0 q1 q2
          subst hAr
          go_upto_region 5 with (first | (go_at_call 59; (with_reducible refine (suZero_any r (some ⟨b, o, none⟩) cr _).mono ?_); rintro e27 w27 ⟨rfl, hb⟩; haveI : Bel _ w27 := ⟨hb⟩; clear hb))
          have r0 := Q0 w27 inferInstance
          have r1 := Q1 w27 inferInstance
          have r2 := Q2 w27 inferInstance
          go_wp2_with (first | ((with_reducible refine at_dst (N := 12) rfl ?_); refine ev_box (cs := #[.slice none 0 0, .int .i64 0, .int .i64 0]) (t := 70) rfl ?hr12 ?_; (case hr12 => first | (go_simp; done) | (go_simp; rfl)); intro g12 v12 _ _ _ _) | (go_at_call 59; (with_reducible refine (suZero_any s As cs _).mono ?_); rintro e44 w44 ⟨rfl, hb⟩; haveI : Bel _ w44 := ⟨hb⟩; clear hb) | ((with_reducible refine at_dst (N := 13) rfl ?_); refine ev_box (cs := #[.int .i64 0, .int .i64 0]) (t := 68) rfl ?hr13 ?_; (case hr13 => first | (go_simp; done) | (go_simp; rfl)); intro g13 v13 _ _ _ _) | (go_at_call 93; (with_reducible refine (seCoef_any (fC r).1 (fC r).2 k _ HCR.out h2 h4).mono ?_); rintro e49 w49 ⟨he, hb⟩; rw [HCo.out] at he; replace he : e49 = .returned (.tuple #[.agg #[.int .i64 0, .int .i64 0], .bool false]) := he; subst he; haveI : Bel _ w49 := ⟨hb⟩; clear hb))
          refine bodyPost_ret (v := .tuple #[.agg #[.slice none 0 0], .agg #[.slice none 0 0], .bool false]) (by simp [results, Tryz.results43, go_sem]) rfl ?_
          rw [HE.out]
          exact ⟨none, 0, none, 0, rfl, SSl.nil _ _, SSl.nil _ _, sGood_nil, sGood_nil, ext w _⟩
        · have HN3 := HN2 (fun h => hno h.2)
          have HCo : Hid (sCoef (fC r).1 (fC r).2 k = some (sfA r k)) := by
            show _ = _
            unfold sfA
            cases h : sCoef (fC r).1 (fC r).2 k with
            | none => exact absurd h hno
            | some p => rfl
          have HIA := Lib.hid (fracOk_I64 (sCoef_I64 HCO.out.1 h2 HCo.out))
          clear HN0 HN2 hno ns hs' hb4 nr q0 q1 q2
          subst hAr
          go_upto_region 5 with (first | (go_at_call 59; (with_reducible refine (suZero_any r (some ⟨b, o, none⟩) cr _).mono ?_); rintro e27 w27 ⟨rfl, hb⟩; haveI : Bel _ w27 := ⟨hb⟩; clear hb))
          have r0 := Q0 w27 inferInstance
          have r1 := Q1 w27 inferInstance
          have r2 := Q2 w27 inferInstance
          go_upto_region 10 with (first | ((with_reducible refine at_dst (N := 12) rfl ?_); refine ev_box (cs := #[.slice none 0 0, .int .i64 0, .int .i64 0]) (t := 70) rfl ?hr12 ?_; (case hr12 => first | (go_simp; done) | (go_simp; rfl)); intro g12 v12 _ _ _ _) | (go_at_call 59; (with_reducible refine (suZero_any s As cs _).mono ?_); rintro e44 w44 ⟨rfl, hb⟩; haveI : Bel _ w44 := ⟨hb⟩; clear hb) | ((with_reducible refine at_dst (N := 13) rfl ?_); refine ev_box (cs := #[.int .i64 0, .int .i64 0]) (t := 68) rfl ?hr13 ?_; (case hr13 => first | (go_simp; done) | (go_simp; rfl)); intro g13 v13 _ _ _ _) | (go_at_call 93; (with_reducible refine (seCoef_any (fC r).1 (fC r).2 k _ HCR.out h2 h4).mono ?_); rintro e49 w49 ⟨he, hb⟩; rw [HCo.out, optF_some] at he; subst he; haveI : Bel _ w49 := ⟨hb⟩; clear hb))
          go_cut [] (fun wz => ∃ (Az : Option Addr) (cz : Nat), Has wz g20 (.cells #[.bool b4] 76 (0, 0)) ∧ Has wz g10 (.cells #[.slice Az s'.len cz] 26 (0, 0)) ∧ Fs wz Az wr wz s' cz ∧ Kp wr (XU (XE g20) (XE g10)) wz)
          case first => as_aux_lemma =>
            refine wp_region_held_drew (S := (fun w' => w'.cell? ⟨g12, 0, none⟩ = some (.slice A1 (fE r).len d1) ∧ w'.cell? ⟨g13, 0, none⟩ = some (.int .i64 (sfA r k).1) ∧ w'.cell? ⟨g13, 1, none⟩ = some (.int .i64 (sfA r k).2))) (by kernel_rfl) ?hSn2_ (fun hHeld => ?hRn2_)
            case hSn2_ => (exact ⟨has3.1, has2.1, has2.2⟩)
            refine wpAnyH_take (i := 0) (v := ?vn2_1) rfl (by kernel_rfl) (by kernel_rfl) (by kernel_rfl) (fun _ _ _ h => h) (Or.inl ⟨by rfl, ?hyn2_1⟩) (by assumption) ?hRn2_1
            case hyn2_1 => (intro w hSw; (try dsimp only at hSw); go_simp; (try with_reducible rfl))
            try simp only [Act.put, zp1, zp2, zp3, zp4, zp5, zp6]
            refine wpAnyH_take (i := 1) (v := ?vn2_2) rfl (by kernel_rfl) (by kernel_rfl) (by kernel_rfl) (fun _ _ _ h => h) (Or.inl ⟨by rfl, ?hyn2_2⟩) (by assumption) ?hRn2_2
            case hyn2_2 => (intro w hSw; (try dsimp only at hSw); go_simp; (try with_reducible rfl))
            try simp only [Act.put, zp1, zp2, zp3, zp4, zp5, zp6]
            refine wpAnyH_take (i := 2) (v := ?vn2_3) rfl (by kernel_rfl) (by kernel_rfl) (by kernel_rfl) (fun _ _ _ h => h) (Or.inl ⟨by rfl, ?hyn2_3⟩) (by assumption) ?hRn2_3
            case hyn2_3 => (intro w hSw; (try dsimp only at hSw); go_simp; (try with_reducible rfl))
            try simp only [Act.put, zp1, zp2, zp3, zp4, zp5, zp6]
            refine wpAnyH_take (i := 3) (v := ?vn2_4) rfl (by kernel_rfl) (by kernel_rfl) (by kernel_rfl) (fun _ _ _ h => h) (Or.inl ⟨by rfl, ?hyn2_4⟩) (by assumption) ?hRn2_4
            case hyn2_4 => (intro w hSw; (try dsimp only at hSw); go_simp; (try with_reducible rfl))
            try simp only [Act.put, zp1, zp2, zp3, zp4, zp5, zp6]
            refine wpAnyH_take (i := 4) (v := ?vn2_5) rfl (by kernel_rfl) (by kernel_rfl) (by kernel_rfl) (fun _ _ _ h => h) (Or.inl ⟨by rfl, ?hyn2_5⟩) (by assumption) ?hRn2_5
            case hyn2_5 => (intro w hSw; (try dsimp only at hSw); go_simp; (try with_reducible rfl))
            try simp only [Act.put, zp1, zp2, zp3, zp4, zp5, zp6]
            refine wpAnyH_take (i := 5) (v := ?vn2_6) rfl (by kernel_rfl) (by kernel_rfl) (by kernel_rfl) (fun _ _ _ h => h) (Or.inl ⟨by rfl, ?hyn2_6⟩) (by assumption) ?hRn2_6
            case hyn2_6 => (intro w hSw; (try dsimp only at hSw); go_simp; (try with_reducible rfl))
            try simp only [Act.put, zp1, zp2, zp3, zp4, zp5, zp6]
            refine wpAnyH_take (i := 7) (v := ?vn2_7) rfl (by kernel_rfl) (by kernel_rfl) (by kernel_rfl) (fun _ _ _ h => h) (Or.inl ⟨by rfl, ?hyn2_7⟩) (by assumption) ?hRn2_7
            case hyn2_7 => (intro w hSw; (try dsimp only at hSw); go_simp; (try with_reducible rfl))
            try simp only [Act.put, zp1, zp2, zp3, zp4, zp5, zp6]
            refine wpAnyH_ready (rs := [6]) (by kernel_rfl) (by simp) ?_
            refine AllReadyH.cons rfl (fun K hK => ?_) AllReadyH.nil
            go_simp
            ((go_at_call 95; (with_reducible refine (kscale_any (fE r) 1 (k : Int) false g20 _ A1 d1 _ (tr _ A1) HGE.out HF1.out has1 has_frozen).mono ?_); rintro e62 w62 ⟨A62, c62, he, hf, hb⟩; replace hb : Below _ (World.setCell _ _ (.bool (sfB1 r k))) w62 := hb; replace he : e62 = .returned (.agg #[.slice A62 (sfX r k).len c62]) := he; replace hf : SFresh _ w62 (sfX r k) A62 c62 := hf; subst he; haveI := belM hb; haveI := Fs.of hf; clear hf hb))
            go_wp2_with fail
            refine hK.out _ _ ?hSn2_8 (fun hHeld => ?hRn2_8)
            case hSn2_8 => ((try dsimp only); exact ⟨has3.1, has2.1, has2.2⟩)
            clear hK K
            try simp only [Act.put, zp1, zp2, zp3, zp4, zp5, zp6]
            refine wpAnyH_ready (rs := [8]) (by kernel_rfl) (by simp) ?_
            refine AllReadyH.cons rfl (fun K hK => ?_) AllReadyH.nil
            go_simp
            ((go_at_call 94; (with_reducible refine (kterm_any (sfX r k) (sfA r k).1 (sfA r k).2 (sfB1 r k) g20 _ A62 c62 _ (tr _ A62) HIA.out.1 HIA.out.2).mono ?_); rintro e64 w64 ⟨A64, c64, he, hf, hb⟩; replace hb : Below _ (World.setCell _ _ (.bool (sfB2 r k))) w64 := hb; replace he : e64 = .returned (.agg #[.slice A64 (sfT r k).len c64]) := he; replace hf : SFresh _ w64 (sfT r k) A64 c64 := hf; subst he; haveI := belM hb; haveI := Fs.of hf; clear hf hb))
            go_wp2_with fail
            refine hK.out _ _ ?hSn2_9 (fun hHeld => ?hRn2_9)
            case hSn2_9 => ((try dsimp only); exact ⟨has3.1, has2.1, has2.2⟩)
            clear hK K
            try simp only [Act.put, zp1, zp2, zp3, zp4, zp5, zp6]
            refine wpAnyH_ready (rs := [9]) (by kernel_rfl) (by simp) ?_
            refine AllReadyH.cons rfl (fun K hK => ?_) AllReadyH.nil
            go_simp
            refine hK.out _ _ ?hSn2_10 (fun hHeld => ?hRn2_10)
            case hSn2_10 => ((try dsimp only); exact ⟨has3.1, has2.1, has2.2⟩)
            clear hK K
            try simp only [Act.put, zp1, zp2, zp3, zp4, zp5, zp6]
            refine wpAnyH_done (by kernel_rfl) ?_ _
            all_goals
              go_wp2
              go_meet
              rw [← HT1.out, ← HB1.out]
              exact ⟨A64, c64, inferInstance, inferInstance, Fs.lp, kp _ _ _⟩
          case rest =>
          rename World => wz
          obtain ⟨Az, cz, _, _, _, _⟩ := hcut
          go_upto_region 19 with fail
          refine wp_region_held_drew (S := (fun w' => w'.cell? ⟨g3, 0, none⟩ = some (.slice A x.len c) ∧ w'.cell? ⟨g10, 0, none⟩ = some (.slice Az s'.len cz))) (by kernel_rfl) ?hSn3_ (fun hHeld => ?hRn3_)
          case hSn3_ => (exact ⟨has1, has1⟩)
          refine wpAnyH_take (i := 0) (v := ?vn3_1) rfl (by kernel_rfl) (by kernel_rfl) (by kernel_rfl) (fun _ _ _ h => h) (Or.inl ⟨by rfl, ?hyn3_1⟩) (by assumption) ?hRn3_1
          case hyn3_1 => (intro w hSw; (try dsimp only at hSw); go_simp; (try with_reducible rfl))
          try simp only [Act.put, zp1, zp2, zp3, zp4, zp5, zp6]
          refine wpAnyH_take (i := 1) (v := ?vn3_2) rfl (by kernel_rfl) (by kernel_rfl) (by kernel_rfl) (fun _ _ _ h => h) (Or.inl ⟨by rfl, ?hyn3_2⟩) (by assumption) ?hRn3_2
          case hyn3_2 => (intro w hSw; (try dsimp only at hSw); go_simp; (try with_reducible rfl))
          try simp only [Act.put, zp1, zp2, zp3, zp4, zp5, zp6]
          refine wpAnyH_take (i := 2) (v := ?vn3_3) rfl (by kernel_rfl) (by kernel_rfl) (by kernel_rfl) (fun _ _ _ h => h) (Or.inl ⟨by rfl, ?hyn3_3⟩) (by assumption) ?hRn3_3
          case hyn3_3 => (intro w hSw; (try dsimp only at hSw); go_simp; (try with_reducible rfl))
          try simp only [Act.put, zp1, zp2, zp3, zp4, zp5, zp6]
          refine wpAnyH_take (i := 3) (v := ?vn3_4) rfl (by kernel_rfl) (by kernel_rfl) (by kernel_rfl) (fun _ _ _ h => h) (Or.inl ⟨by rfl, ?hyn3_4⟩) (by assumption) ?hRn3_4
          case hyn3_4 => (intro w hSw; (try dsimp only at hSw); go_simp; (try with_reducible rfl))
          try simp only [Act.put, zp1, zp2, zp3, zp4, zp5, zp6]
          refine wpAnyH_take (i := 4) (v := ?vn3_5) rfl (by kernel_rfl) (by kernel_rfl) (by kernel_rfl) (fun _ _ _ h => h) (Or.inl ⟨by rfl, ?hyn3_5⟩) (by assumption) ?hRn3_5
          case hyn3_5 => (intro w hSw; (try dsimp only at hSw); go_simp; (try with_reducible rfl))
          try simp only [Act.put, zp1, zp2, zp3, zp4, zp5, zp6]
          refine wpAnyH_ready (rs := [5]) (by kernel_rfl) (by simp) ?_
          refine AllReadyH.cons rfl (fun K hK => ?_) AllReadyH.nil
          go_simp
          ((go_at_call 54; (with_reducible refine (kpower_any s' k b4 g20 (XE g20) Az cz _ (trx (XE g20) _ Az) HS1.out (by omega)).mono ?_); rintro e108 w108 ⟨A108, c108, he, hs, hb⟩; rw [HP.out] at he hs hb; subst he; haveI := belM hb; haveI := Tr.arg hs; clear hs hb))
          go_wp2_with fail
          refine hK.out _ _ ?hSn3_6 (fun hHeld => ?hRn3_6)
          case hSn3_6 => ((try dsimp only); exact ⟨has1, has1⟩)
          clear hK K
          try simp only [Act.put, zp1, zp2, zp3, zp4, zp5, zp6]
          refine wpAnyH_ready (rs := [6]) (by kernel_rfl) (by simp) ?_
          refine AllReadyH.cons rfl (fun K hK => ?_) AllReadyH.nil
          go_simp
          ((go_at_call 97; (with_reducible refine (ksub_any x pp pb g20 (XE g20) (XE g20) A A108 _ _ _ (trx (XE g20) _ A) (trx (XE g20) _ A108) GX.out HPG.out).mono ?_); rintro e109 w109 ⟨A109, c109, he, hf, hb⟩; rw [HR.out] at he hf hb; subst he; haveI := belM hb; haveI := Fs.of hf; clear hf hb))
          go_wp2_with fail
          refine hK.out _ _ ?hSn3_7 (fun hHeld => ?hRn3_7)
          case hSn3_7 => ((try dsimp only); exact ⟨has1, has1⟩)
          clear hK K
          try simp only [Act.put, zp1, zp2, zp3, zp4, zp5, zp6]
          refine wpAnyH_ready (rs := [7]) (by kernel_rfl) (by simp) ?_
          refine AllReadyH.cons rfl (fun K hK => ?_) AllReadyH.nil
          go_simp
          refine hK.out _ _ ?hSn3_8 (fun hHeld => ?hRn3_8)
          case hSn3_8 => ((try dsimp only); exact ⟨has1, has1⟩)
          clear hK K
          try simp only [Act.put, zp1, zp2, zp3, zp4, zp5, zp6]
          refine wpAnyH_done (by kernel_rfl) ?_ _
          all_goals
            go_wp2
            exact ⟨⟨m', _, Az, cz, _, A109, c109, _, by go_num, by omega, inferInstance, inferInstance, inferInstance, Fs.lp, Tr.lp (XU X (XU (XE g6) (XU (XE g7) (XU (XE g20) (XU (XE g10) (XE g11)))))), kp _ _ _, HS1, GR1, HN3⟩, by simp only [intOf]; omega⟩
      · have hs1 : ((s.len : Int) == 0) = false := by simp; omega
        have hs0 : (0 : Int) < (s.len : Int) := by omega
        have hs0n : 0 < s.len := by omega
        have HT1 : Hid (snQ s r k = s') := by show _ = _; have h := hs'; unfold ssS at h; rw [if_neg ns] at h; exact h
        have HB1 : Hid (snB5 s r k = b4) := by show _ = _; have h := hb4; unfold ssB at h; rw [if_neg ns] at h; exact h
        have HN3 := HN2 (fun h => ns h.1)
        obtain ⟨b', o', A2, d2, hAs, p0, p1, p2, se2, hXb', hbl'⟩ := (tr wr As).at0 ns
        have hbm' : b' ≠ g20 := fun h => hXb' (.inr (by show b' < v20.heap.size; omega))
        haveI := Tr.arg se2
        clear se2
        have HCS := Lib.hid (fC_ok GS.out ns)
        have HGS : Hid (sGood (fE s) = true) := fE_good GS.out
        have P0 : ∀ W, KpI wr (XE g20) W → W.cell? ⟨b', o', none⟩ = some (.slice A2 (fE s).len d2) := fun W h => kpi_cell (k := h) hbl' hbm' p0
        have P1 : ∀ W, KpI wr (XE g20) W → W.cell? ⟨b', o' + 1, none⟩ = some (.int .i64 (fC s).1) := fun W h => kpi_cell (k := h) hbl' hbm' p1
        have P2 : ∀ W, KpI wr (XE g20) W → W.cell? ⟨b', o' + 2, none⟩ = some (.int .i64 (fC s).2) := fun W h => kpi_cell (k := h) hbl' hbm' p2
        have HW : Hid (FOk (snW s k).2.1 (snW s k).2.2 ∧ (snW s k).2.1 ≠ 0) := (tmGo_ok HCS.out (k - 1) false ((k : Int), 1) ⟨frac_k h2 h4, by show (k : Int) ≠ 0; omega⟩)
        have HGX1 : Hid (sGood (snX1 s k) = true) := keepS_good fun z h => prodS_good h
        have HGT : Hid (sGood (snT s r k) = true) := keepS_good fun z h => (told_eq h).1 ▸ (told_eq h).2.2
        have HIC : Hid (I64 (frN (snB3 s r k) (snN s r k)) ∧ I64 (frN (snB3 s r k) (snD s r k))) := fracOk_I64 (frV_ok (snB2 s r k) (snN s r k) (snD s r k))
        have HSG := GS
        clear HN0 HN2 ns hs' hb4 nr q0 q1 q2 p0 p1 p2
        subst hAr
        subst hAs
        go_upto_region 5 with (first | (go_at_call 59; (with_reducible refine (suZero_any r (some ⟨b, o, none⟩) cr _).mono ?_); rintro e27 w27 ⟨rfl, hb⟩; haveI : Bel _ w27 := ⟨hb⟩; clear hb))
        have r0 := Q0 w27 inferInstance
        have r1 := Q1 w27 inferInstance
        have r2 := Q2 w27 inferInstance
        go_upto_region 11 with (first | ((with_reducible refine at_dst (N := 12) rfl ?_); refine ev_box (cs := #[.slice none 0 0, .int .i64 0, .int .i64 0]) (t := 70) rfl ?hr12 ?_; (case hr12 => first | (go_simp; done) | (go_simp; rfl)); intro g12 v12 _ _ _ _) | (go_at_call 59; (with_reducible refine (suZero_any s (some ⟨b', o', none⟩) cs _).mono ?_); rintro e44 w44 ⟨rfl, hb⟩; haveI : Bel _ w44 := ⟨hb⟩; clear hb))
        have t0 := P0 w44 inferInstance
        have t1 := P1 w44 inferInstance
        have t2 := P2 w44 inferInstance
        go_wp2_with (first | ((with_reducible refine at_dst (N := 15) rfl ?_); refine ev_box (cs := #[.slice none 0 0, .int .i64 0, .int .i64 0]) (t := 70) rfl ?hr15 ?_; (case hr15 => first | (go_simp; done) | (go_simp; rfl)); intro g15 v15 _ _ _ _) | (go_at_call 78; refine (shInt_any _ _).mono ?_; rintro e70 w70 ⟨rfl, hb⟩; haveI : Bel _ w70 := ⟨hb⟩; clear hb) | ((with_reducible refine at_dst (N := 16) rfl ?_); refine ev_box (cs := #[.int .i64 0, .int .i64 0]) (t := 68) rfl ?hr16 ?_; (case hr16 => first | (go_simp; done) | (go_simp; rfl)); intro g16 v16 _ _ _ _))
        go_loopw [17] (fun q wq => ∃ (i : Nat) (b1 : Bool) (v : Int × Int), q = .int .i64 ((i + 1 : Nat) : Int) ∧ i + 1 ≤ k ∧ Has wq g20 (.cells #[.bool b1] 76 (0, 0)) ∧ Has wq g16 (.cells #[.int .i64 v.1, .int .i64 v.2] 68 (0, 0)) ∧ Kp w70 (XU (XE g20) (XE g16)) wq ∧ Hid (FOk v.1 v.2 ∧ v.1 ≠ 0) ∧ Hid (snW s k = tmGo (fC s) (k - 1 - i) b1 v)) (fun q _ => 20 - (intOf q).toNat)
        case atStart => exact ⟨0, false, ((k : Int), 1), rfl, by omega, inferInstance, inferInstance, kp _ _ _, ⟨frac_k h2 h4, by show (k : Int) ≠ 0; omega⟩, rfl⟩
        case round =>
          rename World => wq
          obtain ⟨i, b1, v, rfl, hi, _, _, _, HV, HS2⟩ := hrel
          by_cases hik : i + 1 < k
          · have hik1 : ((i + 1 : Nat) : Int) < (k : Int) := by omega
            have HV2 := Lib.hid (tm_ok (b := b1) HV.out HCS.out)
            have HS3 : Hid (snW s k = tmGo (fC s) (k - 1 - (i + 1)) (tmB b1 v (fC s)) (tmV b1 v (fC s))) := by
              show _ = _
              rw [HS2.out, show k - 1 - i = (k - 1 - (i + 1)) + 1 by omega]; rfl
            clear HS2
            go_wp2_with (first | (go_at_call 96; (with_reducible refine (times_any v.1 v.2 (fC s).1 (fC s).2 b1 g20 _ HV.out.1 HCS.out.1 has1 has_frozen).mono ?_); rintro e80 w80 ⟨he, hb⟩; replace hb : Below _ (World.setCell _ _ (.bool (tmB b1 v (fC s)))) w80 := hb; replace he : e80 = .returned (.agg #[.int .i64 (tmV b1 v (fC s)).1, .int .i64 (tmV b1 v (fC s)).2]) := he; subst he; haveI := belM hb; clear hb))
            exact ⟨⟨i + 1, _, _, by go_num, by omega, inferInstance, inferInstance, kp _ _ _, HV2, HS3⟩, by first | (simp only [intOf]; done) | (simp only [intOf]; omega)⟩
          · have hik' : k = i + 1 := by omega
            have hik1 : ¬ ((i + 1 : Nat) : Int) < (k : Int) := by omega
            obtain ⟨rfl, rfl⟩ : b1 = (snW s k).1 ∧ v = (snW s k).2 := by
              rw [HS2.out, show k - 1 - i = 0 by omega]; exact ⟨rfl, rfl⟩
            clear HS2 HV hik'
            go_upto_region 17 with fail
            go_cut [18] (fun s18 wy => ∃ (A91 : Option Addr) (c91 g18 : Nat), s18 = .pointer (some ⟨g18, 0, none⟩) ∧ Has wy g20 (.cells #[.bool (snB2 s r k)] 76 (0, 0)) ∧ Has wy g18 (.cells #[.slice A91 (snX s r k).len c91] 26 (0, 0)) ∧ Fs wy A91 wq wy (snX s r k) c91 ∧ Kp wq (XE g20) wy ∧ GeB wq g18)
            case first => as_aux_lemma =>
              refine wp_region_held_drew (S := (fun w' => w'.cell? ⟨g12, 0, none⟩ = some (.slice A1 (fE r).len d1) ∧ w'.cell? ⟨g15, 0, none⟩ = some (.slice A2 (fE s).len d2))) (by kernel_rfl) ?hSn4_ (fun hHeld => ?hRn4_)
              case hSn4_ => (exact ⟨has3.1, has3.1⟩)
              refine wpAnyH_take (i := 0) (v := ?vn4_1) rfl (by kernel_rfl) (by kernel_rfl) (by kernel_rfl) (fun _ _ _ h => h) (Or.inl ⟨by rfl, ?hyn4_1⟩) (by assumption) ?hRn4_1
              case hyn4_1 => (intro w hSw; (try dsimp only at hSw); go_simp; (try with_reducible rfl))
              try simp only [Act.put, zp1, zp2, zp3, zp4, zp5, zp6]
              refine wpAnyH_take (i := 1) (v := ?vn4_2) rfl (by kernel_rfl) (by kernel_rfl) (by kernel_rfl) (fun _ _ _ h => h) (Or.inl ⟨by rfl, ?hyn4_2⟩) (by assumption) ?hRn4_2
              case hyn4_2 => (intro w hSw; (try dsimp only at hSw); go_simp; (try with_reducible rfl))
              try simp only [Act.put, zp1, zp2, zp3, zp4, zp5, zp6]
              refine wpAnyH_take (i := 2) (v := ?vn4_3) rfl (by kernel_rfl) (by kernel_rfl) (by kernel_rfl) (fun _ _ _ h => h) (Or.inl ⟨by rfl, ?hyn4_3⟩) (by assumption) ?hRn4_3
              case hyn4_3 => (intro w hSw; (try dsimp only at hSw); go_simp; (try with_reducible rfl))
              try simp only [Act.put, zp1, zp2, zp3, zp4, zp5, zp6]
              refine wpAnyH_take (i := 3) (v := ?vn4_4) rfl (by kernel_rfl) (by kernel_rfl) (by kernel_rfl) (fun _ _ _ h => h) (Or.inl ⟨by rfl, ?hyn4_4⟩) (by assumption) ?hRn4_4
              case hyn4_4 => (intro w hSw; (try dsimp only at hSw); go_simp; (try with_reducible rfl))
              try simp only [Act.put, zp1, zp2, zp3, zp4, zp5, zp6]
              refine wpAnyH_take (i := 4) (v := ?vn4_5) rfl (by kernel_rfl) (by kernel_rfl) (by kernel_rfl) (fun _ _ _ h => h) (Or.inl ⟨by rfl, ?hyn4_5⟩) (by assumption) ?hRn4_5
              case hyn4_5 => (intro w hSw; (try dsimp only at hSw); go_simp; (try with_reducible rfl))
              try simp only [Act.put, zp1, zp2, zp3, zp4, zp5, zp6]
              refine wpAnyH_take (i := 5) (v := ?vn4_6) rfl (by kernel_rfl) (by kernel_rfl) (by kernel_rfl) (fun _ _ _ h => h) (Or.inl ⟨by rfl, ?hyn4_6⟩) (by assumption) ?hRn4_6
              case hyn4_6 => (intro w hSw; (try dsimp only at hSw); go_simp; (try with_reducible rfl))
              try simp only [Act.put, zp1, zp2, zp3, zp4, zp5, zp6]
              refine wpAnyH_take (i := 6) (v := ?vn4_7) rfl (by kernel_rfl) (by kernel_rfl) (by kernel_rfl) (fun _ _ _ h => h) (Or.inl ⟨by rfl, ?hyn4_7⟩) (by assumption) ?hRn4_7
              case hyn4_7 => (intro w hSw; (try dsimp only at hSw); go_simp; (try with_reducible rfl))
              try simp only [Act.put, zp1, zp2, zp3, zp4, zp5, zp6]
              refine wpAnyH_take (i := 7) (v := ?vn4_8) rfl (by kernel_rfl) (by kernel_rfl) (by kernel_rfl) (fun _ _ _ h => h) (Or.inl ⟨by rfl, ?hyn4_8⟩) (by assumption) ?hRn4_8
              case hyn4_8 => (intro w hSw; (try dsimp only at hSw); go_simp; (try with_reducible rfl))
              try simp only [Act.put, zp1, zp2, zp3, zp4, zp5, zp6]
              refine wpAnyH_ready (rs := [8, 11]) (by kernel_rfl) (by simp) ?_
              refine AllReadyH.cons rfl (fun K hK => ?bn4_9) (AllReadyH.cons rfl (fun K hK => ?bn4_10) (AllReadyH.nil))
              case' bn4_9 =>
                go_simp
                ((go_at_call 78; refine (shInt_any _ _).mono ?_; rintro e89 w89 ⟨rfl, hb⟩; haveI : Bel _ w89 := ⟨hb⟩; clear hb))
                go_wp2_with fail
                refine hK.out _ _ ?hSn4_11 (fun hHeld => ?hRn4_11)
                case hSn4_11 => ((try dsimp only); exact ⟨has3.1, has3.1⟩)
                clear hK K
                try simp only [Act.put, zp1, zp2, zp3, zp4, zp5, zp6]
                refine wpAnyH_ready (rs := [9, 11]) (by kernel_rfl) (by simp) ?_
                refine AllReadyH.cons rfl (fun K hK => ?bn4_12) (AllReadyH.cons rfl (fun K hK => ?bn4_13) (AllReadyH.nil))
                case' bn4_12 =>
                  go_simp
                  ((go_at_call 95; (with_reducible refine (kscale_any (fE s) ((k : Int) - 1) 1 (snW s k).1 g20 _ A2 d2 _ (tr _ A2) HGS.out HF2.out has1 has_frozen).mono ?_); rintro e90 w90 ⟨A90, c90, he, hf, hb⟩; replace hb : Below _ (World.setCell _ _ (.bool (snB1 s k))) w90 := hb; replace he : e90 = .returned (.agg #[.slice A90 (snX1 s k).len c90]) := he; replace hf : SFresh _ w90 (snX1 s k) A90 c90 := hf; subst he; haveI := belM hb; haveI := Fs.of hf; clear hf hb))
                  go_wp2_with fail
                  refine hK.out _ _ ?hSn4_14 (fun hHeld => ?hRn4_14)
                  case hSn4_14 => ((try dsimp only); exact ⟨has3.1, has3.1⟩)
                  clear hK K
                  try simp only [Act.put, zp1, zp2, zp3, zp4, zp5, zp6]
                  refine wpAnyH_ready (rs := [10, 11]) (by kernel_rfl) (by simp) ?_
                  refine AllReadyH.cons rfl (fun K hK => ?bn4_15) (AllReadyH.cons rfl (fun K hK => ?bn4_16) (AllReadyH.nil))
                  case' bn4_15 =>
                    go_simp
                    ((go_at_call 97; (with_reducible refine (ksub_any (fE r) (snX1 s k) (snB1 s k) g20 _ _ A1 A90 _ _ _ (tr _ A1) (tr _ A90) HGE.out HGX1.out).mono ?_); rintro e91 w91 ⟨A91, c91, he, hf, hb⟩; replace hb : Below _ (World.setCell _ _ (.bool (snB2 s r k))) w91 := hb; replace he : e91 = .returned (.agg #[.slice A91 (snX s r k).len c91]) := he; replace hf : SFresh _ w91 (snX s r k) A91 c91 := hf; subst he; haveI := belM hb; haveI := Fs.of hf; clear hf hb))
                    go_wp2_with fail
                    refine hK.out _ _ ?hSn4_17 (fun hHeld => ?hRn4_17)
                    case hSn4_17 => ((try dsimp only); exact ⟨has3.1, has3.1⟩)
                    clear hK K
                    try simp only [Act.put, zp1, zp2, zp3, zp4, zp5, zp6]
                    refine wpAnyH_ready (rs := [11]) (by kernel_rfl) (by simp) ?_
                    refine AllReadyH.cons rfl (fun K hK => ?_) AllReadyH.nil
                    go_simp
                    refine hK.out _ _ ?hSn4_18 (fun hHeld => ?hRn4_18)
                    case hSn4_18 => ((try dsimp only); exact ⟨has3.1, has3.1⟩)
                    clear hK K
                    try simp only [Act.put, zp1, zp2, zp3, zp4, zp5, zp6]
                    refine wpAnyH_ready (rs := [12]) (by kernel_rfl) (by simp) ?_
                    refine AllReadyH.cons rfl (fun K hK => ?_) AllReadyH.nil
                    go_simp
                    refine hK.out _ _ ?hSn4_19 (fun hHeld => ?hRn4_19)
                    case hSn4_19 => ((try dsimp only); exact ⟨has3.1, has3.1⟩)
                    clear hK K
                    try simp only [Act.put, zp1, zp2, zp3, zp4, zp5, zp6]
                    refine wpAnyH_done (by kernel_rfl) ?_ _
                  case' bn4_16 =>
                    go_simp
                    refine hK.out _ _ ?hSn4_20 (fun hHeld => ?hRn4_20)
                    case hSn4_20 => ((try dsimp only); exact ⟨has3.1, has3.1⟩)
                    clear hK K
                    try simp only [Act.put, zp1, zp2, zp3, zp4, zp5, zp6]
                    refine wpAnyH_ready (rs := [10]) (by kernel_rfl) (by simp) ?_
                    refine AllReadyH.cons rfl (fun K hK => ?_) AllReadyH.nil
                    go_simp
                    ((go_at_call 97; (with_reducible refine (ksub_any (fE r) (snX1 s k) (snB1 s k) g20 _ _ A1 A90 _ _ _ (tr _ A1) (tr _ A90) HGE.out HGX1.out).mono ?_); rintro e91 w91 ⟨A91, c91, he, hf, hb⟩; replace hb : Below _ (World.setCell _ _ (.bool (snB2 s r k))) w91 := hb; replace he : e91 = .returned (.agg #[.slice A91 (snX s r k).len c91]) := he; replace hf : SFresh _ w91 (snX s r k) A91 c91 := hf; subst he; haveI := belM hb; haveI := Fs.of hf; clear hf hb))
                    go_wp2_with fail
                    refine hK.out _ _ ?hSn4_21 (fun hHeld => ?hRn4_21)
                    case hSn4_21 => ((try dsimp only); exact ⟨has3.1, has3.1⟩)
                    clear hK K
                    try simp only [Act.put, zp1, zp2, zp3, zp4, zp5, zp6]
                    refine wpAnyH_ready (rs := [12]) (by kernel_rfl) (by simp) ?_
                    refine AllReadyH.cons rfl (fun K hK => ?_) AllReadyH.nil
                    go_simp
                    refine hK.out _ _ ?hSn4_22 (fun hHeld => ?hRn4_22)
                    case hSn4_22 => ((try dsimp only); exact ⟨has3.1, has3.1⟩)
                    clear hK K
                    try simp only [Act.put, zp1, zp2, zp3, zp4, zp5, zp6]
                    refine wpAnyH_done (by kernel_rfl) ?_ _
                case' bn4_13 =>
                  go_simp
                  refine hK.out _ _ ?hSn4_23 (fun hHeld => ?hRn4_23)
                  case hSn4_23 => ((try dsimp only); exact ⟨has3.1, has3.1⟩)
                  clear hK K
                  try simp only [Act.put, zp1, zp2, zp3, zp4, zp5, zp6]
                  refine wpAnyH_ready (rs := [9]) (by kernel_rfl) (by simp) ?_
                  refine AllReadyH.cons rfl (fun K hK => ?_) AllReadyH.nil
                  go_simp
                  ((go_at_call 95; (with_reducible refine (kscale_any (fE s) ((k : Int) - 1) 1 (snW s k).1 g20 _ A2 d2 _ (tr _ A2) HGS.out HF2.out has1 has_frozen).mono ?_); rintro e90 w90 ⟨A90, c90, he, hf, hb⟩; replace hb : Below _ (World.setCell _ _ (.bool (snB1 s k))) w90 := hb; replace he : e90 = .returned (.agg #[.slice A90 (snX1 s k).len c90]) := he; replace hf : SFresh _ w90 (snX1 s k) A90 c90 := hf; subst he; haveI := belM hb; haveI := Fs.of hf; clear hf hb))
                  go_wp2_with fail
                  refine hK.out _ _ ?hSn4_24 (fun hHeld => ?hRn4_24)
                  case hSn4_24 => ((try dsimp only); exact ⟨has3.1, has3.1⟩)
                  clear hK K
                  try simp only [Act.put, zp1, zp2, zp3, zp4, zp5, zp6]
                  refine wpAnyH_ready (rs := [10]) (by kernel_rfl) (by simp) ?_
                  refine AllReadyH.cons rfl (fun K hK => ?_) AllReadyH.nil
                  go_simp
                  ((go_at_call 97; (with_reducible refine (ksub_any (fE r) (snX1 s k) (snB1 s k) g20 _ _ A1 A90 _ _ _ (tr _ A1) (tr _ A90) HGE.out HGX1.out).mono ?_); rintro e91 w91 ⟨A91, c91, he, hf, hb⟩; replace hb : Below _ (World.setCell _ _ (.bool (snB2 s r k))) w91 := hb; replace he : e91 = .returned (.agg #[.slice A91 (snX s r k).len c91]) := he; replace hf : SFresh _ w91 (snX s r k) A91 c91 := hf; subst he; haveI := belM hb; haveI := Fs.of hf; clear hf hb))
                  go_wp2_with fail
                  refine hK.out _ _ ?hSn4_25 (fun hHeld => ?hRn4_25)
                  case hSn4_25 => ((try dsimp only); exact ⟨has3.1, has3.1⟩)
                  clear hK K
                  try simp only [Act.put, zp1, zp2, zp3, zp4, zp5, zp6]
                  refine wpAnyH_ready (rs := [12]) (by kernel_rfl) (by simp) ?_
                  refine AllReadyH.cons rfl (fun K hK => ?_) AllReadyH.nil
                  go_simp
                  refine hK.out _ _ ?hSn4_26 (fun hHeld => ?hRn4_26)
                  case hSn4_26 => ((try dsimp only); exact ⟨has3.1, has3.1⟩)
                  clear hK K
                  try simp only [Act.put, zp1, zp2, zp3, zp4, zp5, zp6]
                  refine wpAnyH_done (by kernel_rfl) ?_ _
              case' bn4_10 =>
                go_simp
                refine hK.out _ _ ?hSn4_27 (fun hHeld => ?hRn4_27)
                case hSn4_27 => ((try dsimp only); exact ⟨has3.1, has3.1⟩)
                clear hK K
                try simp only [Act.put, zp1, zp2, zp3, zp4, zp5, zp6]
                refine wpAnyH_ready (rs := [8]) (by kernel_rfl) (by simp) ?_
                refine AllReadyH.cons rfl (fun K hK => ?_) AllReadyH.nil
                go_simp
                ((go_at_call 78; refine (shInt_any _ _).mono ?_; rintro e89 w89 ⟨rfl, hb⟩; haveI : Bel _ w89 := ⟨hb⟩; clear hb))
                go_wp2_with fail
                refine hK.out _ _ ?hSn4_28 (fun hHeld => ?hRn4_28)
                case hSn4_28 => ((try dsimp only); exact ⟨has3.1, has3.1⟩)
                clear hK K
                try simp only [Act.put, zp1, zp2, zp3, zp4, zp5, zp6]
                refine wpAnyH_ready (rs := [9]) (by kernel_rfl) (by simp) ?_
                refine AllReadyH.cons rfl (fun K hK => ?_) AllReadyH.nil
                go_simp
                ((go_at_call 95; (with_reducible refine (kscale_any (fE s) ((k : Int) - 1) 1 (snW s k).1 g20 _ A2 d2 _ (tr _ A2) HGS.out HF2.out has1 has_frozen).mono ?_); rintro e90 w90 ⟨A90, c90, he, hf, hb⟩; replace hb : Below _ (World.setCell _ _ (.bool (snB1 s k))) w90 := hb; replace he : e90 = .returned (.agg #[.slice A90 (snX1 s k).len c90]) := he; replace hf : SFresh _ w90 (snX1 s k) A90 c90 := hf; subst he; haveI := belM hb; haveI := Fs.of hf; clear hf hb))
                go_wp2_with fail
                refine hK.out _ _ ?hSn4_29 (fun hHeld => ?hRn4_29)
                case hSn4_29 => ((try dsimp only); exact ⟨has3.1, has3.1⟩)
                clear hK K
                try simp only [Act.put, zp1, zp2, zp3, zp4, zp5, zp6]
                refine wpAnyH_ready (rs := [10]) (by kernel_rfl) (by simp) ?_
                refine AllReadyH.cons rfl (fun K hK => ?_) AllReadyH.nil
                go_simp
                ((go_at_call 97; (with_reducible refine (ksub_any (fE r) (snX1 s k) (snB1 s k) g20 _ _ A1 A90 _ _ _ (tr _ A1) (tr _ A90) HGE.out HGX1.out).mono ?_); rintro e91 w91 ⟨A91, c91, he, hf, hb⟩; replace hb : Below _ (World.setCell _ _ (.bool (snB2 s r k))) w91 := hb; replace he : e91 = .returned (.agg #[.slice A91 (snX s r k).len c91]) := he; replace hf : SFresh _ w91 (snX s r k) A91 c91 := hf; subst he; haveI := belM hb; haveI := Fs.of hf; clear hf hb))
                go_wp2_with fail
                refine hK.out _ _ ?hSn4_30 (fun hHeld => ?hRn4_30)
                case hSn4_30 => ((try dsimp only); exact ⟨has3.1, has3.1⟩)
                clear hK K
                try simp only [Act.put, zp1, zp2, zp3, zp4, zp5, zp6]
                refine wpAnyH_ready (rs := [12]) (by kernel_rfl) (by simp) ?_
                refine AllReadyH.cons rfl (fun K hK => ?_) AllReadyH.nil
                go_simp
                refine hK.out _ _ ?hSn4_31 (fun hHeld => ?hRn4_31)
                case hSn4_31 => ((try dsimp only); exact ⟨has3.1, has3.1⟩)
                clear hK K
                try simp only [Act.put, zp1, zp2, zp3, zp4, zp5, zp6]
                refine wpAnyH_done (by kernel_rfl) ?_ _
              all_goals
                go_wp2
                go_meet
                exact ⟨A91, c91, _, rfl, inferInstance, inferInstance, Fs.lp, kp _ _ _, inferInstance⟩
            case rest =>
            rename World => wy
            obtain ⟨A91, c91, g18, rfl, _, _, _, _, _⟩ := hcut
            haveI nb5 : ∀ g, [LtB g wq] → NeB g18 g := fun g _ => ⟨by have h1 := (GeB.h (w := wq) (g := g18)); have h2 : g < wq.heap.size := LtB.h; omega⟩
            go_upto_region 18 with fail
            go_cut [] (fun wz => ∃ (Az : Option Addr) (cz : Nat), Has wz g20 (.cells #[.bool b4] 76 (0, 0)) ∧ Has wz g10 (.cells #[.slice Az s'.len cz] 26 (0, 0)) ∧ Fs wz Az wr wz s' cz ∧ Kp wr (XU (XE g20) (XE g10)) wz)
            case first => as_aux_lemma =>
              refine wp_region_held_drew (S := (fun w' => w'.cell? ⟨g18, 0, none⟩ = some (.slice A91 (snX s r k).len c91) ∧ w'.cell? ⟨g12, 1, none⟩ = some (.int .i64 (fC r).1) ∧ w'.cell? ⟨g12, 2, none⟩ = some (.int .i64 (fC r).2) ∧ w'.cell? ⟨g16, 0, none⟩ = some (.int .i64 (snW s k).2.1) ∧ w'.cell? ⟨g16, 1, none⟩ = some (.int .i64 (snW s k).2.2))) (by kernel_rfl) ?hSn5_ (fun hHeld => ?hRn5_)
              case hSn5_ => (exact ⟨has1, has3.2.1, has3.2.2, has2.1, has2.2⟩)
              refine wpAnyH_take (i := 0) (v := ?vn5_1) rfl (by kernel_rfl) (by kernel_rfl) (by kernel_rfl) (fun _ _ _ h => h) (Or.inl ⟨by rfl, ?hyn5_1⟩) (by assumption) ?hRn5_1
              case hyn5_1 => (intro w hSw; (try dsimp only at hSw); go_simp; (try with_reducible rfl))
              try simp only [Act.put, zp1, zp2, zp3, zp4, zp5, zp6]
              refine wpAnyH_take (i := 2) (v := ?vn5_2) rfl (by kernel_rfl) (by kernel_rfl) (by kernel_rfl) (fun _ _ _ h => h) (Or.inl ⟨by rfl, ?hyn5_2⟩) (by assumption) ?hRn5_2
              case hyn5_2 => (intro w hSw; (try dsimp only at hSw); go_simp; (try with_reducible rfl))
              try simp only [Act.put, zp1, zp2, zp3, zp4, zp5, zp6]
              refine wpAnyH_take (i := 3) (v := ?vn5_3) rfl (by kernel_rfl) (by kernel_rfl) (by kernel_rfl) (fun _ _ _ h => h) (Or.inl ⟨by rfl, ?hyn5_3⟩) (by assumption) ?hRn5_3
              case hyn5_3 => (intro w hSw; (try dsimp only at hSw); go_simp; (try with_reducible rfl))
              try simp only [Act.put, zp1, zp2, zp3, zp4, zp5, zp6]
              refine wpAnyH_take (i := 4) (v := ?vn5_4) rfl (by kernel_rfl) (by kernel_rfl) (by kernel_rfl) (fun _ _ _ h => h) (Or.inl ⟨by rfl, ?hyn5_4⟩) (by assumption) ?hRn5_4
              case hyn5_4 => (intro w hSw; (try dsimp only at hSw); go_simp; (try with_reducible rfl))
              try simp only [Act.put, zp1, zp2, zp3, zp4, zp5, zp6]
              refine wpAnyH_take (i := 5) (v := ?vn5_5) rfl (by kernel_rfl) (by kernel_rfl) (by kernel_rfl) (fun _ _ _ h => h) (Or.inl ⟨by rfl, ?hyn5_5⟩) (by assumption) ?hRn5_5
              case hyn5_5 => (intro w hSw; (try dsimp only at hSw); go_simp; (try with_reducible rfl))
              try simp only [Act.put, zp1, zp2, zp3, zp4, zp5, zp6]
              refine wpAnyH_take (i := 6) (v := ?vn5_6) rfl (by kernel_rfl) (by kernel_rfl) (by kernel_rfl) (fun _ _ _ h => h) (Or.inl ⟨by rfl, ?hyn5_6⟩) (by assumption) ?hRn5_6
              case hyn5_6 => (intro w hSw; (try dsimp only at hSw); go_simp; (try with_reducible rfl))
              try simp only [Act.put, zp1, zp2, zp3, zp4, zp5, zp6]
              refine wpAnyH_take (i := 7) (v := ?vn5_7) rfl (by kernel_rfl) (by kernel_rfl) (by kernel_rfl) (fun _ _ _ h => h) (Or.inl ⟨by rfl, ?hyn5_7⟩) (by assumption) ?hRn5_7
              case hyn5_7 => (intro w hSw; (try dsimp only at hSw); go_simp; (try with_reducible rfl))
              try simp only [Act.put, zp1, zp2, zp3, zp4, zp5, zp6]
              refine wpAnyH_ready (rs := [1, 8]) (by kernel_rfl) (by simp) ?_
              refine AllReadyH.cons rfl (fun K hK => ?bn5_8) (AllReadyH.cons rfl (fun K hK => ?bn5_9) (AllReadyH.nil))
              case' bn5_8 =>
                go_simp
                refine hK.out _ _ ?hSn5_10 (fun hHeld => ?hRn5_10)
                case hSn5_10 => ((try dsimp only); exact ⟨has1, has3.2.1, has3.2.2, has2.1, has2.2⟩)
                clear hK K
                try simp only [Act.put, zp1, zp2, zp3, zp4, zp5, zp6]
                refine wpAnyH_ready (rs := [8]) (by kernel_rfl) (by simp) ?_
                refine AllReadyH.cons rfl (fun K hK => ?_) AllReadyH.nil
                go_simp
                ((go_at_call 98; (with_reducible refine (over_any (fC r).1 (fC r).2 (snW s k).2.1 (snW s k).2.2 (snB2 s r k) g20 _ HCO.out.1 HW.out.1 HW.out.2 has1 has_frozen).mono ?_); rintro e100 w100 ⟨he, hb⟩; replace hb : Below _ (World.setCell _ _ (.bool (snB3 s r k))) w100 := hb; replace he : e100 = .returned (.agg #[.int .i64 (frN (snB3 s r k) (snN s r k)), .int .i64 (frN (snB3 s r k) (snD s r k))]) := he; subst he; haveI := belM hb; clear hb))
                go_wp2_with fail
                refine hK.out _ _ ?hSn5_11 (fun hHeld => ?hRn5_11)
                case hSn5_11 => ((try dsimp only); exact ⟨has1, has3.2.1, has3.2.2, has2.1, has2.2⟩)
                clear hK K
                try simp only [Act.put, zp1, zp2, zp3, zp4, zp5, zp6]
                refine wpAnyH_ready (rs := [9]) (by kernel_rfl) (by simp) ?_
                refine AllReadyH.cons rfl (fun K hK => ?_) AllReadyH.nil
                go_simp
                ((go_at_call 94; (with_reducible refine (kterm_any (snX s r k) (frN (snB3 s r k) (snN s r k)) (frN (snB3 s r k) (snD s r k)) (snB3 s r k) g20 _ A91 c91 _ (tr _ A91) HIC.out.1 HIC.out.2).mono ?_); rintro e101 w101 ⟨A101, c101, he, hf, hb⟩; replace hb : Below _ (World.setCell _ _ (.bool (snB4 s r k))) w101 := hb; replace he : e101 = .returned (.agg #[.slice A101 (snT s r k).len c101]) := he; replace hf : SFresh _ w101 (snT s r k) A101 c101 := hf; subst he; haveI := belM hb; haveI := Fs.of hf; clear hf hb))
                go_wp2_with fail
                refine hK.out _ _ ?hSn5_12 (fun hHeld => ?hRn5_12)
                case hSn5_12 => ((try dsimp only); exact ⟨has1, has3.2.1, has3.2.2, has2.1, has2.2⟩)
                clear hK K
                try simp only [Act.put, zp1, zp2, zp3, zp4, zp5, zp6]
                refine wpAnyH_ready (rs := [10]) (by kernel_rfl) (by simp) ?_
                refine AllReadyH.cons rfl (fun K hK => ?_) AllReadyH.nil
                go_simp
                ((go_at_call 58; (with_reducible refine (kadd_any s (snT s r k) (snB4 s r k) g20 _ _ (some ⟨b', o', none⟩) A101 _ _ _ (tr _ (some ⟨b', o', none⟩)) (tr _ A101) HSG.out HGT.out has1 has_frozen).mono ?_); rintro e102 w102 ⟨A102, c102, he, hf, hb⟩; replace hb : Below _ (World.setCell _ _ (.bool (snB5 s r k))) w102 := hb; replace he : e102 = .returned (.agg #[.slice A102 (snQ s r k).len c102]) := he; replace hf : SFresh _ w102 (snQ s r k) A102 c102 := hf; subst he; haveI := belM hb; haveI := Fs.of hf; clear hf hb))
                go_wp2_with fail
                refine hK.out _ _ ?hSn5_13 (fun hHeld => ?hRn5_13)
                case hSn5_13 => ((try dsimp only); exact ⟨has1, has3.2.1, has3.2.2, has2.1, has2.2⟩)
                clear hK K
                try simp only [Act.put, zp1, zp2, zp3, zp4, zp5, zp6]
                refine wpAnyH_ready (rs := [11]) (by kernel_rfl) (by simp) ?_
                refine AllReadyH.cons rfl (fun K hK => ?_) AllReadyH.nil
                go_simp
                refine hK.out _ _ ?hSn5_14 (fun hHeld => ?hRn5_14)
                case hSn5_14 => ((try dsimp only); exact ⟨has1, has3.2.1, has3.2.2, has2.1, has2.2⟩)
                clear hK K
                try simp only [Act.put, zp1, zp2, zp3, zp4, zp5, zp6]
                refine wpAnyH_done (by kernel_rfl) ?_ _
              case' bn5_9 =>
                go_simp
                ((go_at_call 98; (with_reducible refine (over_any (fC r).1 (fC r).2 (snW s k).2.1 (snW s k).2.2 (snB2 s r k) g20 _ HCO.out.1 HW.out.1 HW.out.2 has1 has_frozen).mono ?_); rintro e100 w100 ⟨he, hb⟩; replace hb : Below _ (World.setCell _ _ (.bool (snB3 s r k))) w100 := hb; replace he : e100 = .returned (.agg #[.int .i64 (frN (snB3 s r k) (snN s r k)), .int .i64 (frN (snB3 s r k) (snD s r k))]) := he; subst he; haveI := belM hb; clear hb))
                go_wp2_with fail
                refine hK.out _ _ ?hSn5_15 (fun hHeld => ?hRn5_15)
                case hSn5_15 => ((try dsimp only); exact ⟨has1, has3.2.1, has3.2.2, has2.1, has2.2⟩)
                clear hK K
                try simp only [Act.put, zp1, zp2, zp3, zp4, zp5, zp6]
                refine wpAnyH_ready (rs := [1, 9]) (by kernel_rfl) (by simp) ?_
                refine AllReadyH.cons rfl (fun K hK => ?bn5_16) (AllReadyH.cons rfl (fun K hK => ?bn5_17) (AllReadyH.nil))
                case' bn5_16 =>
                  go_simp
                  refine hK.out _ _ ?hSn5_18 (fun hHeld => ?hRn5_18)
                  case hSn5_18 => ((try dsimp only); exact ⟨has1, has3.2.1, has3.2.2, has2.1, has2.2⟩)
                  clear hK K
                  try simp only [Act.put, zp1, zp2, zp3, zp4, zp5, zp6]
                  refine wpAnyH_ready (rs := [9]) (by kernel_rfl) (by simp) ?_
                  refine AllReadyH.cons rfl (fun K hK => ?_) AllReadyH.nil
                  go_simp
                  ((go_at_call 94; (with_reducible refine (kterm_any (snX s r k) (frN (snB3 s r k) (snN s r k)) (frN (snB3 s r k) (snD s r k)) (snB3 s r k) g20 _ A91 c91 _ (tr _ A91) HIC.out.1 HIC.out.2).mono ?_); rintro e101 w101 ⟨A101, c101, he, hf, hb⟩; replace hb : Below _ (World.setCell _ _ (.bool (snB4 s r k))) w101 := hb; replace he : e101 = .returned (.agg #[.slice A101 (snT s r k).len c101]) := he; replace hf : SFresh _ w101 (snT s r k) A101 c101 := hf; subst he; haveI := belM hb; haveI := Fs.of hf; clear hf hb))
                  go_wp2_with fail
                  refine hK.out _ _ ?hSn5_19 (fun hHeld => ?hRn5_19)
                  case hSn5_19 => ((try dsimp only); exact ⟨has1, has3.2.1, has3.2.2, has2.1, has2.2⟩)
                  clear hK K
                  try simp only [Act.put, zp1, zp2, zp3, zp4, zp5, zp6]
                  refine wpAnyH_ready (rs := [10]) (by kernel_rfl) (by simp) ?_
                  refine AllReadyH.cons rfl (fun K hK => ?_) AllReadyH.nil
                  go_simp
                  ((go_at_call 58; (with_reducible refine (kadd_any s (snT s r k) (snB4 s r k) g20 _ _ (some ⟨b', o', none⟩) A101 _ _ _ (tr _ (some ⟨b', o', none⟩)) (tr _ A101) HSG.out HGT.out has1 has_frozen).mono ?_); rintro e102 w102 ⟨A102, c102, he, hf, hb⟩; replace hb : Below _ (World.setCell _ _ (.bool (snB5 s r k))) w102 := hb; replace he : e102 = .returned (.agg #[.slice A102 (snQ s r k).len c102]) := he; replace hf : SFresh _ w102 (snQ s r k) A102 c102 := hf; subst he; haveI := belM hb; haveI := Fs.of hf; clear hf hb))
                  go_wp2_with fail
                  refine hK.out _ _ ?hSn5_20 (fun hHeld => ?hRn5_20)
                  case hSn5_20 => ((try dsimp only); exact ⟨has1, has3.2.1, has3.2.2, has2.1, has2.2⟩)
                  clear hK K
                  try simp only [Act.put, zp1, zp2, zp3, zp4, zp5, zp6]
                  refine wpAnyH_ready (rs := [11]) (by kernel_rfl) (by simp) ?_
                  refine AllReadyH.cons rfl (fun K hK => ?_) AllReadyH.nil
                  go_simp
                  refine hK.out _ _ ?hSn5_21 (fun hHeld => ?hRn5_21)
                  case hSn5_21 => ((try dsimp only); exact ⟨has1, has3.2.1, has3.2.2, has2.1, has2.2⟩)
                  clear hK K
                  try simp only [Act.put, zp1, zp2, zp3, zp4, zp5, zp6]
                  refine wpAnyH_done (by kernel_rfl) ?_ _
                case' bn5_17 =>
                  go_simp
                  ((go_at_call 94; (with_reducible refine (kterm_any (snX s r k) (frN (snB3 s r k) (snN s r k)) (frN (snB3 s r k) (snD s r k)) (snB3 s r k) g20 _ A91 c91 _ (tr _ A91) HIC.out.1 HIC.out.2).mono ?_); rintro e101 w101 ⟨A101, c101, he, hf, hb⟩; replace hb : Below _ (World.setCell _ _ (.bool (snB4 s r k))) w101 := hb; replace he : e101 = .returned (.agg #[.slice A101 (snT s r k).len c101]) := he; replace hf : SFresh _ w101 (snT s r k) A101 c101 := hf; subst he; haveI := belM hb; haveI := Fs.of hf; clear hf hb))
                  go_wp2_with fail
                  refine hK.out _ _ ?hSn5_22 (fun hHeld => ?hRn5_22)
                  case hSn5_22 => ((try dsimp only); exact ⟨has1, has3.2.1, has3.2.2, has2.1, has2.2⟩)
                  clear hK K
                  try simp only [Act.put, zp1, zp2, zp3, zp4, zp5, zp6]
                  refine wpAnyH_ready (rs := [1]) (by kernel_rfl) (by simp) ?_
                  refine AllReadyH.cons rfl (fun K hK => ?_) AllReadyH.nil
                  go_simp
                  refine hK.out _ _ ?hSn5_23 (fun hHeld => ?hRn5_23)
                  case hSn5_23 => ((try dsimp only); exact ⟨has1, has3.2.1, has3.2.2, has2.1, has2.2⟩)
                  clear hK K
                  try simp only [Act.put, zp1, zp2, zp3, zp4, zp5, zp6]
                  refine wpAnyH_ready (rs := [10]) (by kernel_rfl) (by simp) ?_
                  refine AllReadyH.cons rfl (fun K hK => ?_) AllReadyH.nil
                  go_simp
                  ((go_at_call 58; (with_reducible refine (kadd_any s (snT s r k) (snB4 s r k) g20 _ _ (some ⟨b', o', none⟩) A101 _ _ _ (tr _ (some ⟨b', o', none⟩)) (tr _ A101) HSG.out HGT.out has1 has_frozen).mono ?_); rintro e102 w102 ⟨A102, c102, he, hf, hb⟩; replace hb : Below _ (World.setCell _ _ (.bool (snB5 s r k))) w102 := hb; replace he : e102 = .returned (.agg #[.slice A102 (snQ s r k).len c102]) := he; replace hf : SFresh _ w102 (snQ s r k) A102 c102 := hf; subst he; haveI := belM hb; haveI := Fs.of hf; clear hf hb))
                  go_wp2_with fail
                  refine hK.out _ _ ?hSn5_24 (fun hHeld => ?hRn5_24)
                  case hSn5_24 => ((try dsimp only); exact ⟨has1, has3.2.1, has3.2.2, has2.1, has2.2⟩)
                  clear hK K
                  try simp only [Act.put, zp1, zp2, zp3, zp4, zp5, zp6]
                  refine wpAnyH_ready (rs := [11]) (by kernel_rfl) (by simp) ?_
                  refine AllReadyH.cons rfl (fun K hK => ?_) AllReadyH.nil
                  go_simp
                  refine hK.out _ _ ?hSn5_25 (fun hHeld => ?hRn5_25)
                  case hSn5_25 => ((try dsimp only); exact ⟨has1, has3.2.1, has3.2.2, has2.1, has2.2⟩)
                  clear hK K
                  try simp only [Act.put, zp1, zp2, zp3, zp4, zp5, zp6]
                  refine wpAnyH_done (by kernel_rfl) ?_ _
              all_goals
                go_wp2
                go_meet
                rw [← HT1.out, ← HB1.out]
                exact ⟨A102, c102, inferInstance, inferInstance, Fs.lp, kp _ _ _⟩
            case rest =>
            rename World => wz
            obtain ⟨Az, cz, _, _, _, _⟩ := hcut
            go_upto_region 19 with fail
            refine wp_region_held_drew (S := (fun w' => w'.cell? ⟨g3, 0, none⟩ = some (.slice A x.len c) ∧ w'.cell? ⟨g10, 0, none⟩ = some (.slice Az s'.len cz))) (by kernel_rfl) ?hSn6_ (fun hHeld => ?hRn6_)
            case hSn6_ => (exact ⟨has1, has1⟩)
            refine wpAnyH_take (i := 0) (v := ?vn6_1) rfl (by kernel_rfl) (by kernel_rfl) (by kernel_rfl) (fun _ _ _ h => h) (Or.inl ⟨by rfl, ?hyn6_1⟩) (by assumption) ?hRn6_1
            case hyn6_1 => (intro w hSw; (try dsimp only at hSw); go_simp; (try with_reducible rfl))
            try simp only [Act.put, zp1, zp2, zp3, zp4, zp5, zp6]
            refine wpAnyH_take (i := 1) (v := ?vn6_2) rfl (by kernel_rfl) (by kernel_rfl) (by kernel_rfl) (fun _ _ _ h => h) (Or.inl ⟨by rfl, ?hyn6_2⟩) (by assumption) ?hRn6_2
            case hyn6_2 => (intro w hSw; (try dsimp only at hSw); go_simp; (try with_reducible rfl))
            try simp only [Act.put, zp1, zp2, zp3, zp4, zp5, zp6]
            refine wpAnyH_take (i := 2) (v := ?vn6_3) rfl (by kernel_rfl) (by kernel_rfl) (by kernel_rfl) (fun _ _ _ h => h) (Or.inl ⟨by rfl, ?hyn6_3⟩) (by assumption) ?hRn6_3
            case hyn6_3 => (intro w hSw; (try dsimp only at hSw); go_simp; (try with_reducible rfl))
            try simp only [Act.put, zp1, zp2, zp3, zp4, zp5, zp6]
            refine wpAnyH_take (i := 3) (v := ?vn6_4) rfl (by kernel_rfl) (by kernel_rfl) (by kernel_rfl) (fun _ _ _ h => h) (Or.inl ⟨by rfl, ?hyn6_4⟩) (by assumption) ?hRn6_4
            case hyn6_4 => (intro w hSw; (try dsimp only at hSw); go_simp; (try with_reducible rfl))
            try simp only [Act.put, zp1, zp2, zp3, zp4, zp5, zp6]
            refine wpAnyH_take (i := 4) (v := ?vn6_5) rfl (by kernel_rfl) (by kernel_rfl) (by kernel_rfl) (fun _ _ _ h => h) (Or.inl ⟨by rfl, ?hyn6_5⟩) (by assumption) ?hRn6_5
            case hyn6_5 => (intro w hSw; (try dsimp only at hSw); go_simp; (try with_reducible rfl))
            try simp only [Act.put, zp1, zp2, zp3, zp4, zp5, zp6]
            refine wpAnyH_ready (rs := [5]) (by kernel_rfl) (by simp) ?_
            refine AllReadyH.cons rfl (fun K hK => ?_) AllReadyH.nil
            go_simp
            ((go_at_call 54; (with_reducible refine (kpower_any s' k b4 g20 (XE g20) Az cz _ (trx (XE g20) _ Az) HS1.out (by omega)).mono ?_); rintro e108 w108 ⟨A108, c108, he, hs, hb⟩; rw [HP.out] at he hs hb; subst he; haveI := belM hb; haveI := Tr.arg hs; clear hs hb))
            go_wp2_with fail
            refine hK.out _ _ ?hSn6_6 (fun hHeld => ?hRn6_6)
            case hSn6_6 => ((try dsimp only); exact ⟨has1, has1⟩)
            clear hK K
            try simp only [Act.put, zp1, zp2, zp3, zp4, zp5, zp6]
            refine wpAnyH_ready (rs := [6]) (by kernel_rfl) (by simp) ?_
            refine AllReadyH.cons rfl (fun K hK => ?_) AllReadyH.nil
            go_simp
            ((go_at_call 97; (with_reducible refine (ksub_any x pp pb g20 (XE g20) (XE g20) A A108 _ _ _ (trx (XE g20) _ A) (trx (XE g20) _ A108) GX.out HPG.out).mono ?_); rintro e109 w109 ⟨A109, c109, he, hf, hb⟩; rw [HR.out] at he hf hb; subst he; haveI := belM hb; haveI := Fs.of hf; clear hf hb))
            go_wp2_with fail
            refine hK.out _ _ ?hSn6_7 (fun hHeld => ?hRn6_7)
            case hSn6_7 => ((try dsimp only); exact ⟨has1, has1⟩)
            clear hK K
            try simp only [Act.put, zp1, zp2, zp3, zp4, zp5, zp6]
            refine wpAnyH_ready (rs := [7]) (by kernel_rfl) (by simp) ?_
            refine AllReadyH.cons rfl (fun K hK => ?_) AllReadyH.nil
            go_simp
            refine hK.out _ _ ?hSn6_8 (fun hHeld => ?hRn6_8)
            case hSn6_8 => ((try dsimp only); exact ⟨has1, has1⟩)
            clear hK K
            try simp only [Act.put, zp1, zp2, zp3, zp4, zp5, zp6]
            refine wpAnyH_done (by kernel_rfl) ?_ _
            all_goals
              go_wp2
              exact ⟨⟨m', _, Az, cz, _, A109, c109, _, by go_num, by omega, inferInstance, inferInstance, inferInstance, Fs.lp, Tr.lp (XU X (XU (XE g6) (XU (XE g7) (XU (XE g20) (XU (XE g10) (XE g11)))))), kp _ _ _, HS1, GR1, HN3⟩, by simp only [intOf]; omega⟩
    · have HE : Hid (srGo x k N false .nil x = some (bad, s, r)) := by
        show _ = _
        rw [HS.out]
        by_cases hm0 : 0 < m
        · exact srGo_stop m fun h => hgo ⟨hm0, h.2, h.1⟩
        · rw [show m = 0 by omega]; rfl
      clear HS
      have HR1 : Hid (srR x k N = (bad, s, r)) := by
        show _ = _
        unfold srR
        rw [HE.out]
        rfl
      by_cases hkN : (0 : Int) < (m : Int)
      · cases bad
        · have hr0 : r.len = 0 := Classical.byContradiction fun h => hgo ⟨by omega, rfl, h⟩
          have hr1 : ((r.len : Int) == 0) = true := by simpa using hr0
          clear hgo hr0
          go_upto_region 20 with (first | (go_at_call 59; (with_reducible refine (suZero_any r Ar cr _).mono ?_); rintro e27 w27 ⟨rfl, hb⟩; haveI : Bel _ w27 := ⟨hb⟩; clear hb))
          refine wp_region_held_drew (S := (fun w' => w'.cell? ⟨g10, 0, none⟩ = some (.slice As s.len cs) ∧ w'.cell? ⟨g11, 0, none⟩ = some (.slice Ar r.len cr) ∧ w'.cell? ⟨g20, 0, none⟩ = some (.bool false))) (by kernel_rfl) ?hSn7_ (fun hHeld => ?hRn7_)
          case hSn7_ => (exact ⟨has1, has1, has1⟩)
          refine wpAnyH_take (i := 0) (v := ?vn7_1) rfl (by kernel_rfl) (by kernel_rfl) (by kernel_rfl) (fun _ _ _ h => h) (Or.inl ⟨by rfl, ?hyn7_1⟩) (by assumption) ?hRn7_1
          case hyn7_1 => (intro w hSw; (try dsimp only at hSw); go_simp; (try with_reducible rfl))
          try simp only [Act.put, zp1, zp2, zp3, zp4, zp5, zp6]
          refine wpAnyH_take (i := 1) (v := ?vn7_2) rfl (by kernel_rfl) (by kernel_rfl) (by kernel_rfl) (fun _ _ _ h => h) (Or.inl ⟨by rfl, ?hyn7_2⟩) (by assumption) ?hRn7_2
          case hyn7_2 => (intro w hSw; (try dsimp only at hSw); go_simp; (try with_reducible rfl))
          try simp only [Act.put, zp1, zp2, zp3, zp4, zp5, zp6]
          refine wpAnyH_take (i := 2) (v := ?vn7_3) rfl (by kernel_rfl) (by kernel_rfl) (by kernel_rfl) (fun _ _ _ h => h) (Or.inl ⟨by rfl, ?hyn7_3⟩) (by assumption) ?hRn7_3
          case hyn7_3 => (intro w hSw; (try dsimp only at hSw); go_simp; (try with_reducible rfl))
          try simp only [Act.put, zp1, zp2, zp3, zp4, zp5, zp6]
          refine wpAnyH_take (i := 3) (v := ?vn7_4) rfl (by kernel_rfl) (by kernel_rfl) (by kernel_rfl) (fun _ _ _ h => h) (Or.inl ⟨by rfl, ?hyn7_4⟩) (by assumption) ?hRn7_4
          case hyn7_4 => (intro w hSw; (try dsimp only at hSw); go_simp; (try with_reducible rfl))
          try simp only [Act.put, zp1, zp2, zp3, zp4, zp5, zp6]
          refine wpAnyH_take (i := 4) (v := ?vn7_5) rfl (by kernel_rfl) (by kernel_rfl) (by kernel_rfl) (fun _ _ _ h => h) (Or.inl ⟨by rfl, ?hyn7_5⟩) (by assumption) ?hRn7_5
          case hyn7_5 => (intro w hSw; (try dsimp only at hSw); go_simp; (try with_reducible rfl))
          try simp only [Act.put, zp1, zp2, zp3, zp4, zp5, zp6]
          refine wpAnyH_take (i := 5) (v := ?vn7_6) rfl (by kernel_rfl) (by kernel_rfl) (by kernel_rfl) (fun _ _ _ h => h) (Or.inl ⟨by rfl, ?hyn7_6⟩) (by assumption) ?hRn7_6
          case hyn7_6 => (intro w hSw; (try dsimp only at hSw); go_simp; (try with_reducible rfl))
          try simp only [Act.put, zp1, zp2, zp3, zp4, zp5, zp6]
          refine wpAnyH_take (i := 6) (v := ?vn7_7) rfl (by kernel_rfl) (by kernel_rfl) (by kernel_rfl) (fun _ _ _ h => h) (Or.inl ⟨by rfl, ?hyn7_7⟩) (by assumption) ?hRn7_7
          case hyn7_7 => (intro w hSw; (try dsimp only at hSw); go_simp; (try with_reducible rfl))
          try simp only [Act.put, zp1, zp2, zp3, zp4, zp5, zp6]
          refine wpAnyH_ready (rs := [7]) (by kernel_rfl) (by simp) ?_
          refine AllReadyH.cons rfl (fun K hK => ?_) AllReadyH.nil
          go_simp
          refine hK.out _ _ ?hSn7_8 (fun hHeld => ?hRn7_8)
          case hSn7_8 => ((try dsimp only); exact ⟨has1, has1, has1⟩)
          clear hK K
          try simp only [Act.put, zp1, zp2, zp3, zp4, zp5, zp6]
          refine wpAnyH_ready (rs := [8]) (by kernel_rfl) (by simp) ?_
          refine AllReadyH.cons rfl (fun K hK => ?_) AllReadyH.nil
          go_simp
          refine hK.out _ _ ?hSn7_9 (fun hHeld => ?hRn7_9)
          case hSn7_9 => ((try dsimp only); exact ⟨has1, has1, has1⟩)
          clear hK K
          try simp only [Act.put, zp1, zp2, zp3, zp4, zp5, zp6]
          refine wpAnyH_take (i := 9) (v := ?vn7_10) rfl (by kernel_rfl) (by kernel_rfl) (by kernel_rfl) (fun _ _ _ h => h) (Or.inl ⟨by rfl, ?hyn7_10⟩) (by assumption) ?hRn7_10
          case hyn7_10 => (intro w hSw; (try dsimp only at hSw); go_simp; (try with_reducible rfl))
          try simp only [Act.put, zp1, zp2, zp3, zp4, zp5, zp6]
          refine wpAnyH_done (by kernel_rfl) ?_ _
          all_goals
            go_wp2
            (refine bodyPost_ret (v := .tuple #[.agg #[.slice As s.len cs], .agg #[.slice Ar r.len cr], .bool (!false)]) (by simp [results, Tryz.results43, go_sem]) rfl ?_; rw [HR1.out]; exact ⟨As, cs, Ar, cr, rfl, trx (XL w) _ As, trx X _ Ar, GS.out, GR.out, ext w _⟩)
        · by_cases hr0 : r.len = 0
          · have hr1 : ((r.len : Int) == 0) = true := by simpa using hr0
            clear hgo hr0
            go_upto_region 20 with (first | (go_at_call 59; (with_reducible refine (suZero_any r Ar cr _).mono ?_); rintro e27 w27 ⟨rfl, hb⟩; haveI : Bel _ w27 := ⟨hb⟩; clear hb))
            refine wp_region_held_drew (S := (fun w' => w'.cell? ⟨g10, 0, none⟩ = some (.slice As s.len cs) ∧ w'.cell? ⟨g11, 0, none⟩ = some (.slice Ar r.len cr) ∧ w'.cell? ⟨g20, 0, none⟩ = some (.bool true))) (by kernel_rfl) ?hSn8_ (fun hHeld => ?hRn8_)
            case hSn8_ => (exact ⟨has1, has1, has1⟩)
            refine wpAnyH_take (i := 0) (v := ?vn8_1) rfl (by kernel_rfl) (by kernel_rfl) (by kernel_rfl) (fun _ _ _ h => h) (Or.inl ⟨by rfl, ?hyn8_1⟩) (by assumption) ?hRn8_1
            case hyn8_1 => (intro w hSw; (try dsimp only at hSw); go_simp; (try with_reducible rfl))
            try simp only [Act.put, zp1, zp2, zp3, zp4, zp5, zp6]
            refine wpAnyH_take (i := 1) (v := ?vn8_2) rfl (by kernel_rfl) (by kernel_rfl) (by kernel_rfl) (fun _ _ _ h => h) (Or.inl ⟨by rfl, ?hyn8_2⟩) (by assumption) ?hRn8_2
            case hyn8_2 => (intro w hSw; (try dsimp only at hSw); go_simp; (try with_reducible rfl))
            try simp only [Act.put, zp1, zp2, zp3, zp4, zp5, zp6]
            refine wpAnyH_take (i := 2) (v := ?vn8_3) rfl (by kernel_rfl) (by kernel_rfl) (by kernel_rfl) (fun _ _ _ h => h) (Or.inl ⟨by rfl, ?hyn8_3⟩) (by assumption) ?hRn8_3
            case hyn8_3 => (intro w hSw; (try dsimp only at hSw); go_simp; (try with_reducible rfl))
            try simp only [Act.put, zp1, zp2, zp3, zp4, zp5, zp6]
            refine wpAnyH_take (i := 3) (v := ?vn8_4) rfl (by kernel_rfl) (by kernel_rfl) (by kernel_rfl) (fun _ _ _ h => h) (Or.inl ⟨by rfl, ?hyn8_4⟩) (by assumption) ?hRn8_4
            case hyn8_4 => (intro w hSw; (try dsimp only at hSw); go_simp; (try with_reducible rfl))
            try simp only [Act.put, zp1, zp2, zp3, zp4, zp5, zp6]
            refine wpAnyH_take (i := 4) (v := ?vn8_5) rfl (by kernel_rfl) (by kernel_rfl) (by kernel_rfl) (fun _ _ _ h => h) (Or.inl ⟨by rfl, ?hyn8_5⟩) (by assumption) ?hRn8_5
            case hyn8_5 => (intro w hSw; (try dsimp only at hSw); go_simp; (try with_reducible rfl))
            try simp only [Act.put, zp1, zp2, zp3, zp4, zp5, zp6]
            refine wpAnyH_take (i := 5) (v := ?vn8_6) rfl (by kernel_rfl) (by kernel_rfl) (by kernel_rfl) (fun _ _ _ h => h) (Or.inl ⟨by rfl, ?hyn8_6⟩) (by assumption) ?hRn8_6
            case hyn8_6 => (intro w hSw; (try dsimp only at hSw); go_simp; (try with_reducible rfl))
            try simp only [Act.put, zp1, zp2, zp3, zp4, zp5, zp6]
            refine wpAnyH_take (i := 6) (v := ?vn8_7) rfl (by kernel_rfl) (by kernel_rfl) (by kernel_rfl) (fun _ _ _ h => h) (Or.inl ⟨by rfl, ?hyn8_7⟩) (by assumption) ?hRn8_7
            case hyn8_7 => (intro w hSw; (try dsimp only at hSw); go_simp; (try with_reducible rfl))
            try simp only [Act.put, zp1, zp2, zp3, zp4, zp5, zp6]
            refine wpAnyH_ready (rs := [7]) (by kernel_rfl) (by simp) ?_
            refine AllReadyH.cons rfl (fun K hK => ?_) AllReadyH.nil
            go_simp
            refine hK.out _ _ ?hSn8_8 (fun hHeld => ?hRn8_8)
            case hSn8_8 => ((try dsimp only); exact ⟨has1, has1, has1⟩)
            clear hK K
            try simp only [Act.put, zp1, zp2, zp3, zp4, zp5, zp6]
            refine wpAnyH_ready (rs := [8]) (by kernel_rfl) (by simp) ?_
            refine AllReadyH.cons rfl (fun K hK => ?_) AllReadyH.nil
            go_simp
            refine hK.out _ _ ?hSn8_9 (fun hHeld => ?hRn8_9)
            case hSn8_9 => ((try dsimp only); exact ⟨has1, has1, has1⟩)
            clear hK K
            try simp only [Act.put, zp1, zp2, zp3, zp4, zp5, zp6]
            refine wpAnyH_take (i := 9) (v := ?vn8_10) rfl (by kernel_rfl) (by kernel_rfl) (by kernel_rfl) (fun _ _ _ h => h) (Or.inl ⟨by rfl, ?hyn8_10⟩) (by assumption) ?hRn8_10
            case hyn8_10 => (intro w hSw; (try dsimp only at hSw); go_simp; (try with_reducible rfl))
            try simp only [Act.put, zp1, zp2, zp3, zp4, zp5, zp6]
            refine wpAnyH_done (by kernel_rfl) ?_ _
            all_goals
              go_wp2
              (refine bodyPost_ret (v := .tuple #[.agg #[.slice As s.len cs], .agg #[.slice Ar r.len cr], .bool (!true)]) (by simp [results, Tryz.results43, go_sem]) rfl ?_; rw [HR1.out]; exact ⟨As, cs, Ar, cr, rfl, trx (XL w) _ As, trx X _ Ar, GS.out, GR.out, ext w _⟩)
          · have hr1 : ((r.len : Int) == 0) = false := by simp; omega
            clear hgo hr0
            go_upto_region 20 with (first | (go_at_call 59; (with_reducible refine (suZero_any r Ar cr _).mono ?_); rintro e27 w27 ⟨rfl, hb⟩; haveI : Bel _ w27 := ⟨hb⟩; clear hb))
            refine wp_region_held_drew (S := (fun w' => w'.cell? ⟨g10, 0, none⟩ = some (.slice As s.len cs) ∧ w'.cell? ⟨g11, 0, none⟩ = some (.slice Ar r.len cr) ∧ w'.cell? ⟨g20, 0, none⟩ = some (.bool true))) (by kernel_rfl) ?hSn9_ (fun hHeld => ?hRn9_)
            case hSn9_ => (exact ⟨has1, has1, has1⟩)
            refine wpAnyH_take (i := 0) (v := ?vn9_1) rfl (by kernel_rfl) (by kernel_rfl) (by kernel_rfl) (fun _ _ _ h => h) (Or.inl ⟨by rfl, ?hyn9_1⟩) (by assumption) ?hRn9_1
            case hyn9_1 => (intro w hSw; (try dsimp only at hSw); go_simp; (try with_reducible rfl))
            try simp only [Act.put, zp1, zp2, zp3, zp4, zp5, zp6]
            refine wpAnyH_take (i := 1) (v := ?vn9_2) rfl (by kernel_rfl) (by kernel_rfl) (by kernel_rfl) (fun _ _ _ h => h) (Or.inl ⟨by rfl, ?hyn9_2⟩) (by assumption) ?hRn9_2
            case hyn9_2 => (intro w hSw; (try dsimp only at hSw); go_simp; (try with_reducible rfl))
            try simp only [Act.put, zp1, zp2, zp3, zp4, zp5, zp6]
            refine wpAnyH_take (i := 2) (v := ?vn9_3) rfl (by kernel_rfl) (by kernel_rfl) (by kernel_rfl) (fun _ _ _ h => h) (Or.inl ⟨by rfl, ?hyn9_3⟩) (by assumption) ?hRn9_3
            case hyn9_3 => (intro w hSw; (try dsimp only at hSw); go_simp; (try with_reducible rfl))
            try simp only [Act.put, zp1, zp2, zp3, zp4, zp5, zp6]
            refine wpAnyH_take (i := 3) (v := ?vn9_4) rfl (by kernel_rfl) (by kernel_rfl) (by kernel_rfl) (fun _ _ _ h => h) (Or.inl ⟨by rfl, ?hyn9_4⟩) (by assumption) ?hRn9_4
            case hyn9_4 => (intro w hSw; (try dsimp only at hSw); go_simp; (try with_reducible rfl))
            try simp only [Act.put, zp1, zp2, zp3, zp4, zp5, zp6]
            refine wpAnyH_take (i := 4) (v := ?vn9_5) rfl (by kernel_rfl) (by kernel_rfl) (by kernel_rfl) (fun _ _ _ h => h) (Or.inl ⟨by rfl, ?hyn9_5⟩) (by assumption) ?hRn9_5
            case hyn9_5 => (intro w hSw; (try dsimp only at hSw); go_simp; (try with_reducible rfl))
            try simp only [Act.put, zp1, zp2, zp3, zp4, zp5, zp6]
            refine wpAnyH_take (i := 5) (v := ?vn9_6) rfl (by kernel_rfl) (by kernel_rfl) (by kernel_rfl) (fun _ _ _ h => h) (Or.inl ⟨by rfl, ?hyn9_6⟩) (by assumption) ?hRn9_6
            case hyn9_6 => (intro w hSw; (try dsimp only at hSw); go_simp; (try with_reducible rfl))
            try simp only [Act.put, zp1, zp2, zp3, zp4, zp5, zp6]
            refine wpAnyH_take (i := 6) (v := ?vn9_7) rfl (by kernel_rfl) (by kernel_rfl) (by kernel_rfl) (fun _ _ _ h => h) (Or.inl ⟨by rfl, ?hyn9_7⟩) (by assumption) ?hRn9_7
            case hyn9_7 => (intro w hSw; (try dsimp only at hSw); go_simp; (try with_reducible rfl))
            try simp only [Act.put, zp1, zp2, zp3, zp4, zp5, zp6]
            refine wpAnyH_ready (rs := [7]) (by kernel_rfl) (by simp) ?_
            refine AllReadyH.cons rfl (fun K hK => ?_) AllReadyH.nil
            go_simp
            refine hK.out _ _ ?hSn9_8 (fun hHeld => ?hRn9_8)
            case hSn9_8 => ((try dsimp only); exact ⟨has1, has1, has1⟩)
            clear hK K
            try simp only [Act.put, zp1, zp2, zp3, zp4, zp5, zp6]
            refine wpAnyH_ready (rs := [8]) (by kernel_rfl) (by simp) ?_
            refine AllReadyH.cons rfl (fun K hK => ?_) AllReadyH.nil
            go_simp
            refine hK.out _ _ ?hSn9_9 (fun hHeld => ?hRn9_9)
            case hSn9_9 => ((try dsimp only); exact ⟨has1, has1, has1⟩)
            clear hK K
            try simp only [Act.put, zp1, zp2, zp3, zp4, zp5, zp6]
            refine wpAnyH_take (i := 9) (v := ?vn9_10) rfl (by kernel_rfl) (by kernel_rfl) (by kernel_rfl) (fun _ _ _ h => h) (Or.inl ⟨by rfl, ?hyn9_10⟩) (by assumption) ?hRn9_10
            case hyn9_10 => (intro w hSw; (try dsimp only at hSw); go_simp; (try with_reducible rfl))
            try simp only [Act.put, zp1, zp2, zp3, zp4, zp5, zp6]
            refine wpAnyH_done (by kernel_rfl) ?_ _
            all_goals
              go_wp2
              (refine bodyPost_ret (v := .tuple #[.agg #[.slice As s.len cs], .agg #[.slice Ar r.len cr], .bool (!true)]) (by simp [results, Tryz.results43, go_sem]) rfl ?_; rw [HR1.out]; exact ⟨As, cs, Ar, cr, rfl, trx (XL w) _ As, trx X _ Ar, GS.out, GR.out, ext w _⟩)
      · clear hgo
        go_upto_region 20 with (first | (go_at_call 59; (with_reducible refine (suZero_any r Ar cr _).mono ?_); rintro e27 w27 ⟨rfl, hb⟩; haveI : Bel _ w27 := ⟨hb⟩; clear hb))
        refine wp_region_held_drew (S := (fun w' => w'.cell? ⟨g10, 0, none⟩ = some (.slice As s.len cs) ∧ w'.cell? ⟨g11, 0, none⟩ = some (.slice Ar r.len cr) ∧ w'.cell? ⟨g20, 0, none⟩ = some (.bool bad))) (by kernel_rfl) ?hSn10_ (fun hHeld => ?hRn10_)
        case hSn10_ => (exact ⟨has1, has1, has1⟩)
        refine wpAnyH_take (i := 0) (v := ?vn10_1) rfl (by kernel_rfl) (by kernel_rfl) (by kernel_rfl) (fun _ _ _ h => h) (Or.inl ⟨by rfl, ?hyn10_1⟩) (by assumption) ?hRn10_1
        case hyn10_1 => (intro w hSw; (try dsimp only at hSw); go_simp; (try with_reducible rfl))
        try simp only [Act.put, zp1, zp2, zp3, zp4, zp5, zp6]
        refine wpAnyH_take (i := 1) (v := ?vn10_2) rfl (by kernel_rfl) (by kernel_rfl) (by kernel_rfl) (fun _ _ _ h => h) (Or.inl ⟨by rfl, ?hyn10_2⟩) (by assumption) ?hRn10_2
        case hyn10_2 => (intro w hSw; (try dsimp only at hSw); go_simp; (try with_reducible rfl))
        try simp only [Act.put, zp1, zp2, zp3, zp4, zp5, zp6]
        refine wpAnyH_take (i := 2) (v := ?vn10_3) rfl (by kernel_rfl) (by kernel_rfl) (by kernel_rfl) (fun _ _ _ h => h) (Or.inl ⟨by rfl, ?hyn10_3⟩) (by assumption) ?hRn10_3
        case hyn10_3 => (intro w hSw; (try dsimp only at hSw); go_simp; (try with_reducible rfl))
        try simp only [Act.put, zp1, zp2, zp3, zp4, zp5, zp6]
        refine wpAnyH_take (i := 3) (v := ?vn10_4) rfl (by kernel_rfl) (by kernel_rfl) (by kernel_rfl) (fun _ _ _ h => h) (Or.inl ⟨by rfl, ?hyn10_4⟩) (by assumption) ?hRn10_4
        case hyn10_4 => (intro w hSw; (try dsimp only at hSw); go_simp; (try with_reducible rfl))
        try simp only [Act.put, zp1, zp2, zp3, zp4, zp5, zp6]
        refine wpAnyH_take (i := 4) (v := ?vn10_5) rfl (by kernel_rfl) (by kernel_rfl) (by kernel_rfl) (fun _ _ _ h => h) (Or.inl ⟨by rfl, ?hyn10_5⟩) (by assumption) ?hRn10_5
        case hyn10_5 => (intro w hSw; (try dsimp only at hSw); go_simp; (try with_reducible rfl))
        try simp only [Act.put, zp1, zp2, zp3, zp4, zp5, zp6]
        refine wpAnyH_take (i := 5) (v := ?vn10_6) rfl (by kernel_rfl) (by kernel_rfl) (by kernel_rfl) (fun _ _ _ h => h) (Or.inl ⟨by rfl, ?hyn10_6⟩) (by assumption) ?hRn10_6
        case hyn10_6 => (intro w hSw; (try dsimp only at hSw); go_simp; (try with_reducible rfl))
        try simp only [Act.put, zp1, zp2, zp3, zp4, zp5, zp6]
        refine wpAnyH_take (i := 6) (v := ?vn10_7) rfl (by kernel_rfl) (by kernel_rfl) (by kernel_rfl) (fun _ _ _ h => h) (Or.inl ⟨by rfl, ?hyn10_7⟩) (by assumption) ?hRn10_7
        case hyn10_7 => (intro w hSw; (try dsimp only at hSw); go_simp; (try with_reducible rfl))
        try simp only [Act.put, zp1, zp2, zp3, zp4, zp5, zp6]
        refine wpAnyH_ready (rs := [7]) (by kernel_rfl) (by simp) ?_
        refine AllReadyH.cons rfl (fun K hK => ?_) AllReadyH.nil
        go_simp
        refine hK.out _ _ ?hSn10_8 (fun hHeld => ?hRn10_8)
        case hSn10_8 => ((try dsimp only); exact ⟨has1, has1, has1⟩)
        clear hK K
        try simp only [Act.put, zp1, zp2, zp3, zp4, zp5, zp6]
        refine wpAnyH_ready (rs := [8]) (by kernel_rfl) (by simp) ?_
        refine AllReadyH.cons rfl (fun K hK => ?_) AllReadyH.nil
        go_simp
        refine hK.out _ _ ?hSn10_9 (fun hHeld => ?hRn10_9)
        case hSn10_9 => ((try dsimp only); exact ⟨has1, has1, has1⟩)
        clear hK K
        try simp only [Act.put, zp1, zp2, zp3, zp4, zp5, zp6]
        refine wpAnyH_take (i := 9) (v := ?vn10_10) rfl (by kernel_rfl) (by kernel_rfl) (by kernel_rfl) (fun _ _ _ h => h) (Or.inl ⟨by rfl, ?hyn10_10⟩) (by assumption) ?hRn10_10
        case hyn10_10 => (intro w hSw; (try dsimp only at hSw); go_simp; (try with_reducible rfl))
        try simp only [Act.put, zp1, zp2, zp3, zp4, zp5, zp6]
        refine wpAnyH_done (by kernel_rfl) ?_ _
        all_goals
          go_wp2
          (refine bodyPost_ret (v := .tuple #[.agg #[.slice As s.len cs], .agg #[.slice Ar r.len cr], .bool (!bad)]) (by simp [results, Tryz.results43, go_sem]) rfl ?_; rw [HR1.out]; exact ⟨As, cs, Ar, cr, rfl, trx (XL w) _ As, trx X _ Ar, GS.out, GR.out, ext w _⟩)
end Go.Proofs.YtonlfnbjbmgegaaGreat
