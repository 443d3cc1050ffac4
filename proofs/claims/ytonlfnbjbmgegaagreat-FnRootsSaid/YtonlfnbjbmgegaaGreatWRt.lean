/-
  Walks: roots by terms, the program's.
-/
import Derived.Test.YtonlfnbjbmgegaaGreatWRtFn
import Derived.Test.YtonlfnbjbmgegaaGreatWRoot
import Derived.Test.YtonlfnbjbmgegaaGreatWQuo
namespace Go.Proofs.YtonlfnbjbmgegaaGreat
open Go.RowKit
open List renaming getElem_toArray → zp1, getElem_cons_zero → zp2, getElem_cons_succ → zp3, setIfInBounds_toArray → zp4, set_cons_zero → zp5, set_cons_succ → zp6
set_option linter.unusedSimpArgs false
set_option linter.unusedVariables false

theorem rootC_ok {n d : Int} {k : Nat} {p q : Int} (h : rootC n d k = some (p, q)) : FOk p q := by
  unfold rootC at h
  by_cases hc : rootP (sizeI n) k < 0 ∨ rootP d k < 0 ∨ (n < 0 ∧ k % 2 = 0)
  · rw [if_pos hc] at h; cases h
  · rw [if_neg hc] at h; exact made_ok h
attribute [local go_sem high] has_cell has_frozen
set_option synthInstance.maxHeartbeats 2000000 in
set_option synthInstance.maxSize 4000 in
set_option maxHeartbeats 8000000 in
set_option maxRecDepth 100000 in
theorem firstRoot_any (x : Sur) (k : Nat) (mb : Nat) (X : Nat → Prop) (A : Option Addr) (c : Nat) (w : World) [hmb : Has w mb (.cells #[.bool false] 61 (0, 0))] [hX : XOk X mb] (sx : SSl X w x A c) (gx : sGood x = true) (nx : x.len ≠ 0) (h2 : 2 ≤ k) (h4 : k ≤ 4) :
    Calls Tryz.prog 34 #[.pointer (some ⟨mb, 0, none⟩), .agg #[.slice A x.len c], .int .i64 k] w fun e w' => ∃ A' c', e = .returned (.agg #[.slice A' (rfT x k).len c']) ∧ SSl (XL w) w' (rfT x k) A' c' ∧ Below w.heap.size (w.setCell ⟨mb, 0, none⟩ (.bool (rfB x k))) w' := by
  have hltm : mb < w.heap.size := has_lt hmb.h
  obtain ⟨b, o, A1, d1, hA, q0, q1, q2, se1, hXb, hbl⟩ := sx.at0 nx
  have hbm : b ≠ mb := fun h => hXb (h ▸ hX.h)
  haveI := Tr.arg sx
  haveI := Tr.arg se1
  subst hA
  clear sx se1
  obtain ⟨E, hE⟩ : ∃ E, rfE x k = E := ⟨_, rfl⟩
  obtain ⟨C, hC⟩ : ∃ C, rfC x k = C := ⟨_, rfl⟩
  obtain ⟨t, ht⟩ : ∃ t, rfT x k = t := ⟨_, rfl⟩
  have hB : rfB x k = ((false || !E.isSome) || !C.isSome) := by unfold rfB; rw [hE, hC]
  have HE : Hid (scaleS (fE x) 1 k = E) := hE
  have HC : Hid (rootC (fC x).1 (fC x).2 k = C) := hC
  have HT : Hid (termP (E.getD .nil) (C.getD (0, 0)).1 (C.getD (0, 0)).2 = t) := by show _ = _; rw [← hE, ← hC]; exact ht
  have HI : Hid (I64 (C.getD (0, 0)).1 ∧ I64 (C.getD (0, 0)).2) := optF_getD C fun p q h => rootC_ok (hC.trans h)
  have HF : Hid (fracOk (fC x).1 (fC x).2 = true) := by
    cases x with
    | nil => exact absurd rfl nx
    | cons e n d r => have h := (sGood_len gx).2.2; simp only [Sur.All] at h; exact h.2.1
  rw [ht, hB]
  clear hE hC ht hB
  have Q0 : ∀ W, KpI w (XE mb) W → W.cell? ⟨b, o, none⟩ = some (.slice A1 (fE x).len d1) := fun W h => kpi_cell (k := h) hbl hbm q0
  have Q1 : ∀ W, KpI w (XE mb) W → W.cell? ⟨b, o + 1, none⟩ = some (.int .i64 (fC x).1) := fun W h => kpi_cell (k := h) hbl hbm q1
  have Q2 : ∀ W, KpI w (XE mb) W → W.cell? ⟨b, o + 2, none⟩ = some (.int .i64 (fC x).2) := fun W h => kpi_cell (k := h) hbl hbm q2
  have hx0 : (0 : Int) < (x.len : Int) := by omega
  have hx0n : 0 < x.len := by omega
  clear q1 q2 nx
  go_enter Tryz.func34, Tryz.ntmps34
  go_upto_region 2 with (first | ((with_reducible refine at_dst (N := 4) rfl ?_); refine ev_box (cs := #[.slice (some ⟨b, o, none⟩) x.len c]) (t := 26) rfl ?hr4 ?_; (case hr4 => first | (go_simp; done) | (go_simp; rfl)); intro g4 v4 _ _ _ _) | ((with_reducible refine at_dst (N := 6) rfl ?_); refine ev_box (cs := #[.slice none 0 0]) (t := 26) rfl ?hr6 ?_; (case hr6 => first | (go_simp; done) | (go_simp; rfl)); intro g6 v6 _ _ _ _) | ((with_reducible refine at_dst (N := 7) rfl ?_); refine ev_box (cs := #[.slice none 0 0]) (t := 26) rfl ?hr7 ?_; (case hr7 => first | (go_simp; done) | (go_simp; rfl)); intro g7 v7 _ _ _ _) | (go_at_call 82; (with_reducible refine (mscale_any (fE x) 1 k false mb _ A1 d1 _ (tr _ A1) has1 has_frozen).mono ?_); rintro e16 w16 ⟨A16, c16, he, hf, hb⟩; rw [HE.out] at he hf hb; subst he; haveI := belM hb; haveI := Fs.of hf; clear hf hb))
  refine wp_region_held_drew (S := (fun w' => w'.cell? ⟨g7, 0, none⟩ = some (.slice A16 (E.getD .nil).len c16) ∧ w'.cell? ⟨g4, 0, none⟩ = some (.slice (some ⟨b, o, none⟩) x.len c) ∧ w'.cell? ⟨b, o + 1, none⟩ = some (.int .i64 (fC x).1) ∧ w'.cell? ⟨b, o + 2, none⟩ = some (.int .i64 (fC x).2))) (by kernel_rfl) ?hSn1_ (fun hHeld => ?hRn1_)
  case hSn1_ => (exact ⟨has1, has1, Q1 _ inferInstance, Q2 _ inferInstance⟩)
  refine wpAnyH_take (i := 0) (v := ?vn1_1) rfl (by kernel_rfl) (by kernel_rfl) (by kernel_rfl) (fun _ _ _ h => h) (Or.inl ⟨by rfl, ?hyn1_1⟩) (by assumption) ?hRn1_1
  case hyn1_1 => (intro w hSw; (try dsimp only at hSw); go_simp; (try with_reducible rfl))
  try simp only [Act.put, zp1, zp2, zp3, zp4, zp5, zp6]
  refine wpAnyH_take (i := 1) (v := ?vn1_2) rfl (by kernel_rfl) (by kernel_rfl) (by kernel_rfl) (fun _ _ _ h => h) (Or.inl ⟨by rfl, ?hyn1_2⟩) (by assumption) ?hRn1_2
  case hyn1_2 => (intro w hSw; (try dsimp only at hSw); go_simp; (try with_reducible rfl))
  try simp only [Act.put, zp1, zp2, zp3, zp4, zp5, zp6]
  refine wpAnyH_take (i := 2) (v := ?vn1_3) rfl (by kernel_rfl) (by kernel_rfl) (by kernel_rfl) (fun _ _ _ h => h) (Or.inl ⟨by rfl, ?hyn1_3⟩) (by assumption) ?hRn1_3
  case hyn1_3 => (intro w hSw; (try dsimp only at hSw); go_simp; (try with_reducible rfl))
  try simp only [Act.put, zp1, zp2, zp3, zp4, zp5, zp6]
  refine wpAnyH_take (i := 3) (v := ?vn1_4) rfl (by kernel_rfl) (by kernel_rfl) (by kernel_rfl) (fun _ _ _ h => h) (Or.inl ⟨by rfl, ?hyn1_4⟩) (by assumption) ?hRn1_4
  case hyn1_4 => (intro w hSw; (try dsimp only at hSw); go_simp; (try with_reducible rfl))
  try simp only [Act.put, zp1, zp2, zp3, zp4, zp5, zp6]
  refine wpAnyH_take (i := 4) (v := ?vn1_5) rfl (by kernel_rfl) (by kernel_rfl) (by kernel_rfl) (fun _ _ _ h => h) (Or.inl ⟨by rfl, ?hyn1_5⟩) (by assumption) ?hRn1_5
  case hyn1_5 => (intro w hSw; (try dsimp only at hSw); go_simp; (try with_reducible rfl))
  try simp only [Act.put, zp1, zp2, zp3, zp4, zp5, zp6]
  refine wpAnyH_take (i := 5) (v := ?vn1_6) rfl (by kernel_rfl) (by kernel_rfl) (by kernel_rfl) (fun _ _ _ h => h) (Or.inl ⟨by rfl, ?hyn1_6⟩) (by assumption) ?hRn1_6
  case hyn1_6 => (intro w hSw; (try dsimp only at hSw); go_simp; (try with_reducible rfl))
  try simp only [Act.put, zp1, zp2, zp3, zp4, zp5, zp6]
  refine wpAnyH_take (i := 6) (v := ?vn1_7) rfl (by kernel_rfl) (by kernel_rfl) (by kernel_rfl) (fun _ _ _ h => h) (Or.inl ⟨by rfl, ?hyn1_7⟩) (by assumption) ?hRn1_7
  case hyn1_7 => (intro w hSw; (try dsimp only at hSw); go_simp; (try with_reducible rfl))
  try simp only [Act.put, zp1, zp2, zp3, zp4, zp5, zp6]
  refine wpAnyH_take (i := 7) (v := ?vn1_8) rfl (by kernel_rfl) (by kernel_rfl) (by kernel_rfl) (fun _ _ _ h => h) (Or.inl ⟨by rfl, ?hyn1_8⟩) (by assumption) ?hRn1_8
  case hyn1_8 => (intro w hSw; (try dsimp only at hSw); go_simp; (try with_reducible rfl))
  try simp only [Act.put, zp1, zp2, zp3, zp4, zp5, zp6]
  refine wpAnyH_ready (rs := [8]) (by kernel_rfl) (by simp) ?_
  refine AllReadyH.cons rfl (fun K hK => ?_) AllReadyH.nil
  go_simp
  ((go_at_call 84; refine (rootCoef_any (fC x).1 (fC x).2 k _ HF.out h2 h4).mono ?_; rintro e25 w25 ⟨he, hb⟩; rw [HC.out, optF_eq] at he; subst he; haveI : Bel _ w25 := ⟨hb⟩; clear hb))
  go_wp2_with fail
  refine hK.out _ _ ?hSn1_9 (fun hHeld => ?hRn1_9)
  case hSn1_9 => ((try dsimp only); exact ⟨has1, has1, Q1 _ inferInstance, Q2 _ inferInstance⟩)
  clear hK K
  try simp only [Act.put, zp1, zp2, zp3, zp4, zp5, zp6]
  refine wpAnyH_take (i := 9) (v := ?vn1_10) rfl (by kernel_rfl) (by kernel_rfl) (by kernel_rfl) (fun _ _ _ h => h) (Or.inl ⟨by rfl, ?hyn1_10⟩) (by assumption) ?hRn1_10
  case hyn1_10 => (intro w hSw; (try dsimp only at hSw); go_simp; (try with_reducible rfl))
  try simp only [Act.put, zp1, zp2, zp3, zp4, zp5, zp6]
  refine wpAnyH_take (i := 10) (v := ?vn1_11) rfl (by kernel_rfl) (by kernel_rfl) (by kernel_rfl) (fun _ _ _ h => h) (Or.inl ⟨by rfl, ?hyn1_11⟩) (by assumption) ?hRn1_11
  case hyn1_11 => (intro w hSw; (try dsimp only at hSw); go_simp; (try with_reducible rfl))
  try simp only [Act.put, zp1, zp2, zp3, zp4, zp5, zp6]
  refine wpAnyH_ready (rs := [11]) (by kernel_rfl) (by simp) ?_
  refine AllReadyH.cons rfl (fun K hK => ?_) AllReadyH.nil
  go_simp
  ((go_at_call 83; refine (mcoef_any _ _ _ _ mb _ has1 has_frozen).mono ?_; rintro e28 w28 ⟨rfl, hb⟩; haveI := belM hb; clear hb))
  go_wp2_with fail
  refine hK.out _ _ ?hSn1_12 (fun hHeld => ?hRn1_12)
  case hSn1_12 => ((try dsimp only); exact ⟨has1, has1, Q1 _ inferInstance, Q2 _ inferInstance⟩)
  clear hK K
  try simp only [Act.put, zp1, zp2, zp3, zp4, zp5, zp6]
  refine wpAnyH_ready (rs := [12]) (by kernel_rfl) (by simp) ?_
  refine AllReadyH.cons rfl (fun K hK => ?_) AllReadyH.nil
  go_simp
  ((go_at_call 56; refine (term_any (E.getD .nil) _ _ (XL v6) A16 c16 _ (fun k hk => Nat.lt_of_lt_of_le hk (LeB.h)) (trx (XL v6) _ A16) HI.out.1 HI.out.2).mono ?_; rintro e29 w29 ⟨A29, c29, he, hs, hb⟩; rw [HT.out] at he hs; subst he; haveI : Bel _ w29 := ⟨hb⟩; haveI := Tr.arg hs; clear hs hb))
  go_wp2_with fail
  refine hK.out _ _ ?hSn1_13 (fun hHeld => ?hRn1_13)
  case hSn1_13 => ((try dsimp only); exact ⟨has1, has1, Q1 _ inferInstance, Q2 _ inferInstance⟩)
  clear hK K
  try simp only [Act.put, zp1, zp2, zp3, zp4, zp5, zp6]
  refine wpAnyH_ready (rs := [13]) (by kernel_rfl) (by simp) ?_
  refine AllReadyH.cons rfl (fun K hK => ?_) AllReadyH.nil
  go_simp
  refine hK.out _ _ ?hSn1_14 (fun hHeld => ?hRn1_14)
  case hSn1_14 => ((try dsimp only); exact ⟨has1, has1, Q1 _ inferInstance, Q2 _ inferInstance⟩)
  clear hK K
  try simp only [Act.put, zp1, zp2, zp3, zp4, zp5, zp6]
  refine wpAnyH_done (by kernel_rfl) ?_ _
  all_goals
    go_wp2
    refine bodyPost_ret (v := .agg #[.slice A29 t.len c29]) (by simp [results, Tryz.results34, go_sem]) rfl ?_
    exact ⟨A29, c29, rfl, (trx (XL w) _ A29 : SSl (XL w) _ t A29 c29), marked w _ mb⟩

set_option synthInstance.maxHeartbeats 2000000 in
set_option synthInstance.maxSize 4000 in
set_option maxHeartbeats 8000000 in
set_option maxRecDepth 100000 in
theorem nextRoot_any (s r : Sur) (k : Nat) (mb : Nat) (X Y : Nat → Prop) (A A' : Option Addr) (c c' : Nat) (w : World) [hmb : Has w mb (.cells #[.bool false] 61 (0, 0))] [hX : XOk X mb] [hY : XOk Y mb] (ss : SSl X w s A c) (sr : SSl Y w r A' c') (gs : sGood s = true) (gr : sGood r = true) (ns : s.len ≠ 0) (nr : r.len ≠ 0) (h2 : 2 ≤ k) (h4 : k ≤ 4) :
    Calls Tryz.prog 35 #[.pointer (some ⟨mb, 0, none⟩), .agg #[.slice A s.len c], .agg #[.slice A' r.len c'], .int .i64 k] w fun e w' => ∃ A' c', e = .returned (.agg #[.slice A' (rnT s r k).len c']) ∧ SSl (XL w) w' (rnT s r k) A' c' ∧ Below w.heap.size (w.setCell ⟨mb, 0, none⟩ (.bool (rnB s r k))) w' := by
  have hltm : mb < w.heap.size := has_lt hmb.h
  obtain ⟨b, o, A1, d1, hA, q0, q1, q2, se1, hXb, hbl⟩ := ss.at0 ns
  have hbm : b ≠ mb := fun h => hXb (h ▸ hX.h)
  obtain ⟨b', o', A2, d2, hA', p0, p1, p2, se2, hXb', hbl'⟩ := sr.at0 nr
  have hbm' : b' ≠ mb := fun h => hXb' (h ▸ hY.h)
  haveI := Tr.arg ss
  haveI := Tr.arg sr
  haveI := Tr.arg se1
  haveI := Tr.arg se2
  subst hA
  subst hA'
  clear ss sr se1 se2
  obtain ⟨KK, hKK⟩ : ∃ KK, rnK s k = KK := ⟨_, rfl⟩
  obtain ⟨E, hE⟩ : ∃ E, rnE s r k = E := ⟨_, rfl⟩
  obtain ⟨⟨qb, qn, qd⟩, hQ⟩ : ∃ Q, rnQ s r k = Q := ⟨_, rfl⟩
  obtain ⟨M, hM⟩ : ∃ M, rnM s r k = M := ⟨_, rfl⟩
  obtain ⟨C, hC⟩ : ∃ C, rnC s r k = C := ⟨_, rfl⟩
  obtain ⟨t, ht⟩ : ∃ t, rnT s r k = t := ⟨_, rfl⟩
  have hB : rnB s r k = ((qb || !M.isSome) || !C.isSome) := by unfold rnB; rw [if_neg ns, hQ, hM, hC]
  have HK : Hid (scaleS (fE s) ((k : Int) - 1) 1 = KK) := hKK
  have HE : Hid (subS (fE r) (KK.getD .nil) = E) := by show _ = _; rw [← hKK]; exact hE
  have HQ : Hid (rnP (fC s) ((false || !KK.isSome) || !E.isSome) (k - 1) = (qb, qn, qd)) := by
    show _ = _
    have h := hQ
    unfold rnQ rnB1 at h
    rw [hKK, hE] at h
    exact h
  have HM : Hid (fMultiply qn qd k 1 = M) := by show _ = _; have h := hM; unfold rnM at h; rw [hQ] at h; exact h
  have HC : Hid (fDivide (fC r).1 (fC r).2 (M.getD (0, 0)).1 (M.getD (0, 0)).2 = C) := by show _ = _; rw [← hM]; exact hC
  have HT : Hid (termP (E.getD .nil) (C.getD (0, 0)).1 (C.getD (0, 0)).2 = t) := by show _ = _; have h := ht; unfold rnT at h; rw [if_neg ns, hE, hC] at h; exact h
  have HI : Hid (I64 (C.getD (0, 0)).1 ∧ I64 (C.getD (0, 0)).2) := optF_getD C fun p q h => two_ok (HC.out.trans h)
  have HLk : Hid ((KK.getD .nil).len ≤ 1099511627776) := by
    have := getD_len (o := KK) fun z h => (scaleS_some (HK.out.trans h)).2.2.1
    show _ ≤ _; omega
  rw [ht, hB]
  clear hKK hE hQ hM hC ht hB
  have Q0 : ∀ W, KpI w (XE mb) W → W.cell? ⟨b, o, none⟩ = some (.slice A1 (fE s).len d1) := fun W h => kpi_cell (k := h) hbl hbm q0
  have Q1 : ∀ W, KpI w (XE mb) W → W.cell? ⟨b, o + 1, none⟩ = some (.int .i64 (fC s).1) := fun W h => kpi_cell (k := h) hbl hbm q1
  have Q2 : ∀ W, KpI w (XE mb) W → W.cell? ⟨b, o + 2, none⟩ = some (.int .i64 (fC s).2) := fun W h => kpi_cell (k := h) hbl hbm q2
  have P0 : ∀ W, KpI w (XE mb) W → W.cell? ⟨b', o', none⟩ = some (.slice A2 (fE r).len d2) := fun W h => kpi_cell (k := h) hbl' hbm' p0
  have P1 : ∀ W, KpI w (XE mb) W → W.cell? ⟨b', o' + 1, none⟩ = some (.int .i64 (fC r).1) := fun W h => kpi_cell (k := h) hbl' hbm' p1
  have P2 : ∀ W, KpI w (XE mb) W → W.cell? ⟨b', o' + 2, none⟩ = some (.int .i64 (fC r).2) := fun W h => kpi_cell (k := h) hbl' hbm' p2
  have hs0 : (0 : Int) < (s.len : Int) := by omega
  have hw : IntKind.i64.wrap ((k : Int) - 1) = (k : Int) - 1 := IntWalk.i64_in _ (by omega)
  have hs0n : 0 < s.len := by omega
  have hs1 : ((s.len : Int) == 0) = false := by simp; omega
  have hr0 : (0 : Int) < (r.len : Int) := by omega
  have hr0n : 0 < r.len := by omega
  clear q0 q1 q2 p0 p1 p2 ns nr
  go_enter Tryz.func35, Tryz.ntmps35
  go_upto_region 4 with (first | ((with_reducible refine at_dst (N := 5) rfl ?_); refine ev_box (cs := #[.slice (some ⟨b, o, none⟩) s.len c]) (t := 26) rfl ?hr5 ?_; (case hr5 => first | (go_simp; done) | (go_simp; rfl)); intro g5 v5 _ _ _ _) | ((with_reducible refine at_dst (N := 6) rfl ?_); refine ev_box (cs := #[.slice (some ⟨b', o', none⟩) r.len c']) (t := 26) rfl ?hr6 ?_; (case hr6 => first | (go_simp; done) | (go_simp; rfl)); intro g6 v6 _ _ _ _) | ((with_reducible refine at_dst (N := 8) rfl ?_); refine ev_box (cs := #[.slice none 0 0]) (t := 26) rfl ?hr8 ?_; (case hr8 => first | (go_simp; done) | (go_simp; rfl)); intro g8 v8 _ _ _ _) | (go_at_call 33; refine (isNothing_any s (some ⟨b, o, none⟩) c _).mono ?_; rintro e12 w12 ⟨rfl, hb⟩; haveI : Bel _ w12 := ⟨hb⟩; clear hb))
  go_cut [9] (fun s9 wx => ∃ (A33 : Option Addr) (c33 g9 : Nat), s9 = .pointer (some ⟨g9, 0, none⟩) ∧ Has wx mb (.cells #[.bool ((false || !KK.isSome) || !E.isSome)] 61 (0, 0)) ∧ Has wx g9 (.cells #[.slice A33 (E.getD .nil).len c33] 26 (0, 0)) ∧ Fs wx A33 v8 wx (E.getD .nil) c33 ∧ Kp v8 (XE mb) wx ∧ GeB v8 g9)
  case first => as_aux_lemma =>
    refine wp_region_held_drew (S := (fun w' => w'.cell? ⟨g5, 0, none⟩ = some (.slice (some ⟨b, o, none⟩) s.len c) ∧ w'.cell? ⟨g6, 0, none⟩ = some (.slice (some ⟨b', o', none⟩) r.len c') ∧ w'.cell? ⟨b, o, none⟩ = some (.slice A1 (fE s).len d1) ∧ w'.cell? ⟨b', o', none⟩ = some (.slice A2 (fE r).len d2))) (by kernel_rfl) ?hSn2_ (fun hHeld => ?hRn2_)
    case hSn2_ => (exact ⟨has1, has1, Q0 _ inferInstance, P0 _ inferInstance⟩)
    refine wpAnyH_take (i := 0) (v := ?vn2_1) rfl (by kernel_rfl) (by kernel_rfl) (by kernel_rfl) (fun _ _ _ h => h) (Or.inl ⟨by rfl, ?hyn2_1⟩) (by assumption) ?hRn2_1
    case hyn2_1 => (intro w hSw; (try dsimp only at hSw); go_simp; (try with_reducible rfl))
    try simp only [Act.put, zp1, zp2, zp3, zp4, zp5, zp6]
    refine wpAnyH_take (i := 1) (v := ?vn2_2) rfl (by kernel_rfl) (by kernel_rfl) (by kernel_rfl) (fun _ _ _ h => h) (Or.inl ⟨by rfl, ?hyn2_2⟩) (by assumption) ?hRn2_2
    case hyn2_2 => (intro w hSw; (try dsimp only at hSw); go_simp; (try with_reducible rfl))
    try simp only [Act.put, zp1, zp2, zp3, zp4, zp5, zp6]
    refine wpAnyH_take (i := 2) (v := ?vn2_3) rfl (by kernel_rfl) (by kernel_rfl) (by kernel_rfl) (fun _ _ _ h => h) (Or.inl ⟨by rfl, ?hyn2_3⟩) (by assumption) ?hRn2_3
    case hyn2_3 => (intro w hSw; (try dsimp only at hSw); go_simp; (try with_reducible rfl))
    try simp only [Act.put, zp1, zp2, zp3, zp4, zp5, zp6]
    refine wpAnyH_take (i := 3) (v := ?vn2_4) rfl (by kernel_rfl) (by kernel_rfl) (by kernel_rfl) (fun _ _ _ h => h) (Or.inl ⟨by rfl, ?hyn2_4⟩) (by assumption) ?hRn2_4
    case hyn2_4 => (intro w hSw; (try dsimp only at hSw); go_simp; (try with_reducible rfl))
    try simp only [Act.put, zp1, zp2, zp3, zp4, zp5, zp6]
    refine wpAnyH_take (i := 4) (v := ?vn2_5) rfl (by kernel_rfl) (by kernel_rfl) (by kernel_rfl) (fun _ _ _ h => h) (Or.inl ⟨by rfl, ?hyn2_5⟩) (by assumption) ?hRn2_5
    case hyn2_5 => (intro w hSw; (try dsimp only at hSw); go_simp; (try with_reducible rfl))
    try simp only [Act.put, zp1, zp2, zp3, zp4, zp5, zp6]
    refine wpAnyH_take (i := 5) (v := ?vn2_6) rfl (by kernel_rfl) (by kernel_rfl) (by kernel_rfl) (fun _ _ _ h => h) (Or.inl ⟨by rfl, ?hyn2_6⟩) (by assumption) ?hRn2_6
    case hyn2_6 => (intro w hSw; (try dsimp only at hSw); go_simp; (try with_reducible rfl))
    try simp only [Act.put, zp1, zp2, zp3, zp4, zp5, zp6]
    refine wpAnyH_take (i := 6) (v := ?vn2_7) rfl (by kernel_rfl) (by kernel_rfl) (by kernel_rfl) (fun _ _ _ h => h) (Or.inl ⟨by rfl, ?hyn2_7⟩) (by assumption) ?hRn2_7
    case hyn2_7 => (intro w hSw; (try dsimp only at hSw); go_simp; (try with_reducible rfl))
    try simp only [Act.put, zp1, zp2, zp3, zp4, zp5, zp6]
    refine wpAnyH_take (i := 7) (v := ?vn2_8) rfl (by kernel_rfl) (by kernel_rfl) (by kernel_rfl) (fun _ _ _ h => h) (Or.inl ⟨by rfl, ?hyn2_8⟩) (by assumption) ?hRn2_8
    case hyn2_8 => (intro w hSw; (try dsimp only at hSw); go_simp; (try with_reducible rfl))
    try simp only [Act.put, zp1, zp2, zp3, zp4, zp5, zp6]
    refine wpAnyH_take (i := 8) (v := ?vn2_9) rfl (by kernel_rfl) (by kernel_rfl) (by kernel_rfl) (fun _ _ _ h => h) (Or.inl ⟨by rfl, ?hyn2_9⟩) (by assumption) ?hRn2_9
    case hyn2_9 => (intro w hSw; (try dsimp only at hSw); go_simp; (try with_reducible rfl))
    try simp only [Act.put, zp1, zp2, zp3, zp4, zp5, zp6]
    refine wpAnyH_take (i := 9) (v := ?vn2_10) rfl (by kernel_rfl) (by kernel_rfl) (by kernel_rfl) (fun _ _ _ h => h) (Or.inl ⟨by rfl, ?hyn2_10⟩) (by assumption) ?hRn2_10
    case hyn2_10 => (intro w hSw; (try dsimp only at hSw); go_simp; (try with_reducible rfl))
    try simp only [Act.put, zp1, zp2, zp3, zp4, zp5, zp6]
    refine wpAnyH_take (i := 10) (v := ?vn2_11) rfl (by kernel_rfl) (by kernel_rfl) (by kernel_rfl) (fun _ _ _ h => h) (Or.inl ⟨by rfl, ?hyn2_11⟩) (by assumption) ?hRn2_11
    case hyn2_11 => (intro w hSw; (try dsimp only at hSw); go_simp; (try with_reducible rfl))
    try simp only [Act.put, zp1, zp2, zp3, zp4, zp5, zp6]
    refine wpAnyH_take (i := 11) (v := ?vn2_12) rfl (by kernel_rfl) (by kernel_rfl) (by kernel_rfl) (fun _ _ _ h => h) (Or.inl ⟨by rfl, ?hyn2_12⟩) (by assumption) ?hRn2_12
    case hyn2_12 => (intro w hSw; (try dsimp only at hSw); go_simp; (try with_reducible rfl))
    try simp only [Act.put, zp1, zp2, zp3, zp4, zp5, zp6]
    refine wpAnyH_take (i := 12) (v := ?vn2_13) rfl (by kernel_rfl) (by kernel_rfl) (by kernel_rfl) (fun _ _ _ h => h) (Or.inl ⟨by rfl, ?hyn2_13⟩) (by assumption) ?hRn2_13
    case hyn2_13 => (intro w hSw; (try dsimp only at hSw); go_simp; (try with_reducible rfl))
    try simp only [Act.put, zp1, zp2, zp3, zp4, zp5, zp6]
    refine wpAnyH_take (i := 13) (v := ?vn2_14) rfl (by kernel_rfl) (by kernel_rfl) (by kernel_rfl) (fun _ _ _ h => h) (Or.inl ⟨by rfl, ?hyn2_14⟩) (by assumption) ?hRn2_14
    case hyn2_14 => (intro w hSw; (try dsimp only at hSw); go_simp; (try with_reducible rfl))
    try simp only [Act.put, zp1, zp2, zp3, zp4, zp5, zp6]
    refine wpAnyH_ready (rs := [14, 17]) (by kernel_rfl) (by simp) ?_
    refine AllReadyH.cons rfl (fun K hK => ?bn2_15) (AllReadyH.cons rfl (fun K hK => ?bn2_16) (AllReadyH.nil))
    case' bn2_15 =>
      go_simp
      ((go_at_call 85; with_reducible refine (whole_any ((k : Int) - 1) _).mono ?_; rintro e31 w31 ⟨rfl, hb⟩; haveI : Bel _ w31 := ⟨hb⟩; clear hb))
      go_wp2_with fail
      refine hK.out _ _ ?hSn2_17 (fun hHeld => ?hRn2_17)
      case hSn2_17 => ((try dsimp only); exact ⟨has1, has1, Q0 _ inferInstance, P0 _ inferInstance⟩)
      clear hK K
      try simp only [Act.put, zp1, zp2, zp3, zp4, zp5, zp6]
      refine wpAnyH_ready (rs := [15, 17]) (by kernel_rfl) (by simp) ?_
      refine AllReadyH.cons rfl (fun K hK => ?bn2_18) (AllReadyH.cons rfl (fun K hK => ?bn2_19) (AllReadyH.nil))
      case' bn2_18 =>
        go_simp
        ((go_at_call 82; (with_reducible refine (mscale_any (fE s) ((k : Int) - 1) 1 false mb _ A1 d1 _ (tr _ A1) has1 has_frozen).mono ?_); rintro e32 w32 ⟨A32, c32, he, hf, hb⟩; rw [HK.out] at he hf hb; subst he; haveI := belM hb; haveI := Fs.of hf; clear hf hb))
        go_wp2_with fail
        refine hK.out _ _ ?hSn2_20 (fun hHeld => ?hRn2_20)
        case hSn2_20 => ((try dsimp only); exact ⟨has1, has1, Q0 _ inferInstance, P0 _ inferInstance⟩)
        clear hK K
        try simp only [Act.put, zp1, zp2, zp3, zp4, zp5, zp6]
        refine wpAnyH_ready (rs := [16, 17]) (by kernel_rfl) (by simp) ?_
        refine AllReadyH.cons rfl (fun K hK => ?bn2_21) (AllReadyH.cons rfl (fun K hK => ?bn2_22) (AllReadyH.nil))
        case' bn2_21 =>
          go_simp
          ((go_at_call 37; (with_reducible refine (msub_any (fE r) (KK.getD .nil) _ mb _ _ A2 A32 d2 c32 _ (tr _ A2) (tr _ A32) has1 has_frozen HLk.out).mono ?_); rintro e33 w33 ⟨A33, c33, he, hf, hb⟩; rw [HE.out] at he hf hb; subst he; haveI := belM hb; haveI := Fs.of hf; clear hf hb))
          go_wp2_with fail
          refine hK.out _ _ ?hSn2_23 (fun hHeld => ?hRn2_23)
          case hSn2_23 => ((try dsimp only); exact ⟨has1, has1, Q0 _ inferInstance, P0 _ inferInstance⟩)
          clear hK K
          try simp only [Act.put, zp1, zp2, zp3, zp4, zp5, zp6]
          refine wpAnyH_ready (rs := [17]) (by kernel_rfl) (by simp) ?_
          refine AllReadyH.cons rfl (fun K hK => ?_) AllReadyH.nil
          go_simp
          refine hK.out _ _ ?hSn2_24 (fun hHeld => ?hRn2_24)
          case hSn2_24 => ((try dsimp only); exact ⟨has1, has1, Q0 _ inferInstance, P0 _ inferInstance⟩)
          clear hK K
          try simp only [Act.put, zp1, zp2, zp3, zp4, zp5, zp6]
          refine wpAnyH_ready (rs := [18]) (by kernel_rfl) (by simp) ?_
          refine AllReadyH.cons rfl (fun K hK => ?_) AllReadyH.nil
          go_simp
          refine hK.out _ _ ?hSn2_25 (fun hHeld => ?hRn2_25)
          case hSn2_25 => ((try dsimp only); exact ⟨has1, has1, Q0 _ inferInstance, P0 _ inferInstance⟩)
          clear hK K
          try simp only [Act.put, zp1, zp2, zp3, zp4, zp5, zp6]
          refine wpAnyH_done (by kernel_rfl) ?_ _
        case' bn2_22 =>
          go_simp
          refine hK.out _ _ ?hSn2_26 (fun hHeld => ?hRn2_26)
          case hSn2_26 => ((try dsimp only); exact ⟨has1, has1, Q0 _ inferInstance, P0 _ inferInstance⟩)
          clear hK K
          try simp only [Act.put, zp1, zp2, zp3, zp4, zp5, zp6]
          refine wpAnyH_ready (rs := [16]) (by kernel_rfl) (by simp) ?_
          refine AllReadyH.cons rfl (fun K hK => ?_) AllReadyH.nil
          go_simp
          ((go_at_call 37; (with_reducible refine (msub_any (fE r) (KK.getD .nil) _ mb _ _ A2 A32 d2 c32 _ (tr _ A2) (tr _ A32) has1 has_frozen HLk.out).mono ?_); rintro e33 w33 ⟨A33, c33, he, hf, hb⟩; rw [HE.out] at he hf hb; subst he; haveI := belM hb; haveI := Fs.of hf; clear hf hb))
          go_wp2_with fail
          refine hK.out _ _ ?hSn2_27 (fun hHeld => ?hRn2_27)
          case hSn2_27 => ((try dsimp only); exact ⟨has1, has1, Q0 _ inferInstance, P0 _ inferInstance⟩)
          clear hK K
          try simp only [Act.put, zp1, zp2, zp3, zp4, zp5, zp6]
          refine wpAnyH_ready (rs := [18]) (by kernel_rfl) (by simp) ?_
          refine AllReadyH.cons rfl (fun K hK => ?_) AllReadyH.nil
          go_simp
          refine hK.out _ _ ?hSn2_28 (fun hHeld => ?hRn2_28)
          case hSn2_28 => ((try dsimp only); exact ⟨has1, has1, Q0 _ inferInstance, P0 _ inferInstance⟩)
          clear hK K
          try simp only [Act.put, zp1, zp2, zp3, zp4, zp5, zp6]
          refine wpAnyH_done (by kernel_rfl) ?_ _
      case' bn2_19 =>
        go_simp
        refine hK.out _ _ ?hSn2_29 (fun hHeld => ?hRn2_29)
        case hSn2_29 => ((try dsimp only); exact ⟨has1, has1, Q0 _ inferInstance, P0 _ inferInstance⟩)
        clear hK K
        try simp only [Act.put, zp1, zp2, zp3, zp4, zp5, zp6]
        refine wpAnyH_ready (rs := [15]) (by kernel_rfl) (by simp) ?_
        refine AllReadyH.cons rfl (fun K hK => ?_) AllReadyH.nil
        go_simp
        ((go_at_call 82; (with_reducible refine (mscale_any (fE s) ((k : Int) - 1) 1 false mb _ A1 d1 _ (tr _ A1) has1 has_frozen).mono ?_); rintro e32 w32 ⟨A32, c32, he, hf, hb⟩; rw [HK.out] at he hf hb; subst he; haveI := belM hb; haveI := Fs.of hf; clear hf hb))
        go_wp2_with fail
        refine hK.out _ _ ?hSn2_30 (fun hHeld => ?hRn2_30)
        case hSn2_30 => ((try dsimp only); exact ⟨has1, has1, Q0 _ inferInstance, P0 _ inferInstance⟩)
        clear hK K
        try simp only [Act.put, zp1, zp2, zp3, zp4, zp5, zp6]
        refine wpAnyH_ready (rs := [16]) (by kernel_rfl) (by simp) ?_
        refine AllReadyH.cons rfl (fun K hK => ?_) AllReadyH.nil
        go_simp
        ((go_at_call 37; (with_reducible refine (msub_any (fE r) (KK.getD .nil) _ mb _ _ A2 A32 d2 c32 _ (tr _ A2) (tr _ A32) has1 has_frozen HLk.out).mono ?_); rintro e33 w33 ⟨A33, c33, he, hf, hb⟩; rw [HE.out] at he hf hb; subst he; haveI := belM hb; haveI := Fs.of hf; clear hf hb))
        go_wp2_with fail
        refine hK.out _ _ ?hSn2_31 (fun hHeld => ?hRn2_31)
        case hSn2_31 => ((try dsimp only); exact ⟨has1, has1, Q0 _ inferInstance, P0 _ inferInstance⟩)
        clear hK K
        try simp only [Act.put, zp1, zp2, zp3, zp4, zp5, zp6]
        refine wpAnyH_ready (rs := [18]) (by kernel_rfl) (by simp) ?_
        refine AllReadyH.cons rfl (fun K hK => ?_) AllReadyH.nil
        go_simp
        refine hK.out _ _ ?hSn2_32 (fun hHeld => ?hRn2_32)
        case hSn2_32 => ((try dsimp only); exact ⟨has1, has1, Q0 _ inferInstance, P0 _ inferInstance⟩)
        clear hK K
        try simp only [Act.put, zp1, zp2, zp3, zp4, zp5, zp6]
        refine wpAnyH_done (by kernel_rfl) ?_ _
    case' bn2_16 =>
      go_simp
      refine hK.out _ _ ?hSn2_33 (fun hHeld => ?hRn2_33)
      case hSn2_33 => ((try dsimp only); exact ⟨has1, has1, Q0 _ inferInstance, P0 _ inferInstance⟩)
      clear hK K
      try simp only [Act.put, zp1, zp2, zp3, zp4, zp5, zp6]
      refine wpAnyH_ready (rs := [14]) (by kernel_rfl) (by simp) ?_
      refine AllReadyH.cons rfl (fun K hK => ?_) AllReadyH.nil
      go_simp
      ((go_at_call 85; with_reducible refine (whole_any ((k : Int) - 1) _).mono ?_; rintro e31 w31 ⟨rfl, hb⟩; haveI : Bel _ w31 := ⟨hb⟩; clear hb))
      go_wp2_with fail
      refine hK.out _ _ ?hSn2_34 (fun hHeld => ?hRn2_34)
      case hSn2_34 => ((try dsimp only); exact ⟨has1, has1, Q0 _ inferInstance, P0 _ inferInstance⟩)
      clear hK K
      try simp only [Act.put, zp1, zp2, zp3, zp4, zp5, zp6]
      refine wpAnyH_ready (rs := [15]) (by kernel_rfl) (by simp) ?_
      refine AllReadyH.cons rfl (fun K hK => ?_) AllReadyH.nil
      go_simp
      ((go_at_call 82; (with_reducible refine (mscale_any (fE s) ((k : Int) - 1) 1 false mb _ A1 d1 _ (tr _ A1) has1 has_frozen).mono ?_); rintro e32 w32 ⟨A32, c32, he, hf, hb⟩; rw [HK.out] at he hf hb; subst he; haveI := belM hb; haveI := Fs.of hf; clear hf hb))
      go_wp2_with fail
      refine hK.out _ _ ?hSn2_35 (fun hHeld => ?hRn2_35)
      case hSn2_35 => ((try dsimp only); exact ⟨has1, has1, Q0 _ inferInstance, P0 _ inferInstance⟩)
      clear hK K
      try simp only [Act.put, zp1, zp2, zp3, zp4, zp5, zp6]
      refine wpAnyH_ready (rs := [16]) (by kernel_rfl) (by simp) ?_
      refine AllReadyH.cons rfl (fun K hK => ?_) AllReadyH.nil
      go_simp
      ((go_at_call 37; (with_reducible refine (msub_any (fE r) (KK.getD .nil) _ mb _ _ A2 A32 d2 c32 _ (tr _ A2) (tr _ A32) has1 has_frozen HLk.out).mono ?_); rintro e33 w33 ⟨A33, c33, he, hf, hb⟩; rw [HE.out] at he hf hb; subst he; haveI := belM hb; haveI := Fs.of hf; clear hf hb))
      go_wp2_with fail
      refine hK.out _ _ ?hSn2_36 (fun hHeld => ?hRn2_36)
      case hSn2_36 => ((try dsimp only); exact ⟨has1, has1, Q0 _ inferInstance, P0 _ inferInstance⟩)
      clear hK K
      try simp only [Act.put, zp1, zp2, zp3, zp4, zp5, zp6]
      refine wpAnyH_ready (rs := [18]) (by kernel_rfl) (by simp) ?_
      refine AllReadyH.cons rfl (fun K hK => ?_) AllReadyH.nil
      go_simp
      refine hK.out _ _ ?hSn2_37 (fun hHeld => ?hRn2_37)
      case hSn2_37 => ((try dsimp only); exact ⟨has1, has1, Q0 _ inferInstance, P0 _ inferInstance⟩)
      clear hK K
      try simp only [Act.put, zp1, zp2, zp3, zp4, zp5, zp6]
      refine wpAnyH_done (by kernel_rfl) ?_ _
    all_goals
      go_wp2
      go_meet
      exact ⟨A33, c33, _, rfl, inferInstance, inferInstance, Fs.lp, kp _ _ _, inferInstance⟩
  case rest =>
  rename World => wx
  obtain ⟨A33, c33, g9, rfl, _, _, _, _, _⟩ := hcut
  have hm8 : mb < v8.heap.size := Nat.lt_of_lt_of_le hltm (LeB.h (w := w) (W := v8))
  haveI : NeB g9 mb := ⟨by have h1 := (GeB.h (w := v8) (g := g9)); omega⟩
  haveI : NeB g9 g8 := ⟨by have h1 := (GeB.h (w := v8) (g := g9)); have h2 := (LtB.h (W := v8) (g := g8)); omega⟩
  go_wp2_with (first | (go_at_call 85; refine (whole_any 1 _).mono ?_; rintro e34 w34 ⟨rfl, hb⟩; haveI : Bel _ w34 := ⟨hb⟩; clear hb) | ((with_reducible refine at_dst (N := 10) rfl ?_); refine ev_box (cs := #[.int .i64 0, .int .i64 0]) (t := 68) rfl ?hr10 ?_; (case hr10 => first | (go_simp; done) | (go_simp; rfl)); intro g10 v10 _ _ _ _))
  go_loopw [37] (fun sl wr => ∃ (i : Nat) (bb : Bool) (pn pd : Int), sl = .int .i64 i ∧ i ≤ k - 1 ∧ Has wr mb (.cells #[.bool bb] 61 (0, 0)) ∧ Has wr g10 (.cells #[.int .i64 pn, .int .i64 pd] 68 (0, 0)) ∧ Kp v10 (XU (XE mb) (XE g10)) wr ∧ Kp w (XE mb) wr ∧ Hid (rnP (fC s) ((false || !KK.isSome) || !E.isSome) i = (bb, pn, pd))) (fun sl _ => 20 - (intOf sl).toNat)
  case atStart => exact ⟨0, _, 1, 1, rfl, by omega, inferInstance, inferInstance, kp _ _ _, kp _ _ _, rfl⟩
  case round =>
    obtain ⟨i, bb, pn, pd, rfl, hi, _, _, _, _, HS⟩ := hrel
    by_cases hlt : i < k - 1
    · obtain ⟨Z, hZ⟩ : ∃ Z, fMultiply pn pd (fC s).1 (fC s).2 = Z := ⟨_, rfl⟩
      have HZ := Lib.hid hZ
      have HN : Hid (rnP (fC s) ((false || !KK.isSome) || !E.isSome) (i + 1) = (bb || !Z.isSome, (Z.getD (0, 0)).1, (Z.getD (0, 0)).2)) := by
        show _ = _
        simp only [rnP]
        rw [HS.out, hZ]
      have hik : (i : Int) < (k : Int) - 1 := by omega
      clear HS hZ
      go_upto_region 8 with fail
      refine wp_region_held_drew (S := (fun w' => w'.cell? ⟨g5, 0, none⟩ = some (.slice (some ⟨b, o, none⟩) s.len c) ∧ w'.cell? ⟨b, o + 1, none⟩ = some (.int .i64 (fC s).1) ∧ w'.cell? ⟨b, o + 2, none⟩ = some (.int .i64 (fC s).2))) (by kernel_rfl) ?hSn3_ (fun hHeld => ?hRn3_)
      case hSn3_ => (exact ⟨has1, Q1 _ inferInstance, Q2 _ inferInstance⟩)
      refine wpAnyH_take (i := 0) (v := ?vn3_1) rfl (by kernel_rfl) (by kernel_rfl) (by kernel_rfl) (fun _ _ _ h => h) (Or.inl ⟨by rfl, ?hyn3_1⟩) (by assumption) ?hRn3_1
      case hyn3_1 => (intro w hSw; (try dsimp only at hSw); go_simp; (try with_reducible rfl))
      try simp only [Act.put, zp1, zp2, zp3, zp4, zp5, zp6]
      refine wpAnyH_take (i := 2) (v := ?vn3_2) rfl (by kernel_rfl) (by kernel_rfl) (by kernel_rfl) (fun _ _ _ h => h) (Or.inl ⟨by rfl, ?hyn3_2⟩) (by assumption) ?hRn3_2
      case hyn3_2 => (intro w hSw; (try dsimp only at hSw); go_simp; (try with_reducible rfl))
      try simp only [Act.put, zp1, zp2, zp3, zp4, zp5, zp6]
      refine wpAnyH_take (i := 3) (v := ?vn3_3) rfl (by kernel_rfl) (by kernel_rfl) (by kernel_rfl) (fun _ _ _ h => h) (Or.inl ⟨by rfl, ?hyn3_3⟩) (by assumption) ?hRn3_3
      case hyn3_3 => (intro w hSw; (try dsimp only at hSw); go_simp; (try with_reducible rfl))
      try simp only [Act.put, zp1, zp2, zp3, zp4, zp5, zp6]
      refine wpAnyH_take (i := 4) (v := ?vn3_4) rfl (by kernel_rfl) (by kernel_rfl) (by kernel_rfl) (fun _ _ _ h => h) (Or.inl ⟨by rfl, ?hyn3_4⟩) (by assumption) ?hRn3_4
      case hyn3_4 => (intro w hSw; (try dsimp only at hSw); go_simp; (try with_reducible rfl))
      try simp only [Act.put, zp1, zp2, zp3, zp4, zp5, zp6]
      refine wpAnyH_take (i := 5) (v := ?vn3_5) rfl (by kernel_rfl) (by kernel_rfl) (by kernel_rfl) (fun _ _ _ h => h) (Or.inl ⟨by rfl, ?hyn3_5⟩) (by assumption) ?hRn3_5
      case hyn3_5 => (intro w hSw; (try dsimp only at hSw); go_simp; (try with_reducible rfl))
      try simp only [Act.put, zp1, zp2, zp3, zp4, zp5, zp6]
      refine wpAnyH_take (i := 6) (v := ?vn3_6) rfl (by kernel_rfl) (by kernel_rfl) (by kernel_rfl) (fun _ _ _ h => h) (Or.inl ⟨by rfl, ?hyn3_6⟩) (by assumption) ?hRn3_6
      case hyn3_6 => (intro w hSw; (try dsimp only at hSw); go_simp; (try with_reducible rfl))
      try simp only [Act.put, zp1, zp2, zp3, zp4, zp5, zp6]
      refine wpAnyH_ready (rs := [1]) (by kernel_rfl) (by simp) ?_
      refine AllReadyH.cons rfl (fun K hK => ?_) AllReadyH.nil
      go_simp
      refine hK.out _ _ ?hSn3_7 (fun hHeld => ?hRn3_7)
      case hSn3_7 => ((try dsimp only); exact ⟨has1, Q1 _ inferInstance, Q2 _ inferInstance⟩)
      clear hK K
      try simp only [Act.put, zp1, zp2, zp3, zp4, zp5, zp6]
      refine wpAnyH_ready (rs := [7]) (by kernel_rfl) (by simp) ?_
      refine AllReadyH.cons rfl (fun K hK => ?_) AllReadyH.nil
      go_simp
      ((go_at_call 55; refine (MultiplyFractions_any _ _ _ _ _).mono ?_; rintro e46 w46 ⟨he, hb⟩; rw [HZ.out, optF_eq] at he; subst he; haveI : Bel _ w46 := ⟨hb⟩; clear hb))
      go_wp2_with fail
      refine hK.out _ _ ?hSn3_8 (fun hHeld => ?hRn3_8)
      case hSn3_8 => ((try dsimp only); exact ⟨has1, Q1 _ inferInstance, Q2 _ inferInstance⟩)
      clear hK K
      try simp only [Act.put, zp1, zp2, zp3, zp4, zp5, zp6]
      refine wpAnyH_take (i := 8) (v := ?vn3_9) rfl (by kernel_rfl) (by kernel_rfl) (by kernel_rfl) (fun _ _ _ h => h) (Or.inl ⟨by rfl, ?hyn3_9⟩) (by assumption) ?hRn3_9
      case hyn3_9 => (intro w hSw; (try dsimp only at hSw); go_simp; (try with_reducible rfl))
      try simp only [Act.put, zp1, zp2, zp3, zp4, zp5, zp6]
      refine wpAnyH_take (i := 9) (v := ?vn3_10) rfl (by kernel_rfl) (by kernel_rfl) (by kernel_rfl) (fun _ _ _ h => h) (Or.inl ⟨by rfl, ?hyn3_10⟩) (by assumption) ?hRn3_10
      case hyn3_10 => (intro w hSw; (try dsimp only at hSw); go_simp; (try with_reducible rfl))
      try simp only [Act.put, zp1, zp2, zp3, zp4, zp5, zp6]
      refine wpAnyH_ready (rs := [10]) (by kernel_rfl) (by simp) ?_
      refine AllReadyH.cons rfl (fun K hK => ?_) AllReadyH.nil
      go_simp
      ((go_at_call 83; refine (mcoef_any _ _ _ _ mb _ has1 has_frozen).mono ?_; rintro e28 w28 ⟨rfl, hb⟩; haveI := belM hb; clear hb))
      go_wp2_with fail
      refine hK.out _ _ ?hSn3_11 (fun hHeld => ?hRn3_11)
      case hSn3_11 => ((try dsimp only); exact ⟨has1, Q1 _ inferInstance, Q2 _ inferInstance⟩)
      clear hK K
      try simp only [Act.put, zp1, zp2, zp3, zp4, zp5, zp6]
      refine wpAnyH_ready (rs := [11]) (by kernel_rfl) (by simp) ?_
      refine AllReadyH.cons rfl (fun K hK => ?_) AllReadyH.nil
      go_simp
      refine hK.out _ _ ?hSn3_12 (fun hHeld => ?hRn3_12)
      case hSn3_12 => ((try dsimp only); exact ⟨has1, Q1 _ inferInstance, Q2 _ inferInstance⟩)
      clear hK K
      try simp only [Act.put, zp1, zp2, zp3, zp4, zp5, zp6]
      refine wpAnyH_done (by kernel_rfl) ?_ _
      all_goals
        go_wp2
        exact ⟨⟨i + 1, _, _, _, by go_num, by omega, inferInstance, inferInstance, kp _ _ _, kp _ _ _, HN⟩, by simp [intOf]; omega⟩
    · have hkk : i = k - 1 := by omega
      have h := HS.out
      rw [hkk, HQ.out] at h
      injection h with h1 h
      injection h with h2' h3
      subst h1 h2' h3
      have hik : ¬ (i : Int) < (k : Int) - 1 := by omega
      clear HS hlt hkk
      go_upto_region 10 with fail
      go_cut [] (fun wx => Has wx mb (.cells #[.bool (qb || !M.isSome)] 61 (0, 0)) ∧ Has wx g10 (.cells #[.int .i64 (M.getD (0, 0)).1, .int .i64 (M.getD (0, 0)).2] 68 (0, 0)) ∧ Kp v10 (XU (XE mb) (XE g10)) wx ∧ Kp w (XE mb) wx)
      case first => as_aux_lemma =>
        refine wp_region_held_drew (S := (fun w' => w'.cell? ⟨g5, 0, none⟩ = some (.slice (some ⟨b, o, none⟩) s.len c))) (by kernel_rfl) ?hSn4_ (fun hHeld => ?hRn4_)
        case hSn4_ => (exact has1)
        refine wpAnyH_take (i := 0) (v := ?vn4_1) rfl (by kernel_rfl) (by kernel_rfl) (by kernel_rfl) (fun _ _ _ h => h) (Or.inl ⟨by rfl, ?hyn4_1⟩) (by assumption) ?hRn4_1
        case hyn4_1 => (intro w hSw; (try dsimp only at hSw); go_simp; (try with_reducible rfl))
        try simp only [Act.put, zp1, zp2, zp3, zp4, zp5, zp6]
        refine wpAnyH_take (i := 2) (v := ?vn4_2) rfl (by kernel_rfl) (by kernel_rfl) (by kernel_rfl) (fun _ _ _ h => h) (Or.inl ⟨by rfl, ?hyn4_2⟩) (by assumption) ?hRn4_2
        case hyn4_2 => (intro w hSw; (try dsimp only at hSw); go_simp; (try with_reducible rfl))
        try simp only [Act.put, zp1, zp2, zp3, zp4, zp5, zp6]
        refine wpAnyH_ready (rs := [1, 3]) (by kernel_rfl) (by simp) ?_
        refine AllReadyH.cons rfl (fun K hK => ?bn4_3) (AllReadyH.cons rfl (fun K hK => ?bn4_4) (AllReadyH.nil))
        case' bn4_3 =>
          go_simp
          refine hK.out _ _ ?hSn4_5 (fun hHeld => ?hRn4_5)
          case hSn4_5 => ((try dsimp only); exact has1)
          clear hK K
          try simp only [Act.put, zp1, zp2, zp3, zp4, zp5, zp6]
          refine wpAnyH_ready (rs := [3]) (by kernel_rfl) (by simp) ?_
          refine AllReadyH.cons rfl (fun K hK => ?_) AllReadyH.nil
          go_simp
          ((go_at_call 85; refine (whole_any (k : Int) _).mono ?_; rintro e54 w54 ⟨rfl, hb⟩; haveI : Bel _ w54 := ⟨hb⟩; clear hb))
          go_wp2_with fail
          refine hK.out _ _ ?hSn4_6 (fun hHeld => ?hRn4_6)
          case hSn4_6 => ((try dsimp only); exact has1)
          clear hK K
          try simp only [Act.put, zp1, zp2, zp3, zp4, zp5, zp6]
          refine wpAnyH_ready (rs := [4]) (by kernel_rfl) (by simp) ?_
          refine AllReadyH.cons rfl (fun K hK => ?_) AllReadyH.nil
          go_simp
          ((go_at_call 55; refine (MultiplyFractions_any _ _ _ _ _).mono ?_; rintro e55 w55 ⟨he, hb⟩; rw [HM.out, optF_eq] at he; subst he; haveI : Bel _ w55 := ⟨hb⟩; clear hb))
          go_wp2_with fail
          refine hK.out _ _ ?hSn4_7 (fun hHeld => ?hRn4_7)
          case hSn4_7 => ((try dsimp only); exact has1)
          clear hK K
          try simp only [Act.put, zp1, zp2, zp3, zp4, zp5, zp6]
          refine wpAnyH_take (i := 5) (v := ?vn4_8) rfl (by kernel_rfl) (by kernel_rfl) (by kernel_rfl) (fun _ _ _ h => h) (Or.inl ⟨by rfl, ?hyn4_8⟩) (by assumption) ?hRn4_8
          case hyn4_8 => (intro w hSw; (try dsimp only at hSw); go_simp; (try with_reducible rfl))
          try simp only [Act.put, zp1, zp2, zp3, zp4, zp5, zp6]
          refine wpAnyH_take (i := 6) (v := ?vn4_9) rfl (by kernel_rfl) (by kernel_rfl) (by kernel_rfl) (fun _ _ _ h => h) (Or.inl ⟨by rfl, ?hyn4_9⟩) (by assumption) ?hRn4_9
          case hyn4_9 => (intro w hSw; (try dsimp only at hSw); go_simp; (try with_reducible rfl))
          try simp only [Act.put, zp1, zp2, zp3, zp4, zp5, zp6]
          refine wpAnyH_ready (rs := [7]) (by kernel_rfl) (by simp) ?_
          refine AllReadyH.cons rfl (fun K hK => ?_) AllReadyH.nil
          go_simp
          ((go_at_call 83; refine (mcoef_any _ _ _ _ mb _ has1 has_frozen).mono ?_; rintro e28 w28 ⟨rfl, hb⟩; haveI := belM hb; clear hb))
          go_wp2_with fail
          refine hK.out _ _ ?hSn4_10 (fun hHeld => ?hRn4_10)
          case hSn4_10 => ((try dsimp only); exact has1)
          clear hK K
          try simp only [Act.put, zp1, zp2, zp3, zp4, zp5, zp6]
          refine wpAnyH_ready (rs := [8]) (by kernel_rfl) (by simp) ?_
          refine AllReadyH.cons rfl (fun K hK => ?_) AllReadyH.nil
          go_simp
          refine hK.out _ _ ?hSn4_11 (fun hHeld => ?hRn4_11)
          case hSn4_11 => ((try dsimp only); exact has1)
          clear hK K
          try simp only [Act.put, zp1, zp2, zp3, zp4, zp5, zp6]
          refine wpAnyH_done (by kernel_rfl) ?_ _
        case' bn4_4 =>
          go_simp
          ((go_at_call 85; refine (whole_any (k : Int) _).mono ?_; rintro e54 w54 ⟨rfl, hb⟩; haveI : Bel _ w54 := ⟨hb⟩; clear hb))
          go_wp2_with fail
          refine hK.out _ _ ?hSn4_12 (fun hHeld => ?hRn4_12)
          case hSn4_12 => ((try dsimp only); exact has1)
          clear hK K
          try simp only [Act.put, zp1, zp2, zp3, zp4, zp5, zp6]
          refine wpAnyH_ready (rs := [1]) (by kernel_rfl) (by simp) ?_
          refine AllReadyH.cons rfl (fun K hK => ?_) AllReadyH.nil
          go_simp
          refine hK.out _ _ ?hSn4_13 (fun hHeld => ?hRn4_13)
          case hSn4_13 => ((try dsimp only); exact has1)
          clear hK K
          try simp only [Act.put, zp1, zp2, zp3, zp4, zp5, zp6]
          refine wpAnyH_ready (rs := [4]) (by kernel_rfl) (by simp) ?_
          refine AllReadyH.cons rfl (fun K hK => ?_) AllReadyH.nil
          go_simp
          ((go_at_call 55; refine (MultiplyFractions_any _ _ _ _ _).mono ?_; rintro e55 w55 ⟨he, hb⟩; rw [HM.out, optF_eq] at he; subst he; haveI : Bel _ w55 := ⟨hb⟩; clear hb))
          go_wp2_with fail
          refine hK.out _ _ ?hSn4_14 (fun hHeld => ?hRn4_14)
          case hSn4_14 => ((try dsimp only); exact has1)
          clear hK K
          try simp only [Act.put, zp1, zp2, zp3, zp4, zp5, zp6]
          refine wpAnyH_take (i := 5) (v := ?vn4_15) rfl (by kernel_rfl) (by kernel_rfl) (by kernel_rfl) (fun _ _ _ h => h) (Or.inl ⟨by rfl, ?hyn4_15⟩) (by assumption) ?hRn4_15
          case hyn4_15 => (intro w hSw; (try dsimp only at hSw); go_simp; (try with_reducible rfl))
          try simp only [Act.put, zp1, zp2, zp3, zp4, zp5, zp6]
          refine wpAnyH_take (i := 6) (v := ?vn4_16) rfl (by kernel_rfl) (by kernel_rfl) (by kernel_rfl) (fun _ _ _ h => h) (Or.inl ⟨by rfl, ?hyn4_16⟩) (by assumption) ?hRn4_16
          case hyn4_16 => (intro w hSw; (try dsimp only at hSw); go_simp; (try with_reducible rfl))
          try simp only [Act.put, zp1, zp2, zp3, zp4, zp5, zp6]
          refine wpAnyH_ready (rs := [7]) (by kernel_rfl) (by simp) ?_
          refine AllReadyH.cons rfl (fun K hK => ?_) AllReadyH.nil
          go_simp
          ((go_at_call 83; refine (mcoef_any _ _ _ _ mb _ has1 has_frozen).mono ?_; rintro e28 w28 ⟨rfl, hb⟩; haveI := belM hb; clear hb))
          go_wp2_with fail
          refine hK.out _ _ ?hSn4_17 (fun hHeld => ?hRn4_17)
          case hSn4_17 => ((try dsimp only); exact has1)
          clear hK K
          try simp only [Act.put, zp1, zp2, zp3, zp4, zp5, zp6]
          refine wpAnyH_ready (rs := [8]) (by kernel_rfl) (by simp) ?_
          refine AllReadyH.cons rfl (fun K hK => ?_) AllReadyH.nil
          go_simp
          refine hK.out _ _ ?hSn4_18 (fun hHeld => ?hRn4_18)
          case hSn4_18 => ((try dsimp only); exact has1)
          clear hK K
          try simp only [Act.put, zp1, zp2, zp3, zp4, zp5, zp6]
          refine wpAnyH_done (by kernel_rfl) ?_ _
        all_goals
          go_wp2
          go_meet
          exact ⟨inferInstance, inferInstance, kp _ _ _, kp _ _ _⟩
      case rest =>
      rename World => wz
      obtain ⟨_, _, _, _⟩ := hcut
      go_upto_region 11 with fail
      refine wp_region_held_drew (S := (fun w' => w'.cell? ⟨g9, 0, none⟩ = some (.slice A33 (E.getD .nil).len c33) ∧ w'.cell? ⟨g6, 0, none⟩ = some (.slice (some ⟨b', o', none⟩) r.len c') ∧ w'.cell? ⟨b', o' + 1, none⟩ = some (.int .i64 (fC r).1) ∧ w'.cell? ⟨b', o' + 2, none⟩ = some (.int .i64 (fC r).2) ∧ w'.cell? ⟨g10, 0, none⟩ = some (.int .i64 (M.getD (0, 0)).1) ∧ w'.cell? ⟨g10, 1, none⟩ = some (.int .i64 (M.getD (0, 0)).2))) (by kernel_rfl) ?hSn5_ (fun hHeld => ?hRn5_)
      case hSn5_ => (exact ⟨has1, has1, P1 _ inferInstance, P2 _ inferInstance, has2⟩)
      refine wpAnyH_take (i := 0) (v := ?vn5_1) rfl (by kernel_rfl) (by kernel_rfl) (by kernel_rfl) (fun _ _ _ h => h) (Or.inl ⟨by rfl, ?hyn5_1⟩) (by assumption) ?hRn5_1
      case hyn5_1 => (intro w hSw; (try dsimp only at hSw); go_simp; (try with_reducible rfl))
      try simp only [Act.put, zp1, zp2, zp3, zp4, zp5, zp6]
      refine wpAnyH_take (i := 1) (v := ?vn5_2) rfl (by kernel_rfl) (by kernel_rfl) (by kernel_rfl) (fun _ _ _ h => h) (Or.inl ⟨by rfl, ?hyn5_2⟩) (by assumption) ?hRn5_2
      case hyn5_2 => (intro w hSw; (try dsimp only at hSw); go_simp; (try with_reducible rfl))
      try simp only [Act.put, zp1, zp2, zp3, zp4, zp5, zp6]
      refine wpAnyH_take (i := 2) (v := ?vn5_3) rfl (by kernel_rfl) (by kernel_rfl) (by kernel_rfl) (fun _ _ _ h => h) (Or.inl ⟨by rfl, ?hyn5_3⟩) (by assumption) ?hRn5_3
      case hyn5_3 => (intro w hSw; (try dsimp only at hSw); go_simp; (try with_reducible rfl))
      try simp only [Act.put, zp1, zp2, zp3, zp4, zp5, zp6]
      refine wpAnyH_take (i := 3) (v := ?vn5_4) rfl (by kernel_rfl) (by kernel_rfl) (by kernel_rfl) (fun _ _ _ h => h) (Or.inl ⟨by rfl, ?hyn5_4⟩) (by assumption) ?hRn5_4
      case hyn5_4 => (intro w hSw; (try dsimp only at hSw); go_simp; (try with_reducible rfl))
      try simp only [Act.put, zp1, zp2, zp3, zp4, zp5, zp6]
      refine wpAnyH_take (i := 4) (v := ?vn5_5) rfl (by kernel_rfl) (by kernel_rfl) (by kernel_rfl) (fun _ _ _ h => h) (Or.inl ⟨by rfl, ?hyn5_5⟩) (by assumption) ?hRn5_5
      case hyn5_5 => (intro w hSw; (try dsimp only at hSw); go_simp; (try with_reducible rfl))
      try simp only [Act.put, zp1, zp2, zp3, zp4, zp5, zp6]
      refine wpAnyH_take (i := 5) (v := ?vn5_6) rfl (by kernel_rfl) (by kernel_rfl) (by kernel_rfl) (fun _ _ _ h => h) (Or.inl ⟨by rfl, ?hyn5_6⟩) (by assumption) ?hRn5_6
      case hyn5_6 => (intro w hSw; (try dsimp only at hSw); go_simp; (try with_reducible rfl))
      try simp only [Act.put, zp1, zp2, zp3, zp4, zp5, zp6]
      refine wpAnyH_take (i := 6) (v := ?vn5_7) rfl (by kernel_rfl) (by kernel_rfl) (by kernel_rfl) (fun _ _ _ h => h) (Or.inl ⟨by rfl, ?hyn5_7⟩) (by assumption) ?hRn5_7
      case hyn5_7 => (intro w hSw; (try dsimp only at hSw); go_simp; (try with_reducible rfl))
      try simp only [Act.put, zp1, zp2, zp3, zp4, zp5, zp6]
      refine wpAnyH_take (i := 7) (v := ?vn5_8) rfl (by kernel_rfl) (by kernel_rfl) (by kernel_rfl) (fun _ _ _ h => h) (Or.inl ⟨by rfl, ?hyn5_8⟩) (by assumption) ?hRn5_8
      case hyn5_8 => (intro w hSw; (try dsimp only at hSw); go_simp; (try with_reducible rfl))
      try simp only [Act.put, zp1, zp2, zp3, zp4, zp5, zp6]
      refine wpAnyH_ready (rs := [8]) (by kernel_rfl) (by simp) ?_
      refine AllReadyH.cons rfl (fun K hK => ?_) AllReadyH.nil
      go_simp
      ((go_at_call 86; refine (DivideFractions_any _ _ _ _ _).mono ?_; rintro e67 w67 ⟨he, hb⟩; rw [HC.out, optF_eq] at he; subst he; haveI : Bel _ w67 := ⟨hb⟩; clear hb))
      go_wp2_with fail
      refine hK.out _ _ ?hSn5_9 (fun hHeld => ?hRn5_9)
      case hSn5_9 => ((try dsimp only); exact ⟨has1, has1, P1 _ inferInstance, P2 _ inferInstance, has2⟩)
      clear hK K
      try simp only [Act.put, zp1, zp2, zp3, zp4, zp5, zp6]
      refine wpAnyH_take (i := 9) (v := ?vn5_10) rfl (by kernel_rfl) (by kernel_rfl) (by kernel_rfl) (fun _ _ _ h => h) (Or.inl ⟨by rfl, ?hyn5_10⟩) (by assumption) ?hRn5_10
      case hyn5_10 => (intro w hSw; (try dsimp only at hSw); go_simp; (try with_reducible rfl))
      try simp only [Act.put, zp1, zp2, zp3, zp4, zp5, zp6]
      refine wpAnyH_take (i := 10) (v := ?vn5_11) rfl (by kernel_rfl) (by kernel_rfl) (by kernel_rfl) (fun _ _ _ h => h) (Or.inl ⟨by rfl, ?hyn5_11⟩) (by assumption) ?hRn5_11
      case hyn5_11 => (intro w hSw; (try dsimp only at hSw); go_simp; (try with_reducible rfl))
      try simp only [Act.put, zp1, zp2, zp3, zp4, zp5, zp6]
      refine wpAnyH_ready (rs := [11]) (by kernel_rfl) (by simp) ?_
      refine AllReadyH.cons rfl (fun K hK => ?_) AllReadyH.nil
      go_simp
      ((go_at_call 83; refine (mcoef_any _ _ _ _ mb _ has1 has_frozen).mono ?_; rintro e28 w28 ⟨rfl, hb⟩; haveI := belM hb; clear hb))
      go_wp2_with fail
      refine hK.out _ _ ?hSn5_12 (fun hHeld => ?hRn5_12)
      case hSn5_12 => ((try dsimp only); exact ⟨has1, has1, P1 _ inferInstance, P2 _ inferInstance, has2⟩)
      clear hK K
      try simp only [Act.put, zp1, zp2, zp3, zp4, zp5, zp6]
      refine wpAnyH_ready (rs := [12]) (by kernel_rfl) (by simp) ?_
      refine AllReadyH.cons rfl (fun K hK => ?_) AllReadyH.nil
      go_simp
      ((go_at_call 56; refine (term_any (E.getD .nil) _ _ (XL v8) A33 c33 _ (fun k hk => Nat.lt_of_lt_of_le hk (LeB.h)) (trx (XL v8) _ A33) HI.out.1 HI.out.2).mono ?_; rintro e71 w71 ⟨A71, c71, he, hs, hb⟩; rw [HT.out] at he hs; subst he; haveI : Bel _ w71 := ⟨hb⟩; haveI := Tr.arg hs; clear hs hb))
      go_wp2_with fail
      refine hK.out _ _ ?hSn5_13 (fun hHeld => ?hRn5_13)
      case hSn5_13 => ((try dsimp only); exact ⟨has1, has1, P1 _ inferInstance, P2 _ inferInstance, has2⟩)
      clear hK K
      try simp only [Act.put, zp1, zp2, zp3, zp4, zp5, zp6]
      refine wpAnyH_ready (rs := [13]) (by kernel_rfl) (by simp) ?_
      refine AllReadyH.cons rfl (fun K hK => ?_) AllReadyH.nil
      go_simp
      refine hK.out _ _ ?hSn5_14 (fun hHeld => ?hRn5_14)
      case hSn5_14 => ((try dsimp only); exact ⟨has1, has1, P1 _ inferInstance, P2 _ inferInstance, has2⟩)
      clear hK K
      try simp only [Act.put, zp1, zp2, zp3, zp4, zp5, zp6]
      refine wpAnyH_done (by kernel_rfl) ?_ _
      all_goals
        go_wp2
        refine bodyPost_ret (v := .agg #[.slice A71 t.len c71]) (by simp [results, Tryz.results35, go_sem]) rfl ?_
        exact ⟨A71, c71, rfl, (trx (XL w) _ A71 : SSl (XL w) _ t A71 c71), marked w _ mb⟩
end Go.Proofs.YtonlfnbjbmgegaaGreat
