/-
  Walks: quotients, the program's.
-/
import Derived.Test.YtphabopnbcgodaaGreatQF
import Derived.Test.YtphabopnbcgodaaGreatWCoef
import Derived.Test.YtphabopnbcgodaaGreatEN
namespace Go.Proofs.YtphabopnbcgodaaGreat
open Go.RowKit
open List renaming getElem_toArray → zp1, getElem_cons_zero → zp2, getElem_cons_succ → zp3, setIfInBounds_toArray → zp4, set_cons_zero → zp5, set_cons_succ → zp6
set_option linter.unusedSimpArgs false
set_option linter.unusedVariables false

theorem kpi_cell {w W : World} {mb b i : Nat} [k : KpI w (XE mb) W] (hb : b < w.heap.size) (hn : b ≠ mb) {u : Value} (h : w.cell? ⟨b, i, none⟩ = some u) : W.cell? ⟨b, i, none⟩ = some u := by
  have := k.h.2.2.2.2 b hb hn
  exact (World.cell?_of_block this).trans h
theorem optF_getD (o : Option (Int × Int)) (h : ∀ p q, o = some (p, q) → FOk p q) : I64 (o.getD (0, 0)).1 ∧ I64 (o.getD (0, 0)).2 := by
  rcases o with _ | ⟨p, q⟩
  · simp [I64]
  · exact fracOk_I64 (h p q rfl)
theorem getD_len {o : Option Sur} (h : ∀ z, o = some z → sGood z = true) : (o.getD .nil).len ≤ 60 := by
  rcases o with _ | z
  · simp [Sur.len]
  · exact (sGood_len (h z rfl)).1
theorem kp_cellX {v W : World} {S : Nat → Prop} {b i : Nat} [k : Kp v S W] [x : XNot S b] (hb : b < v.heap.size) {u : Value} (h : v.cell? ⟨b, i, none⟩ = some u) : W.cell? ⟨b, i, none⟩ = some u :=
  (World.cell?_of_block (k.h.2.2.2.2 b hb x.h)).trans h
attribute [local go_sem high] has_cell has_frozen
/-- the first term of a number that has one -/
theorem SSl.at0 {X : Nat → Prop} {w : World} {x : Sur} {A : Option Addr} {c : Nat} (h : SSl X w x A c) (hx : x.len ≠ 0) : ∃ b o A1 d1, A = some ⟨b, o, none⟩ ∧ w.cell? ⟨b, o, none⟩ = some (.slice A1 (fE x).len d1) ∧ w.cell? ⟨b, o + 1, none⟩ = some (.int .i64 (fC x).1) ∧ w.cell? ⟨b, o + 2, none⟩ = some (.int .i64 (fC x).2) ∧ SSl X w (fE x) A1 d1 ∧ ¬ X b ∧ b < w.heap.size := by
  obtain ⟨b, o, e, n, d, A1, d1, hA, hk, q0, q1, q2, se, _, _, hX, hb⟩ := h.at_ (k := 0) (by omega)
  cases x with
  | nil => exact absurd rfl hx
  | cons e' n' d' r =>
    simp only [Sur.drop] at hk
    injection hk with h1 h2 h3
    subst h1 h2 h3
    simp only [Nat.zero_mul, Nat.add_zero] at q0 q1 q2
    exact ⟨b, o, A1, d1, hA, q0, q1, q2, se, hX, hb⟩
theorem divGo_step {y q r : Sur} {n k : Nat} (hk : k < n) (nr : r.len ≠ 0) : divGo y (n - k) false q r = divGo y (n - (k + 1)) (dvB q r y) ((dvQ q r y).getD .nil) ((dvR r y).getD .nil) := by
  rw [show n - k = (n - (k + 1)) + 1 by omega]
  simp only [divGo]
  rw [if_pos ⟨trivial, nr⟩]
set_option synthInstance.maxHeartbeats 2000000 in
set_option synthInstance.maxSize 4000 in
set_option maxHeartbeats 8000000 in
set_option maxRecDepth 100000 in
theorem divided_any (x y : Sur) (n : Int) (mb : Nat) (X Y : Nat → Prop) (A A' : Option Addr) (c c' : Nat) (w : World) [hmb : Has w mb (.cells #[.bool false] 77 (0, 0))] [hX : XOk X mb] [hY : XOk Y mb] (sx : SSl X w x A c) (sy : SSl Y w y A' c') (gx : sGood x = true) (gy : sGood y = true) (ny : y.len ≠ 0) (h0 : 0 ≤ n) (h12 : n ≤ 12) :
    Calls Tryz.prog 88 #[.pointer (some ⟨mb, 0, none⟩), .agg #[.slice A x.len c], .agg #[.slice A' y.len c'], .int .i64 n] w fun e w' => ∃ A1 c1 A2 c2, e = .returned (.tuple #[.agg #[.slice A1 (divGo y n.toNat false .nil x).2.1.len c1], .agg #[.slice A2 (divGo y n.toNat false .nil x).2.2.len c2]]) ∧ SFresh w.heap.size w' (divGo y n.toNat false .nil x).2.1 A1 c1 ∧ SFresh w.heap.size w' (divGo y n.toNat false .nil x).2.2 A2 c2 ∧ Below w.heap.size (w.setCell ⟨mb, 0, none⟩ (.bool (divGo y n.toNat false .nil x).1)) w' := by
  obtain ⟨N, hN⟩ : ∃ N : Nat, n = N := ⟨n.toNat, by omega⟩
  subst hN
  rw [Int.toNat_natCast]
  have hltm : mb < w.heap.size := has_lt hmb.h
  obtain ⟨b', o', A2, d2, hA', p0, p1, p2, se2, hXb', hbl'⟩ := sy.at0 ny
  have hbm' : b' ≠ mb := fun h => hXb' (h ▸ hY.h)
  haveI := Tr.arg sx
  haveI := Tr.arg sy
  haveI := Tr.arg se2
  have ly := sy.cap
  have ly' := sy.le
  unfold maxLen at ly
  clear sx sy se2
  subst hA'
  have HN : Hid (x.nodes ≤ 100) := by have := (sGood_len gx).2.1; show _ ≤ _; omega
  have HGY := Lib.hid gy
  have HLy : Hid ((fE y).len ≤ 1099511627776) := by have := (sGood_len (fE_good gy)).1; show _ ≤ _; omega
  have hy0 : (0 : Int) < (y.len : Int) := by omega
  have hy0n : 0 < y.len := by omega
  clear ny
  go_enter Tryz.func88, Tryz.ntmps88
  go_wp2_with (first | ((with_reducible refine at_dst (N := 5) rfl ?_); refine ev_box (cs := #[.slice A x.len c]) (t := 26) rfl ?hr5 ?_; (case hr5 => first | (go_simp; done) | (go_simp; rfl)); intro g5 v5 _ _ _ _) | ((with_reducible refine at_dst (N := 6) rfl ?_); refine ev_box (cs := #[.slice (some ⟨b', o', none⟩) y.len c']) (t := 26) rfl ?hr6 ?_; (case hr6 => first | (go_simp; done) | (go_simp; rfl)); intro g6 v6 _ _ _ _) | ((with_reducible refine at_dst (N := 8) rfl ?_); refine ev_box (cs := #[.slice none 0 0]) (t := 26) rfl ?hr8 ?_; (case hr8 => first | (go_simp; done) | (go_simp; rfl)); intro g8 v8 _ _ _ _) | ((with_reducible refine at_dst (N := 9) rfl ?_); refine ev_box (cs := #[.slice none 0 0]) (t := 26) rfl ?hr9 ?_; (case hr9 => first | (go_simp; done) | (go_simp; rfl)); intro g9 v9 _ _ _ _) | (go_at_call 100; refine (clone_any 100 (by omega) x _ A c _ HN.out (tr _ A)).mono ?_; rintro e18 w18 ⟨A18, c18, rfl, hf, hb⟩; haveI : Bel _ w18 := ⟨hb⟩; haveI := Fs.of hf; clear hf hb) | ((with_reducible refine at_dst (N := 10) rfl ?_); refine ev_box (cs := #[.slice none 0 0]) (t := 26) rfl ?hr10 ?_; (case hr10 => first | (go_simp; done) | (go_simp; rfl)); intro g10 v10 _ _ _ _) | ((with_reducible refine at_dst (N := 11) rfl ?_); refine ev_box (cs := #[.slice none 0 0]) (t := 26) rfl ?hr11 ?_; (case hr11 => first | (go_simp; done) | (go_simp; rfl)); intro g11 v11 _ _ _ _))
  haveI : LtB b' w := ⟨hbl'⟩
  haveI : NeB b' mb := ⟨hbm'⟩
  haveI : NeB b' g10 := ⟨by have h1 := (GeB.h (w := w) (g := g10)); omega⟩
  haveI : NeB b' g11 := ⟨by have h1 := (GeB.h (w := w) (g := g11)); omega⟩
  have hbl11 : b' < v11.heap.size := Nat.lt_of_lt_of_le hbl' (LeB.h (w := w) (W := v11))
  have p0' := kpi_cell (k := (inferInstance : KpI w (XE mb) v11)) hbl' hbm' p0
  have p1' := kpi_cell (k := (inferInstance : KpI w (XE mb) v11)) hbl' hbm' p1
  have p2' := kpi_cell (k := (inferInstance : KpI w (XE mb) v11)) hbl' hbm' p2
  clear p0 p1 p2
  have HP := Lib.hid (And.intro p0' (And.intro p1' p2'))
  clear p0' p1' p2'
  go_loopw [12] (fun s wr => ∃ (k : Nat) (bad : Bool) (Aq : Option Addr) (cq : Nat) (q : Sur) (Ar : Option Addr) (cr : Nat) (r : Sur), s = .int .i64 k ∧ k ≤ N ∧ Has wr mb (.cells #[.bool bad] 77 (0, 0)) ∧ Has wr g10 (.cells #[.slice Aq q.len cq] 26 (0, 0)) ∧ Has wr g11 (.cells #[.slice Ar r.len cr] 26 (0, 0)) ∧
      Fs wr Aq v9 wr q cq ∧ Fs wr Ar v9 wr r cr ∧ Kp v11 (XU (XE mb) (XU (XE g10) (XE g11))) wr ∧ Hid (divGo y N false .nil x = divGo y (N - k) bad q r)) (fun s _ => 20 - (intOf s).toNat)
  case atStart => exact ⟨0, false, none, 0, .nil, A18, c18, x, rfl, by omega, inferInstance, inferInstance, inferInstance, Fs.nil, Fs.lp, kp _ _ _, rfl⟩
  case round =>
    obtain ⟨k, bad, Aq, cq, q, Ar, cr, r, rfl, hk, _, _, _, _, _, _, HS⟩ := hrel
    by_cases hgo : k < N ∧ bad = false ∧ r.len ≠ 0
    · obtain ⟨hk1, rfl, nr⟩ := hgo
      obtain ⟨b, o, A1, d1, hAr, q0, q1, q2, se1, hXb, hbl⟩ := (tr wr Ar).at0 nr
      have hbm : b ≠ mb := fun h => hXb (.inr (by rw [h]; exact Nat.lt_of_lt_of_le hltm (LeB.h (w := w) (W := v9))))
      haveI := Tr.arg se1
      clear se1
      obtain ⟨E, hE⟩ : ∃ E, dvE r y = E := ⟨_, rfl⟩
      obtain ⟨C, hC⟩ : ∃ C, dvC r y = C := ⟨_, rfl⟩
      obtain ⟨t, ht⟩ : ∃ t, dvT r y = t := ⟨_, rfl⟩
      obtain ⟨Q, hQ⟩ : ∃ Q, dvQ q r y = Q := ⟨_, rfl⟩
      obtain ⟨M, hM⟩ : ∃ M, dvM r y = M := ⟨_, rfl⟩
      obtain ⟨R, hR⟩ : ∃ R, dvR r y = R := ⟨_, rfl⟩
      have HN2 : Hid (divGo y N false .nil x = divGo y (N - (k + 1)) (((((false || !E.isSome) || !C.isSome) || !Q.isSome) || !M.isSome) || !R.isSome) (Q.getD .nil) (R.getD .nil)) := by
        show _ = _
        rw [HS.out, divGo_step hk1 nr]
        unfold dvB
        rw [hE, hC, hQ, hM, hR]
      have HE : Hid (subS (fE r) (fE y) = E) := hE
      have HC : Hid (fDivide (fC r).1 (fC r).2 (fC y).1 (fC y).2 = C) := hC
      have HT : Hid (termP (E.getD .nil) (C.getD (0, 0)).1 (C.getD (0, 0)).2 = t) := by show _ = _; rw [← hE, ← hC]; exact ht
      have HQ : Hid (addS q t = Q) := by show _ = _; rw [← ht]; exact hQ
      have HM : Hid (mulS t y = M) := by show _ = _; rw [← ht]; exact hM
      have HR : Hid (subS r (M.getD .nil) = R) := by show _ = _; rw [← hM]; exact hR
      have HI : Hid (I64 (C.getD (0, 0)).1 ∧ I64 (C.getD (0, 0)).2) := optF_getD C fun p q h => by
        have := hC.trans h
        exact two_ok this
      have HLm : Hid ((M.getD .nil).len ≤ 1099511627776) := by
        have := getD_len (o := M) fun z h => (mulS_some (HM.out.trans h)).2.2.2
        show _ ≤ _; omega
      clear HS hE hC ht hQ hM hR
      have Q0 : ∀ W, KpI wr (XE mb) W → W.cell? ⟨b, o, none⟩ = some (.slice A1 (fE r).len d1) := fun W h => kpi_cell (k := h) hbl hbm q0
      have Q1 : ∀ W, KpI wr (XE mb) W → W.cell? ⟨b, o + 1, none⟩ = some (.int .i64 (fC r).1) := fun W h => kpi_cell (k := h) hbl hbm q1
      have Q2 : ∀ W, KpI wr (XE mb) W → W.cell? ⟨b, o + 2, none⟩ = some (.int .i64 (fC r).2) := fun W h => kpi_cell (k := h) hbl hbm q2
      have hblr : b' < wr.heap.size := Nat.lt_of_lt_of_le hbl11 (LeB.h (w := v11) (W := wr))
      have P0 : ∀ W, KpI wr (XE mb) W → W.cell? ⟨b', o', none⟩ = some (.slice A2 (fE y).len d2) := fun W h => kpi_cell (k := h) hblr hbm' (kp_cellX hbl11 HP.out.1)
      have P1 : ∀ W, KpI wr (XE mb) W → W.cell? ⟨b', o' + 1, none⟩ = some (.int .i64 (fC y).1) := fun W h => kpi_cell (k := h) hblr hbm' (kp_cellX hbl11 HP.out.2.1)
      have P2 : ∀ W, KpI wr (XE mb) W → W.cell? ⟨b', o' + 2, none⟩ = some (.int .i64 (fC y).2) := fun W h => kpi_cell (k := h) hblr hbm' (kp_cellX hbl11 HP.out.2.2)
      have hr0 : (0 : Int) < (r.len : Int) := by omega
      have hr0n : 0 < r.len := by omega
      have hr1 : ((r.len : Int) == 0) = false := by simp; omega
      have hkn : (k : Int) < (N : Int) := by omega
      clear q0 q1 q2 nr
      subst hAr
      go_upto_region 5 with (first | (go_at_call 87; refine (isNothing_any r (some ⟨b, o, none⟩) cr _).mono ?_; rintro e31 w31 ⟨rfl, hb⟩; haveI : Bel _ w31 := ⟨hb⟩; clear hb))
      go_cut [13] (fun s13 wx => ∃ (A47 : Option Addr) (c47 g13 : Nat), s13 = .pointer (some ⟨g13, 0, none⟩) ∧ Has wx mb (.cells #[.bool (false || !E.isSome)] 77 (0, 0)) ∧ Has wx g13 (.cells #[.slice A47 (E.getD .nil).len c47] 26 (0, 0)) ∧ Fs wx A47 wr wx (E.getD .nil) c47 ∧ Kp wr (XE mb) wx ∧ GeB wr g13)
      case first => as_aux_lemma =>
        refine wp_region_held_drew (S := (fun w' => w'.cell? ⟨g11, 0, none⟩ = some (.slice (some ⟨b, o, none⟩) r.len cr) ∧ w'.cell? ⟨g6, 0, none⟩ = some (.slice (some ⟨b', o', none⟩) y.len c') ∧ w'.cell? ⟨b, o, none⟩ = some (.slice A1 (fE r).len d1) ∧ w'.cell? ⟨b', o', none⟩ = some (.slice A2 (fE y).len d2))) (by kernel_rfl) ?hSn1_ (fun hHeld => ?hRn1_)
        case hSn1_ => (exact ⟨has1, has1, Q0 _ inferInstance, P0 _ inferInstance⟩)
        refine wpAnyH_take (i := 0) (v := ?vn1_1) rfl (by kernel_rfl) (by kernel_rfl) (by kernel_rfl) (fun _ _ _ h => h) (Or.inl ⟨by rfl, ?hyn1_1⟩) (by assumption) ?hRn1_1
        case hyn1_1 => (intro w hSw; (try dsimp only at hSw); go_simp; (try with_reducible rfl))
        try simp only [Act.put, zp1, zp2, zp3, zp4, zp5, zp6]
        refine wpAnyH_take (i := 1) (v := ?vn1_2) rfl (by kernel_rfl) (by kernel_rfl) (by kernel_rfl) (fun _ _ _ h => h) (Or.inl ⟨by rfl, ?hyn1_2⟩) (by assumption) ?hRn1_2
        case hyn1_2 => (intro w hSw; (try dsimp only at hSw); go_simp; (try with_reducible rfl))
        try simp only [Act.put, zp1, zp2, zp3, zp4, zp5, zp6]
        refine wpAnyH_take (i := 2) (v := ?vn1_3) rfl (by kernel_rfl) (by kernel_rfl) (by kernel_rfl) (fun _ _ _ h => h) (Or.inl ⟨by rfl, ?hyn1_3⟩) (by assumption) ?hRn1_3
        case hyn1_3 => (intro w hSw; (try dsimp only at hSw); go_simp; (try with_reducible rfl))
        try simp only [Act.put, zp1, zp2, zp3, zp4, zp5, zp6]
        refine wpAnyH_take (i := 3) (v := ?vn1_4) rfl (by kernel_rfl) (by kernel_rfl) (by kernel_rfl) (fun _ _ _ h => h) (Or.inl ⟨by rfl, ?hyn1_4⟩) (by assumption) ?hRn1_4
        case hyn1_4 => (intro w hSw; (try dsimp only at hSw); go_simp; (try with_reducible rfl))
        try simp only [Act.put, zp1, zp2, zp3, zp4, zp5, zp6]
        refine wpAnyH_take (i := 4) (v := ?vn1_5) rfl (by kernel_rfl) (by kernel_rfl) (by kernel_rfl) (fun _ _ _ h => h) (Or.inl ⟨by rfl, ?hyn1_5⟩) (by assumption) ?hRn1_5
        case hyn1_5 => (intro w hSw; (try dsimp only at hSw); go_simp; (try with_reducible rfl))
        try simp only [Act.put, zp1, zp2, zp3, zp4, zp5, zp6]
        refine wpAnyH_take (i := 5) (v := ?vn1_6) rfl (by kernel_rfl) (by kernel_rfl) (by kernel_rfl) (fun _ _ _ h => h) (Or.inl ⟨by rfl, ?hyn1_6⟩) (by assumption) ?hRn1_6
        case hyn1_6 => (intro w hSw; (try dsimp only at hSw); go_simp; (try with_reducible rfl))
        try simp only [Act.put, zp1, zp2, zp3, zp4, zp5, zp6]
        refine wpAnyH_take (i := 6) (v := ?vn1_7) rfl (by kernel_rfl) (by kernel_rfl) (by kernel_rfl) (fun _ _ _ h => h) (Or.inl ⟨by rfl, ?hyn1_7⟩) (by assumption) ?hRn1_7
        case hyn1_7 => (intro w hSw; (try dsimp only at hSw); go_simp; (try with_reducible rfl))
        try simp only [Act.put, zp1, zp2, zp3, zp4, zp5, zp6]
        refine wpAnyH_take (i := 7) (v := ?vn1_8) rfl (by kernel_rfl) (by kernel_rfl) (by kernel_rfl) (fun _ _ _ h => h) (Or.inl ⟨by rfl, ?hyn1_8⟩) (by assumption) ?hRn1_8
        case hyn1_8 => (intro w hSw; (try dsimp only at hSw); go_simp; (try with_reducible rfl))
        try simp only [Act.put, zp1, zp2, zp3, zp4, zp5, zp6]
        refine wpAnyH_take (i := 8) (v := ?vn1_9) rfl (by kernel_rfl) (by kernel_rfl) (by kernel_rfl) (fun _ _ _ h => h) (Or.inl ⟨by rfl, ?hyn1_9⟩) (by assumption) ?hRn1_9
        case hyn1_9 => (intro w hSw; (try dsimp only at hSw); go_simp; (try with_reducible rfl))
        try simp only [Act.put, zp1, zp2, zp3, zp4, zp5, zp6]
        refine wpAnyH_take (i := 9) (v := ?vn1_10) rfl (by kernel_rfl) (by kernel_rfl) (by kernel_rfl) (fun _ _ _ h => h) (Or.inl ⟨by rfl, ?hyn1_10⟩) (by assumption) ?hRn1_10
        case hyn1_10 => (intro w hSw; (try dsimp only at hSw); go_simp; (try with_reducible rfl))
        try simp only [Act.put, zp1, zp2, zp3, zp4, zp5, zp6]
        refine wpAnyH_take (i := 10) (v := ?vn1_11) rfl (by kernel_rfl) (by kernel_rfl) (by kernel_rfl) (fun _ _ _ h => h) (Or.inl ⟨by rfl, ?hyn1_11⟩) (by assumption) ?hRn1_11
        case hyn1_11 => (intro w hSw; (try dsimp only at hSw); go_simp; (try with_reducible rfl))
        try simp only [Act.put, zp1, zp2, zp3, zp4, zp5, zp6]
        refine wpAnyH_ready (rs := [11, 12]) (by kernel_rfl) (by simp) ?_
        refine AllReadyH.cons rfl (fun K hK => ?bn1_12) (AllReadyH.cons rfl (fun K hK => ?bn1_13) (AllReadyH.nil))
        case' bn1_12 =>
          go_simp
          (((fail_if_success (have _q := A47)); go_at_call 103; (with_reducible refine (msub_any (fE r) (fE y) false mb _ _ A1 A2 d1 d2 _ (tr _ A1) (tr _ A2) has1 has_frozen HLy.out).mono ?_); rintro e47 w47 ⟨A47, c47, he, hf, hb⟩; rw [HE.out] at he hf hb; subst he; haveI := belM hb; haveI := Fs.of hf; clear hf hb))
          go_wp2_with fail
          refine hK.out _ _ ?hSn1_14 (fun hHeld => ?hRn1_14)
          case hSn1_14 => ((try dsimp only); exact ⟨has1, has1, Q0 _ inferInstance, P0 _ inferInstance⟩)
          clear hK K
          try simp only [Act.put, zp1, zp2, zp3, zp4, zp5, zp6]
          refine wpAnyH_ready (rs := [12]) (by kernel_rfl) (by simp) ?_
          refine AllReadyH.cons rfl (fun K hK => ?_) AllReadyH.nil
          go_simp
          refine hK.out _ _ ?hSn1_15 (fun hHeld => ?hRn1_15)
          case hSn1_15 => ((try dsimp only); exact ⟨has1, has1, Q0 _ inferInstance, P0 _ inferInstance⟩)
          clear hK K
          try simp only [Act.put, zp1, zp2, zp3, zp4, zp5, zp6]
          refine wpAnyH_ready (rs := [13]) (by kernel_rfl) (by simp) ?_
          refine AllReadyH.cons rfl (fun K hK => ?_) AllReadyH.nil
          go_simp
          refine hK.out _ _ ?hSn1_16 (fun hHeld => ?hRn1_16)
          case hSn1_16 => ((try dsimp only); exact ⟨has1, has1, Q0 _ inferInstance, P0 _ inferInstance⟩)
          clear hK K
          try simp only [Act.put, zp1, zp2, zp3, zp4, zp5, zp6]
          refine wpAnyH_done (by kernel_rfl) ?_ _
        case' bn1_13 =>
          go_simp
          refine hK.out _ _ ?hSn1_17 (fun hHeld => ?hRn1_17)
          case hSn1_17 => ((try dsimp only); exact ⟨has1, has1, Q0 _ inferInstance, P0 _ inferInstance⟩)
          clear hK K
          try simp only [Act.put, zp1, zp2, zp3, zp4, zp5, zp6]
          refine wpAnyH_ready (rs := [11]) (by kernel_rfl) (by simp) ?_
          refine AllReadyH.cons rfl (fun K hK => ?_) AllReadyH.nil
          go_simp
          (((fail_if_success (have _q := A47)); go_at_call 103; (with_reducible refine (msub_any (fE r) (fE y) false mb _ _ A1 A2 d1 d2 _ (tr _ A1) (tr _ A2) has1 has_frozen HLy.out).mono ?_); rintro e47 w47 ⟨A47, c47, he, hf, hb⟩; rw [HE.out] at he hf hb; subst he; haveI := belM hb; haveI := Fs.of hf; clear hf hb))
          go_wp2_with fail
          refine hK.out _ _ ?hSn1_18 (fun hHeld => ?hRn1_18)
          case hSn1_18 => ((try dsimp only); exact ⟨has1, has1, Q0 _ inferInstance, P0 _ inferInstance⟩)
          clear hK K
          try simp only [Act.put, zp1, zp2, zp3, zp4, zp5, zp6]
          refine wpAnyH_ready (rs := [13]) (by kernel_rfl) (by simp) ?_
          refine AllReadyH.cons rfl (fun K hK => ?_) AllReadyH.nil
          go_simp
          refine hK.out _ _ ?hSn1_19 (fun hHeld => ?hRn1_19)
          case hSn1_19 => ((try dsimp only); exact ⟨has1, has1, Q0 _ inferInstance, P0 _ inferInstance⟩)
          clear hK K
          try simp only [Act.put, zp1, zp2, zp3, zp4, zp5, zp6]
          refine wpAnyH_done (by kernel_rfl) ?_ _
        all_goals
          go_wp2
          go_meet
          exact ⟨A47, c47, _, rfl, inferInstance, inferInstance, Fs.lp, kp _ _ _, inferInstance⟩
      case rest =>
      rename World => wx
      obtain ⟨A47, c47, g13, rfl, _, _, _, _, _⟩ := hcut
      have hmr : mb < wr.heap.size := Nat.lt_of_lt_of_le hltm (LeB.h (w := w) (W := wr))
      haveI : NeB g13 mb := ⟨by have h1 := (GeB.h (w := wr) (g := g13)); omega⟩
      go_upto_region 6 with fail
      go_cut [14] (fun s14 wy => ∃ g14 : Nat, s14 = .pointer (some ⟨g14, 0, none⟩) ∧ Has wy mb (.cells #[.bool ((false || !E.isSome) || !C.isSome)] 77 (0, 0)) ∧ Has wy g14 (.cells #[.int .i64 (C.getD (0, 0)).1, .int .i64 (C.getD (0, 0)).2] 28 (0, 0)) ∧ Kp wx (XE mb) wy ∧ GeB wx g14)
      case first => as_aux_lemma =>
        refine wp_region_held_drew (S := (fun w' => w'.cell? ⟨g11, 0, none⟩ = some (.slice (some ⟨b, o, none⟩) r.len cr) ∧ w'.cell? ⟨g6, 0, none⟩ = some (.slice (some ⟨b', o', none⟩) y.len c') ∧ w'.cell? ⟨b, o + 1, none⟩ = some (.int .i64 (fC r).1) ∧ w'.cell? ⟨b, o + 2, none⟩ = some (.int .i64 (fC r).2) ∧ w'.cell? ⟨b', o' + 1, none⟩ = some (.int .i64 (fC y).1) ∧ w'.cell? ⟨b', o' + 2, none⟩ = some (.int .i64 (fC y).2))) (by kernel_rfl) ?hSn2_ (fun hHeld => ?hRn2_)
        case hSn2_ => (exact ⟨has1, has1, Q1 _ inferInstance, Q2 _ inferInstance, P1 _ inferInstance, P2 _ inferInstance⟩)
        refine wpAnyH_take (i := 0) (v := ?vn2_1) rfl (by kernel_rfl) (by kernel_rfl) (by kernel_rfl) (fun _ _ _ h => h) (Or.inl ⟨by rfl, ?hyn2_1⟩) (by assumption) ?hRn2_1
        case hyn2_1 => (intro w hSw; (try dsimp only at hSw); go_simp; (try with_reducible rfl))
        try simp only [Act.put, zp1, zp2, zp3, zp4, zp5, zp6]
        refine wpAnyH_take (i := 1) (v := ?vn2_2) rfl (by kernel_rfl) (by kernel_rfl) (by kernel_rfl) (fun _ _ _ h => h) (Or.inl ⟨by rfl, ?hyn2_2⟩) (by assumption) ?hRn2_2
        case hyn2_2 => (intro w hSw; (try dsimp only at hSw); go_simp; (try with_reducible rfl))
        try simp only [Act.put, zp1, zp2, zp3, zp4, zp5, zp6]
        refine wpAnyH_take (i := 2) (v := ?vn2_3) rfl (by kernel_rfl) (by kernel_rfl) (by kernel_rfl) (fun _ _ _ h => h) (Or.inl ⟨by rfl, ?hyn2_3⟩) (by assumption) ?hRn2_3
        case hyn2_3 => (intro w hSw; (try dsimp only at hSw); go_simp; (try with_reducible rfl))
        try simp only [Act.put, zp1, zp2, zp3, zp4, zp5, zp6]
        refine wpAnyH_take (i := 3) (v := ?vn2_4) rfl (by kernel_rfl) (by kernel_rfl) (by kernel_rfl) (fun _ _ _ h => h) (Or.inl ⟨by rfl, ?hyn2_4⟩) (by assumption) ?hRn2_4
        case hyn2_4 => (intro w hSw; (try dsimp only at hSw); go_simp; (try with_reducible rfl))
        try simp only [Act.put, zp1, zp2, zp3, zp4, zp5, zp6]
        refine wpAnyH_take (i := 4) (v := ?vn2_5) rfl (by kernel_rfl) (by kernel_rfl) (by kernel_rfl) (fun _ _ _ h => h) (Or.inl ⟨by rfl, ?hyn2_5⟩) (by assumption) ?hRn2_5
        case hyn2_5 => (intro w hSw; (try dsimp only at hSw); go_simp; (try with_reducible rfl))
        try simp only [Act.put, zp1, zp2, zp3, zp4, zp5, zp6]
        refine wpAnyH_take (i := 5) (v := ?vn2_6) rfl (by kernel_rfl) (by kernel_rfl) (by kernel_rfl) (fun _ _ _ h => h) (Or.inl ⟨by rfl, ?hyn2_6⟩) (by assumption) ?hRn2_6
        case hyn2_6 => (intro w hSw; (try dsimp only at hSw); go_simp; (try with_reducible rfl))
        try simp only [Act.put, zp1, zp2, zp3, zp4, zp5, zp6]
        refine wpAnyH_take (i := 6) (v := ?vn2_7) rfl (by kernel_rfl) (by kernel_rfl) (by kernel_rfl) (fun _ _ _ h => h) (Or.inl ⟨by rfl, ?hyn2_7⟩) (by assumption) ?hRn2_7
        case hyn2_7 => (intro w hSw; (try dsimp only at hSw); go_simp; (try with_reducible rfl))
        try simp only [Act.put, zp1, zp2, zp3, zp4, zp5, zp6]
        refine wpAnyH_take (i := 7) (v := ?vn2_8) rfl (by kernel_rfl) (by kernel_rfl) (by kernel_rfl) (fun _ _ _ h => h) (Or.inl ⟨by rfl, ?hyn2_8⟩) (by assumption) ?hRn2_8
        case hyn2_8 => (intro w hSw; (try dsimp only at hSw); go_simp; (try with_reducible rfl))
        try simp only [Act.put, zp1, zp2, zp3, zp4, zp5, zp6]
        refine wpAnyH_take (i := 8) (v := ?vn2_9) rfl (by kernel_rfl) (by kernel_rfl) (by kernel_rfl) (fun _ _ _ h => h) (Or.inl ⟨by rfl, ?hyn2_9⟩) (by assumption) ?hRn2_9
        case hyn2_9 => (intro w hSw; (try dsimp only at hSw); go_simp; (try with_reducible rfl))
        try simp only [Act.put, zp1, zp2, zp3, zp4, zp5, zp6]
        refine wpAnyH_take (i := 9) (v := ?vn2_10) rfl (by kernel_rfl) (by kernel_rfl) (by kernel_rfl) (fun _ _ _ h => h) (Or.inl ⟨by rfl, ?hyn2_10⟩) (by assumption) ?hRn2_10
        case hyn2_10 => (intro w hSw; (try dsimp only at hSw); go_simp; (try with_reducible rfl))
        try simp only [Act.put, zp1, zp2, zp3, zp4, zp5, zp6]
        refine wpAnyH_take (i := 10) (v := ?vn2_11) rfl (by kernel_rfl) (by kernel_rfl) (by kernel_rfl) (fun _ _ _ h => h) (Or.inl ⟨by rfl, ?hyn2_11⟩) (by assumption) ?hRn2_11
        case hyn2_11 => (intro w hSw; (try dsimp only at hSw); go_simp; (try with_reducible rfl))
        try simp only [Act.put, zp1, zp2, zp3, zp4, zp5, zp6]
        refine wpAnyH_ready (rs := [11, 15]) (by kernel_rfl) (by simp) ?_
        refine AllReadyH.cons rfl (fun K hK => ?bn2_12) (AllReadyH.cons rfl (fun K hK => ?bn2_13) (AllReadyH.nil))
        case' bn2_12 =>
          go_simp
          ((go_at_call 55; refine (DivideFractions_any _ _ _ _ _).mono ?_; rintro e59 w59 ⟨he, hb⟩; rw [HC.out, optF_eq] at he; subst he; haveI : Bel _ w59 := ⟨hb⟩; clear hb))
          go_wp2_with fail
          refine hK.out _ _ ?hSn2_14 (fun hHeld => ?hRn2_14)
          case hSn2_14 => ((try dsimp only); exact ⟨has1, has1, Q1 _ inferInstance, Q2 _ inferInstance, P1 _ inferInstance, P2 _ inferInstance⟩)
          clear hK K
          try simp only [Act.put, zp1, zp2, zp3, zp4, zp5, zp6]
          refine wpAnyH_take (i := 12) (v := ?vn2_15) rfl (by kernel_rfl) (by kernel_rfl) (by kernel_rfl) (fun _ _ _ h => h) (Or.inl ⟨by rfl, ?hyn2_15⟩) (by assumption) ?hRn2_15
          case hyn2_15 => (intro w hSw; (try dsimp only at hSw); go_simp; (try with_reducible rfl))
          try simp only [Act.put, zp1, zp2, zp3, zp4, zp5, zp6]
          refine wpAnyH_take (i := 13) (v := ?vn2_16) rfl (by kernel_rfl) (by kernel_rfl) (by kernel_rfl) (fun _ _ _ h => h) (Or.inl ⟨by rfl, ?hyn2_16⟩) (by assumption) ?hRn2_16
          case hyn2_16 => (intro w hSw; (try dsimp only at hSw); go_simp; (try with_reducible rfl))
          try simp only [Act.put, zp1, zp2, zp3, zp4, zp5, zp6]
          refine wpAnyH_ready (rs := [14, 15]) (by kernel_rfl) (by simp) ?_
          refine AllReadyH.cons rfl (fun K hK => ?bn2_17) (AllReadyH.cons rfl (fun K hK => ?bn2_18) (AllReadyH.nil))
          case' bn2_17 =>
            go_simp
            ((go_at_call 54; refine (mcoef_any _ _ _ _ mb _ has1 has_frozen).mono ?_; rintro e62 w62 ⟨rfl, hb⟩; haveI := belM hb; clear hb))
            go_wp2_with fail
            refine hK.out _ _ ?hSn2_19 (fun hHeld => ?hRn2_19)
            case hSn2_19 => ((try dsimp only); exact ⟨has1, has1, Q1 _ inferInstance, Q2 _ inferInstance, P1 _ inferInstance, P2 _ inferInstance⟩)
            clear hK K
            try simp only [Act.put, zp1, zp2, zp3, zp4, zp5, zp6]
            refine wpAnyH_ready (rs := [15]) (by kernel_rfl) (by simp) ?_
            refine AllReadyH.cons rfl (fun K hK => ?_) AllReadyH.nil
            go_simp
            refine hK.out _ _ ?hSn2_20 (fun hHeld => ?hRn2_20)
            case hSn2_20 => ((try dsimp only); exact ⟨has1, has1, Q1 _ inferInstance, Q2 _ inferInstance, P1 _ inferInstance, P2 _ inferInstance⟩)
            clear hK K
            try simp only [Act.put, zp1, zp2, zp3, zp4, zp5, zp6]
            refine wpAnyH_ready (rs := [16]) (by kernel_rfl) (by simp) ?_
            refine AllReadyH.cons rfl (fun K hK => ?_) AllReadyH.nil
            go_simp
            refine hK.out _ _ ?hSn2_21 (fun hHeld => ?hRn2_21)
            case hSn2_21 => ((try dsimp only); exact ⟨has1, has1, Q1 _ inferInstance, Q2 _ inferInstance, P1 _ inferInstance, P2 _ inferInstance⟩)
            clear hK K
            try simp only [Act.put, zp1, zp2, zp3, zp4, zp5, zp6]
            refine wpAnyH_done (by kernel_rfl) ?_ _
          case' bn2_18 =>
            go_simp
            refine hK.out _ _ ?hSn2_22 (fun hHeld => ?hRn2_22)
            case hSn2_22 => ((try dsimp only); exact ⟨has1, has1, Q1 _ inferInstance, Q2 _ inferInstance, P1 _ inferInstance, P2 _ inferInstance⟩)
            clear hK K
            try simp only [Act.put, zp1, zp2, zp3, zp4, zp5, zp6]
            refine wpAnyH_ready (rs := [14]) (by kernel_rfl) (by simp) ?_
            refine AllReadyH.cons rfl (fun K hK => ?_) AllReadyH.nil
            go_simp
            ((go_at_call 54; refine (mcoef_any _ _ _ _ mb _ has1 has_frozen).mono ?_; rintro e62 w62 ⟨rfl, hb⟩; haveI := belM hb; clear hb))
            go_wp2_with fail
            refine hK.out _ _ ?hSn2_23 (fun hHeld => ?hRn2_23)
            case hSn2_23 => ((try dsimp only); exact ⟨has1, has1, Q1 _ inferInstance, Q2 _ inferInstance, P1 _ inferInstance, P2 _ inferInstance⟩)
            clear hK K
            try simp only [Act.put, zp1, zp2, zp3, zp4, zp5, zp6]
            refine wpAnyH_ready (rs := [16]) (by kernel_rfl) (by simp) ?_
            refine AllReadyH.cons rfl (fun K hK => ?_) AllReadyH.nil
            go_simp
            refine hK.out _ _ ?hSn2_24 (fun hHeld => ?hRn2_24)
            case hSn2_24 => ((try dsimp only); exact ⟨has1, has1, Q1 _ inferInstance, Q2 _ inferInstance, P1 _ inferInstance, P2 _ inferInstance⟩)
            clear hK K
            try simp only [Act.put, zp1, zp2, zp3, zp4, zp5, zp6]
            refine wpAnyH_done (by kernel_rfl) ?_ _
        case' bn2_13 =>
          go_simp
          refine hK.out _ _ ?hSn2_25 (fun hHeld => ?hRn2_25)
          case hSn2_25 => ((try dsimp only); exact ⟨has1, has1, Q1 _ inferInstance, Q2 _ inferInstance, P1 _ inferInstance, P2 _ inferInstance⟩)
          clear hK K
          try simp only [Act.put, zp1, zp2, zp3, zp4, zp5, zp6]
          refine wpAnyH_ready (rs := [11]) (by kernel_rfl) (by simp) ?_
          refine AllReadyH.cons rfl (fun K hK => ?_) AllReadyH.nil
          go_simp
          ((go_at_call 55; refine (DivideFractions_any _ _ _ _ _).mono ?_; rintro e59 w59 ⟨he, hb⟩; rw [HC.out, optF_eq] at he; subst he; haveI : Bel _ w59 := ⟨hb⟩; clear hb))
          go_wp2_with fail
          refine hK.out _ _ ?hSn2_26 (fun hHeld => ?hRn2_26)
          case hSn2_26 => ((try dsimp only); exact ⟨has1, has1, Q1 _ inferInstance, Q2 _ inferInstance, P1 _ inferInstance, P2 _ inferInstance⟩)
          clear hK K
          try simp only [Act.put, zp1, zp2, zp3, zp4, zp5, zp6]
          refine wpAnyH_take (i := 12) (v := ?vn2_27) rfl (by kernel_rfl) (by kernel_rfl) (by kernel_rfl) (fun _ _ _ h => h) (Or.inl ⟨by rfl, ?hyn2_27⟩) (by assumption) ?hRn2_27
          case hyn2_27 => (intro w hSw; (try dsimp only at hSw); go_simp; (try with_reducible rfl))
          try simp only [Act.put, zp1, zp2, zp3, zp4, zp5, zp6]
          refine wpAnyH_take (i := 13) (v := ?vn2_28) rfl (by kernel_rfl) (by kernel_rfl) (by kernel_rfl) (fun _ _ _ h => h) (Or.inl ⟨by rfl, ?hyn2_28⟩) (by assumption) ?hRn2_28
          case hyn2_28 => (intro w hSw; (try dsimp only at hSw); go_simp; (try with_reducible rfl))
          try simp only [Act.put, zp1, zp2, zp3, zp4, zp5, zp6]
          refine wpAnyH_ready (rs := [14]) (by kernel_rfl) (by simp) ?_
          refine AllReadyH.cons rfl (fun K hK => ?_) AllReadyH.nil
          go_simp
          ((go_at_call 54; refine (mcoef_any _ _ _ _ mb _ has1 has_frozen).mono ?_; rintro e62 w62 ⟨rfl, hb⟩; haveI := belM hb; clear hb))
          go_wp2_with fail
          refine hK.out _ _ ?hSn2_29 (fun hHeld => ?hRn2_29)
          case hSn2_29 => ((try dsimp only); exact ⟨has1, has1, Q1 _ inferInstance, Q2 _ inferInstance, P1 _ inferInstance, P2 _ inferInstance⟩)
          clear hK K
          try simp only [Act.put, zp1, zp2, zp3, zp4, zp5, zp6]
          refine wpAnyH_ready (rs := [16]) (by kernel_rfl) (by simp) ?_
          refine AllReadyH.cons rfl (fun K hK => ?_) AllReadyH.nil
          go_simp
          refine hK.out _ _ ?hSn2_30 (fun hHeld => ?hRn2_30)
          case hSn2_30 => ((try dsimp only); exact ⟨has1, has1, Q1 _ inferInstance, Q2 _ inferInstance, P1 _ inferInstance, P2 _ inferInstance⟩)
          clear hK K
          try simp only [Act.put, zp1, zp2, zp3, zp4, zp5, zp6]
          refine wpAnyH_done (by kernel_rfl) ?_ _
        all_goals
          go_wp2
          go_meet
          exact ⟨_, rfl, inferInstance, inferInstance, kp _ _ _, inferInstance⟩
      case rest =>
      rename World => wy
      obtain ⟨g14, rfl, _, _, _, _⟩ := hcut
      haveI : NeB g14 mb := ⟨by have h1 := (GeB.h (w := wx) (g := g14)); have h2 := (LeB.h (w := wr) (W := wx)); omega⟩
      go_upto_region 8 with (first | (go_at_call 80; refine (term_any (E.getD .nil) _ _ (XL wr) A47 c47 _ (fun k hk => Nat.lt_of_lt_of_le hk (LeB.h)) (trx (XL wr) _ A47) HI.out.1 HI.out.2).mono ?_; rintro e65 w65 ⟨A65, c65, he, hs, hb⟩; rw [HT.out] at he hs; subst he; haveI : Bel _ w65 := ⟨hb⟩; haveI := Tr.arg hs; clear hs hb) | ((with_reducible refine at_dst (N := 15) rfl ?_); refine ev_box (cs := #[.slice none 0 0]) (t := 26) rfl ?hr15 ?_; (case hr15 => first | (go_simp; done) | (go_simp; rfl)); intro g15 v15 _ _ _ _))
      refine wp_region_held_drew (S := (fun w' => w'.cell? ⟨g15, 0, none⟩ = some (.slice A65 t.len c65) ∧ w'.cell? ⟨g6, 0, none⟩ = some (.slice (some ⟨b', o', none⟩) y.len c'))) (by kernel_rfl) ?hSn3_ (fun hHeld => ?hRn3_)
      case hSn3_ => (exact ⟨has1, has1⟩)
      refine wpAnyH_take (i := 0) (v := ?vn3_1) rfl (by kernel_rfl) (by kernel_rfl) (by kernel_rfl) (fun _ _ _ h => h) (Or.inl ⟨by rfl, ?hyn3_1⟩) (by assumption) ?hRn3_1
      case hyn3_1 => (intro w hSw; (try dsimp only at hSw); go_simp; (try with_reducible rfl))
      try simp only [Act.put, zp1, zp2, zp3, zp4, zp5, zp6]
      refine wpAnyH_take (i := 2) (v := ?vn3_2) rfl (by kernel_rfl) (by kernel_rfl) (by kernel_rfl) (fun _ _ _ h => h) (Or.inl ⟨by rfl, ?hyn3_2⟩) (by assumption) ?hRn3_2
      case hyn3_2 => (intro w hSw; (try dsimp only at hSw); go_simp; (try with_reducible rfl))
      try simp only [Act.put, zp1, zp2, zp3, zp4, zp5, zp6]
      refine wpAnyH_take (i := 4) (v := ?vn3_3) rfl (by kernel_rfl) (by kernel_rfl) (by kernel_rfl) (fun _ _ _ h => h) (Or.inl ⟨by rfl, ?hyn3_3⟩) (by assumption) ?hRn3_3
      case hyn3_3 => (intro w hSw; (try dsimp only at hSw); go_simp; (try with_reducible rfl))
      try simp only [Act.put, zp1, zp2, zp3, zp4, zp5, zp6]
      refine wpAnyH_take (i := 6) (v := ?vn3_4) rfl (by kernel_rfl) (by kernel_rfl) (by kernel_rfl) (fun _ _ _ h => h) (Or.inl ⟨by rfl, ?hyn3_4⟩) (by assumption) ?hRn3_4
      case hyn3_4 => (intro w hSw; (try dsimp only at hSw); go_simp; (try with_reducible rfl))
      try simp only [Act.put, zp1, zp2, zp3, zp4, zp5, zp6]
      refine wpAnyH_take (i := 7) (v := ?vn3_5) rfl (by kernel_rfl) (by kernel_rfl) (by kernel_rfl) (fun _ _ _ h => h) (Or.inl ⟨by rfl, ?hyn3_5⟩) (by assumption) ?hRn3_5
      case hyn3_5 => (intro w hSw; (try dsimp only at hSw); go_simp; (try with_reducible rfl))
      try simp only [Act.put, zp1, zp2, zp3, zp4, zp5, zp6]
      refine wpAnyH_take (i := 8) (v := ?vn3_6) rfl (by kernel_rfl) (by kernel_rfl) (by kernel_rfl) (fun _ _ _ h => h) (Or.inl ⟨by rfl, ?hyn3_6⟩) (by assumption) ?hRn3_6
      case hyn3_6 => (intro w hSw; (try dsimp only at hSw); go_simp; (try with_reducible rfl))
      try simp only [Act.put, zp1, zp2, zp3, zp4, zp5, zp6]
      refine wpAnyH_ready (rs := [1, 5]) (by kernel_rfl) (by simp) ?_
      refine AllReadyH.cons rfl (fun K hK => ?bn3_7) (AllReadyH.cons rfl (fun K hK => ?bn3_8) (AllReadyH.nil))
      case' bn3_7 =>
        go_simp
        refine hK.out _ _ ?hSn3_9 (fun hHeld => ?hRn3_9)
        case hSn3_9 => ((try dsimp only); exact ⟨has1, has1⟩)
        clear hK K
        try simp only [Act.put, zp1, zp2, zp3, zp4, zp5, zp6]
        refine wpAnyH_ready (rs := [3, 5]) (by kernel_rfl) (by simp) ?_
        refine AllReadyH.cons rfl (fun K hK => ?bn3_10) (AllReadyH.cons rfl (fun K hK => ?bn3_11) (AllReadyH.nil))
        case' bn3_10 =>
          go_simp
          ((go_at_call 58; (with_reducible refine (madd_any q t _ mb _ _ Aq A65 _ _ _ (tr _ Aq) (tr _ A65) has1 has_frozen).mono ?_); rintro e69 w69 ⟨A69, c69, he, hf, hb⟩; rw [HQ.out] at he hf hb; subst he; haveI := belM hb; haveI := Fs.of hf; clear hf hb))
          go_wp2_with fail
          refine hK.out _ _ ?hSn3_12 (fun hHeld => ?hRn3_12)
          case hSn3_12 => ((try dsimp only); exact ⟨has1, has1⟩)
          clear hK K
          try simp only [Act.put, zp1, zp2, zp3, zp4, zp5, zp6]
          refine wpAnyH_ready (rs := [5, 9]) (by kernel_rfl) (by simp) ?_
          refine AllReadyH.cons rfl (fun K hK => ?bn3_13) (AllReadyH.cons rfl (fun K hK => ?bn3_14) (AllReadyH.nil))
          case' bn3_13 =>
            go_simp
            refine hK.out _ _ ?hSn3_15 (fun hHeld => ?hRn3_15)
            case hSn3_15 => ((try dsimp only); exact ⟨has1, has1⟩)
            clear hK K
            try simp only [Act.put, zp1, zp2, zp3, zp4, zp5, zp6]
            refine wpAnyH_ready (rs := [9]) (by kernel_rfl) (by simp) ?_
            refine AllReadyH.cons rfl (fun K hK => ?_) AllReadyH.nil
            go_simp
            ((go_at_call 53; (with_reducible refine (mmul_any t y _ mb _ _ A65 (some ⟨b', o', none⟩) _ _ _ (tr _ A65) (tr _ (some ⟨b', o', none⟩)) has1 has_frozen).mono ?_); rintro e75 w75 ⟨A75, c75, he, hf, hb⟩; rw [HM.out] at he hf hb; subst he; haveI := belM hb; haveI := Fs.of hf; clear hf hb))
            go_wp2_with fail
            refine hK.out _ _ ?hSn3_16 (fun hHeld => ?hRn3_16)
            case hSn3_16 => ((try dsimp only); exact ⟨has1, has1⟩)
            clear hK K
            try simp only [Act.put, zp1, zp2, zp3, zp4, zp5, zp6]
            refine wpAnyH_ready (rs := [10]) (by kernel_rfl) (by simp) ?_
            refine AllReadyH.cons rfl (fun K hK => ?_) AllReadyH.nil
            go_simp
            ((go_at_call 103; (with_reducible refine (msub_any r (M.getD .nil) _ mb _ _ (some ⟨b, o, none⟩) A75 _ _ _ (tr _ (some ⟨b, o, none⟩)) (tr _ A75) has1 has_frozen HLm.out).mono ?_); rintro e76 w76 ⟨A76, c76, he, hf, hb⟩; rw [HR.out] at he hf hb; subst he; haveI := belM hb; haveI := Fs.of hf; clear hf hb))
            go_wp2_with fail
            refine hK.out _ _ ?hSn3_17 (fun hHeld => ?hRn3_17)
            case hSn3_17 => ((try dsimp only); exact ⟨has1, has1⟩)
            clear hK K
            try simp only [Act.put, zp1, zp2, zp3, zp4, zp5, zp6]
            refine wpAnyH_ready (rs := [11]) (by kernel_rfl) (by simp) ?_
            refine AllReadyH.cons rfl (fun K hK => ?_) AllReadyH.nil
            go_simp
            refine hK.out _ _ ?hSn3_18 (fun hHeld => ?hRn3_18)
            case hSn3_18 => ((try dsimp only); exact ⟨has1, has1⟩)
            clear hK K
            try simp only [Act.put, zp1, zp2, zp3, zp4, zp5, zp6]
            refine wpAnyH_ready (rs := [12]) (by kernel_rfl) (by simp) ?_
            refine AllReadyH.cons rfl (fun K hK => ?_) AllReadyH.nil
            go_simp
            refine hK.out _ _ ?hSn3_19 (fun hHeld => ?hRn3_19)
            case hSn3_19 => ((try dsimp only); exact ⟨has1, has1⟩)
            clear hK K
            try simp only [Act.put, zp1, zp2, zp3, zp4, zp5, zp6]
            refine wpAnyH_done (by kernel_rfl) ?_ _
          case' bn3_14 =>
            go_simp
            ((go_at_call 53; (with_reducible refine (mmul_any t y _ mb _ _ A65 (some ⟨b', o', none⟩) _ _ _ (tr _ A65) (tr _ (some ⟨b', o', none⟩)) has1 has_frozen).mono ?_); rintro e75 w75 ⟨A75, c75, he, hf, hb⟩; rw [HM.out] at he hf hb; subst he; haveI := belM hb; haveI := Fs.of hf; clear hf hb))
            go_wp2_with fail
            refine hK.out _ _ ?hSn3_20 (fun hHeld => ?hRn3_20)
            case hSn3_20 => ((try dsimp only); exact ⟨has1, has1⟩)
            clear hK K
            try simp only [Act.put, zp1, zp2, zp3, zp4, zp5, zp6]
            refine wpAnyH_ready (rs := [5]) (by kernel_rfl) (by simp) ?_
            refine AllReadyH.cons rfl (fun K hK => ?_) AllReadyH.nil
            go_simp
            refine hK.out _ _ ?hSn3_21 (fun hHeld => ?hRn3_21)
            case hSn3_21 => ((try dsimp only); exact ⟨has1, has1⟩)
            clear hK K
            try simp only [Act.put, zp1, zp2, zp3, zp4, zp5, zp6]
            refine wpAnyH_ready (rs := [10]) (by kernel_rfl) (by simp) ?_
            refine AllReadyH.cons rfl (fun K hK => ?_) AllReadyH.nil
            go_simp
            ((go_at_call 103; (with_reducible refine (msub_any r (M.getD .nil) _ mb _ _ (some ⟨b, o, none⟩) A75 _ _ _ (tr _ (some ⟨b, o, none⟩)) (tr _ A75) has1 has_frozen HLm.out).mono ?_); rintro e76 w76 ⟨A76, c76, he, hf, hb⟩; rw [HR.out] at he hf hb; subst he; haveI := belM hb; haveI := Fs.of hf; clear hf hb))
            go_wp2_with fail
            refine hK.out _ _ ?hSn3_22 (fun hHeld => ?hRn3_22)
            case hSn3_22 => ((try dsimp only); exact ⟨has1, has1⟩)
            clear hK K
            try simp only [Act.put, zp1, zp2, zp3, zp4, zp5, zp6]
            refine wpAnyH_ready (rs := [11]) (by kernel_rfl) (by simp) ?_
            refine AllReadyH.cons rfl (fun K hK => ?_) AllReadyH.nil
            go_simp
            refine hK.out _ _ ?hSn3_23 (fun hHeld => ?hRn3_23)
            case hSn3_23 => ((try dsimp only); exact ⟨has1, has1⟩)
            clear hK K
            try simp only [Act.put, zp1, zp2, zp3, zp4, zp5, zp6]
            refine wpAnyH_ready (rs := [12]) (by kernel_rfl) (by simp) ?_
            refine AllReadyH.cons rfl (fun K hK => ?_) AllReadyH.nil
            go_simp
            refine hK.out _ _ ?hSn3_24 (fun hHeld => ?hRn3_24)
            case hSn3_24 => ((try dsimp only); exact ⟨has1, has1⟩)
            clear hK K
            try simp only [Act.put, zp1, zp2, zp3, zp4, zp5, zp6]
            refine wpAnyH_done (by kernel_rfl) ?_ _
        case' bn3_11 =>
          go_simp
          refine hK.out _ _ ?hSn3_25 (fun hHeld => ?hRn3_25)
          case hSn3_25 => ((try dsimp only); exact ⟨has1, has1⟩)
          clear hK K
          try simp only [Act.put, zp1, zp2, zp3, zp4, zp5, zp6]
          refine wpAnyH_ready (rs := [3]) (by kernel_rfl) (by simp) ?_
          refine AllReadyH.cons rfl (fun K hK => ?_) AllReadyH.nil
          go_simp
          ((go_at_call 58; (with_reducible refine (madd_any q t _ mb _ _ Aq A65 _ _ _ (tr _ Aq) (tr _ A65) has1 has_frozen).mono ?_); rintro e69 w69 ⟨A69, c69, he, hf, hb⟩; rw [HQ.out] at he hf hb; subst he; haveI := belM hb; haveI := Fs.of hf; clear hf hb))
          go_wp2_with fail
          refine hK.out _ _ ?hSn3_26 (fun hHeld => ?hRn3_26)
          case hSn3_26 => ((try dsimp only); exact ⟨has1, has1⟩)
          clear hK K
          try simp only [Act.put, zp1, zp2, zp3, zp4, zp5, zp6]
          refine wpAnyH_ready (rs := [9]) (by kernel_rfl) (by simp) ?_
          refine AllReadyH.cons rfl (fun K hK => ?_) AllReadyH.nil
          go_simp
          ((go_at_call 53; (with_reducible refine (mmul_any t y _ mb _ _ A65 (some ⟨b', o', none⟩) _ _ _ (tr _ A65) (tr _ (some ⟨b', o', none⟩)) has1 has_frozen).mono ?_); rintro e75 w75 ⟨A75, c75, he, hf, hb⟩; rw [HM.out] at he hf hb; subst he; haveI := belM hb; haveI := Fs.of hf; clear hf hb))
          go_wp2_with fail
          refine hK.out _ _ ?hSn3_27 (fun hHeld => ?hRn3_27)
          case hSn3_27 => ((try dsimp only); exact ⟨has1, has1⟩)
          clear hK K
          try simp only [Act.put, zp1, zp2, zp3, zp4, zp5, zp6]
          refine wpAnyH_ready (rs := [10]) (by kernel_rfl) (by simp) ?_
          refine AllReadyH.cons rfl (fun K hK => ?_) AllReadyH.nil
          go_simp
          ((go_at_call 103; (with_reducible refine (msub_any r (M.getD .nil) _ mb _ _ (some ⟨b, o, none⟩) A75 _ _ _ (tr _ (some ⟨b, o, none⟩)) (tr _ A75) has1 has_frozen HLm.out).mono ?_); rintro e76 w76 ⟨A76, c76, he, hf, hb⟩; rw [HR.out] at he hf hb; subst he; haveI := belM hb; haveI := Fs.of hf; clear hf hb))
          go_wp2_with fail
          refine hK.out _ _ ?hSn3_28 (fun hHeld => ?hRn3_28)
          case hSn3_28 => ((try dsimp only); exact ⟨has1, has1⟩)
          clear hK K
          try simp only [Act.put, zp1, zp2, zp3, zp4, zp5, zp6]
          refine wpAnyH_ready (rs := [11]) (by kernel_rfl) (by simp) ?_
          refine AllReadyH.cons rfl (fun K hK => ?_) AllReadyH.nil
          go_simp
          refine hK.out _ _ ?hSn3_29 (fun hHeld => ?hRn3_29)
          case hSn3_29 => ((try dsimp only); exact ⟨has1, has1⟩)
          clear hK K
          try simp only [Act.put, zp1, zp2, zp3, zp4, zp5, zp6]
          refine wpAnyH_ready (rs := [12]) (by kernel_rfl) (by simp) ?_
          refine AllReadyH.cons rfl (fun K hK => ?_) AllReadyH.nil
          go_simp
          refine hK.out _ _ ?hSn3_30 (fun hHeld => ?hRn3_30)
          case hSn3_30 => ((try dsimp only); exact ⟨has1, has1⟩)
          clear hK K
          try simp only [Act.put, zp1, zp2, zp3, zp4, zp5, zp6]
          refine wpAnyH_done (by kernel_rfl) ?_ _
      case' bn3_8 =>
        go_simp
        refine hK.out _ _ ?hSn3_31 (fun hHeld => ?hRn3_31)
        case hSn3_31 => ((try dsimp only); exact ⟨has1, has1⟩)
        clear hK K
        try simp only [Act.put, zp1, zp2, zp3, zp4, zp5, zp6]
        refine wpAnyH_ready (rs := [1]) (by kernel_rfl) (by simp) ?_
        refine AllReadyH.cons rfl (fun K hK => ?_) AllReadyH.nil
        go_simp
        refine hK.out _ _ ?hSn3_32 (fun hHeld => ?hRn3_32)
        case hSn3_32 => ((try dsimp only); exact ⟨has1, has1⟩)
        clear hK K
        try simp only [Act.put, zp1, zp2, zp3, zp4, zp5, zp6]
        refine wpAnyH_ready (rs := [3]) (by kernel_rfl) (by simp) ?_
        refine AllReadyH.cons rfl (fun K hK => ?_) AllReadyH.nil
        go_simp
        ((go_at_call 58; (with_reducible refine (madd_any q t _ mb _ _ Aq A65 _ _ _ (tr _ Aq) (tr _ A65) has1 has_frozen).mono ?_); rintro e69 w69 ⟨A69, c69, he, hf, hb⟩; rw [HQ.out] at he hf hb; subst he; haveI := belM hb; haveI := Fs.of hf; clear hf hb))
        go_wp2_with fail
        refine hK.out _ _ ?hSn3_33 (fun hHeld => ?hRn3_33)
        case hSn3_33 => ((try dsimp only); exact ⟨has1, has1⟩)
        clear hK K
        try simp only [Act.put, zp1, zp2, zp3, zp4, zp5, zp6]
        refine wpAnyH_ready (rs := [9]) (by kernel_rfl) (by simp) ?_
        refine AllReadyH.cons rfl (fun K hK => ?_) AllReadyH.nil
        go_simp
        ((go_at_call 53; (with_reducible refine (mmul_any t y _ mb _ _ A65 (some ⟨b', o', none⟩) _ _ _ (tr _ A65) (tr _ (some ⟨b', o', none⟩)) has1 has_frozen).mono ?_); rintro e75 w75 ⟨A75, c75, he, hf, hb⟩; rw [HM.out] at he hf hb; subst he; haveI := belM hb; haveI := Fs.of hf; clear hf hb))
        go_wp2_with fail
        refine hK.out _ _ ?hSn3_34 (fun hHeld => ?hRn3_34)
        case hSn3_34 => ((try dsimp only); exact ⟨has1, has1⟩)
        clear hK K
        try simp only [Act.put, zp1, zp2, zp3, zp4, zp5, zp6]
        refine wpAnyH_ready (rs := [10]) (by kernel_rfl) (by simp) ?_
        refine AllReadyH.cons rfl (fun K hK => ?_) AllReadyH.nil
        go_simp
        ((go_at_call 103; (with_reducible refine (msub_any r (M.getD .nil) _ mb _ _ (some ⟨b, o, none⟩) A75 _ _ _ (tr _ (some ⟨b, o, none⟩)) (tr _ A75) has1 has_frozen HLm.out).mono ?_); rintro e76 w76 ⟨A76, c76, he, hf, hb⟩; rw [HR.out] at he hf hb; subst he; haveI := belM hb; haveI := Fs.of hf; clear hf hb))
        go_wp2_with fail
        refine hK.out _ _ ?hSn3_35 (fun hHeld => ?hRn3_35)
        case hSn3_35 => ((try dsimp only); exact ⟨has1, has1⟩)
        clear hK K
        try simp only [Act.put, zp1, zp2, zp3, zp4, zp5, zp6]
        refine wpAnyH_ready (rs := [11]) (by kernel_rfl) (by simp) ?_
        refine AllReadyH.cons rfl (fun K hK => ?_) AllReadyH.nil
        go_simp
        refine hK.out _ _ ?hSn3_36 (fun hHeld => ?hRn3_36)
        case hSn3_36 => ((try dsimp only); exact ⟨has1, has1⟩)
        clear hK K
        try simp only [Act.put, zp1, zp2, zp3, zp4, zp5, zp6]
        refine wpAnyH_ready (rs := [12]) (by kernel_rfl) (by simp) ?_
        refine AllReadyH.cons rfl (fun K hK => ?_) AllReadyH.nil
        go_simp
        refine hK.out _ _ ?hSn3_37 (fun hHeld => ?hRn3_37)
        case hSn3_37 => ((try dsimp only); exact ⟨has1, has1⟩)
        clear hK K
        try simp only [Act.put, zp1, zp2, zp3, zp4, zp5, zp6]
        refine wpAnyH_done (by kernel_rfl) ?_ _
      all_goals
        go_wp2
        exact ⟨⟨k + 1, _, A69, c69, _, A76, c76, _, by go_num, by omega, inferInstance, inferInstance, inferInstance, Fs.lp, Fs.lp, kp _ _ _, HN2⟩, by simp [intOf]; omega⟩
    · have HE : Hid (divGo y N false .nil x = (bad, q, r)) := by
        show _ = _
        rw [HS.out]
        by_cases hkN : k < N
        · exact divGo_stop (N - k) fun h => hgo ⟨hkN, h.1, h.2⟩
        · rw [show N - k = 0 by omega]; rfl
      clear HS
      have HR1 : Hid ((divGo y N false .nil x).1 = bad ∧ (divGo y N false .nil x).2.1 = q ∧ (divGo y N false .nil x).2.2 = r) := by
        show _ ∧ _
        rw [HE.out]
        exact ⟨rfl, rfl, rfl⟩
      by_cases hkN : (k : Int) < (N : Int)
      · cases bad
        · have hr0 : r.len = 0 := Classical.byContradiction fun h => hgo ⟨by omega, rfl, h⟩
          have hr1 : ((r.len : Int) == 0) = true := by simpa using hr0
          clear hgo hr0
          go_upto_region 9 with (first | (go_at_call 87; refine (isNothing_any r Ar cr _).mono ?_; rintro e31 w31 ⟨rfl, hb⟩; haveI : Bel _ w31 := ⟨hb⟩; clear hb))
          refine wp_region_held_drew (S := (fun w' => w'.cell? ⟨g10, 0, none⟩ = some (.slice Aq q.len cq) ∧ w'.cell? ⟨g11, 0, none⟩ = some (.slice Ar r.len cr))) (by kernel_rfl) ?hSn4_ (fun hHeld => ?hRn4_)
          case hSn4_ => (exact ⟨has1, has1⟩)
          refine wpAnyH_take (i := 0) (v := ?vn4_1) rfl (by kernel_rfl) (by kernel_rfl) (by kernel_rfl) (fun _ _ _ h => h) (Or.inl ⟨by rfl, ?hyn4_1⟩) (by assumption) ?hRn4_1
          case hyn4_1 => (intro w hSw; (try dsimp only at hSw); go_simp; (try with_reducible rfl))
          try simp only [Act.put, zp1, zp2, zp3, zp4, zp5, zp6]
          refine wpAnyH_take (i := 1) (v := ?vn4_2) rfl (by kernel_rfl) (by kernel_rfl) (by kernel_rfl) (fun _ _ _ h => h) (Or.inl ⟨by rfl, ?hyn4_2⟩) (by assumption) ?hRn4_2
          case hyn4_2 => (intro w hSw; (try dsimp only at hSw); go_simp; (try with_reducible rfl))
          try simp only [Act.put, zp1, zp2, zp3, zp4, zp5, zp6]
          refine wpAnyH_ready (rs := [2]) (by kernel_rfl) (by simp) ?_
          refine AllReadyH.cons rfl (fun K hK => ?_) AllReadyH.nil
          go_simp
          refine hK.out _ _ ?hSn4_3 (fun hHeld => ?hRn4_3)
          case hSn4_3 => ((try dsimp only); exact ⟨has1, has1⟩)
          clear hK K
          try simp only [Act.put, zp1, zp2, zp3, zp4, zp5, zp6]
          refine wpAnyH_ready (rs := [3]) (by kernel_rfl) (by simp) ?_
          refine AllReadyH.cons rfl (fun K hK => ?_) AllReadyH.nil
          go_simp
          refine hK.out _ _ ?hSn4_4 (fun hHeld => ?hRn4_4)
          case hSn4_4 => ((try dsimp only); exact ⟨has1, has1⟩)
          clear hK K
          try simp only [Act.put, zp1, zp2, zp3, zp4, zp5, zp6]
          refine wpAnyH_done (by kernel_rfl) ?_ _
          all_goals
            go_wp2
            (refine bodyPost_ret (v := .tuple #[.agg #[.slice Aq q.len cq], .agg #[.slice Ar r.len cr]]) (by simp [results, Tryz.results88, go_sem]) rfl ?_; rw [HR1.out.1, HR1.out.2.1, HR1.out.2.2]; exact ⟨Aq, cq, Ar, cr, rfl, fs _ Aq w, fs _ Ar w, marked w _ mb⟩)
        · clear hgo
          go_upto_region 9 with (first | (go_at_call 87; refine (isNothing_any r Ar cr _).mono ?_; rintro e31 w31 ⟨rfl, hb⟩; haveI : Bel _ w31 := ⟨hb⟩; clear hb))
          refine wp_region_held_drew (S := (fun w' => w'.cell? ⟨g10, 0, none⟩ = some (.slice Aq q.len cq) ∧ w'.cell? ⟨g11, 0, none⟩ = some (.slice Ar r.len cr))) (by kernel_rfl) ?hSn5_ (fun hHeld => ?hRn5_)
          case hSn5_ => (exact ⟨has1, has1⟩)
          refine wpAnyH_take (i := 0) (v := ?vn5_1) rfl (by kernel_rfl) (by kernel_rfl) (by kernel_rfl) (fun _ _ _ h => h) (Or.inl ⟨by rfl, ?hyn5_1⟩) (by assumption) ?hRn5_1
          case hyn5_1 => (intro w hSw; (try dsimp only at hSw); go_simp; (try with_reducible rfl))
          try simp only [Act.put, zp1, zp2, zp3, zp4, zp5, zp6]
          refine wpAnyH_take (i := 1) (v := ?vn5_2) rfl (by kernel_rfl) (by kernel_rfl) (by kernel_rfl) (fun _ _ _ h => h) (Or.inl ⟨by rfl, ?hyn5_2⟩) (by assumption) ?hRn5_2
          case hyn5_2 => (intro w hSw; (try dsimp only at hSw); go_simp; (try with_reducible rfl))
          try simp only [Act.put, zp1, zp2, zp3, zp4, zp5, zp6]
          refine wpAnyH_ready (rs := [2]) (by kernel_rfl) (by simp) ?_
          refine AllReadyH.cons rfl (fun K hK => ?_) AllReadyH.nil
          go_simp
          refine hK.out _ _ ?hSn5_3 (fun hHeld => ?hRn5_3)
          case hSn5_3 => ((try dsimp only); exact ⟨has1, has1⟩)
          clear hK K
          try simp only [Act.put, zp1, zp2, zp3, zp4, zp5, zp6]
          refine wpAnyH_ready (rs := [3]) (by kernel_rfl) (by simp) ?_
          refine AllReadyH.cons rfl (fun K hK => ?_) AllReadyH.nil
          go_simp
          refine hK.out _ _ ?hSn5_4 (fun hHeld => ?hRn5_4)
          case hSn5_4 => ((try dsimp only); exact ⟨has1, has1⟩)
          clear hK K
          try simp only [Act.put, zp1, zp2, zp3, zp4, zp5, zp6]
          refine wpAnyH_done (by kernel_rfl) ?_ _
          all_goals
            go_wp2
            (refine bodyPost_ret (v := .tuple #[.agg #[.slice Aq q.len cq], .agg #[.slice Ar r.len cr]]) (by simp [results, Tryz.results88, go_sem]) rfl ?_; rw [HR1.out.1, HR1.out.2.1, HR1.out.2.2]; exact ⟨Aq, cq, Ar, cr, rfl, fs _ Aq w, fs _ Ar w, marked w _ mb⟩)
      · clear hgo
        go_upto_region 9 with (first | (go_at_call 87; refine (isNothing_any r Ar cr _).mono ?_; rintro e31 w31 ⟨rfl, hb⟩; haveI : Bel _ w31 := ⟨hb⟩; clear hb))
        refine wp_region_held_drew (S := (fun w' => w'.cell? ⟨g10, 0, none⟩ = some (.slice Aq q.len cq) ∧ w'.cell? ⟨g11, 0, none⟩ = some (.slice Ar r.len cr))) (by kernel_rfl) ?hSn6_ (fun hHeld => ?hRn6_)
        case hSn6_ => (exact ⟨has1, has1⟩)
        refine wpAnyH_take (i := 0) (v := ?vn6_1) rfl (by kernel_rfl) (by kernel_rfl) (by kernel_rfl) (fun _ _ _ h => h) (Or.inl ⟨by rfl, ?hyn6_1⟩) (by assumption) ?hRn6_1
        case hyn6_1 => (intro w hSw; (try dsimp only at hSw); go_simp; (try with_reducible rfl))
        try simp only [Act.put, zp1, zp2, zp3, zp4, zp5, zp6]
        refine wpAnyH_take (i := 1) (v := ?vn6_2) rfl (by kernel_rfl) (by kernel_rfl) (by kernel_rfl) (fun _ _ _ h => h) (Or.inl ⟨by rfl, ?hyn6_2⟩) (by assumption) ?hRn6_2
        case hyn6_2 => (intro w hSw; (try dsimp only at hSw); go_simp; (try with_reducible rfl))
        try simp only [Act.put, zp1, zp2, zp3, zp4, zp5, zp6]
        refine wpAnyH_ready (rs := [2]) (by kernel_rfl) (by simp) ?_
        refine AllReadyH.cons rfl (fun K hK => ?_) AllReadyH.nil
        go_simp
        refine hK.out _ _ ?hSn6_3 (fun hHeld => ?hRn6_3)
        case hSn6_3 => ((try dsimp only); exact ⟨has1, has1⟩)
        clear hK K
        try simp only [Act.put, zp1, zp2, zp3, zp4, zp5, zp6]
        refine wpAnyH_ready (rs := [3]) (by kernel_rfl) (by simp) ?_
        refine AllReadyH.cons rfl (fun K hK => ?_) AllReadyH.nil
        go_simp
        refine hK.out _ _ ?hSn6_4 (fun hHeld => ?hRn6_4)
        case hSn6_4 => ((try dsimp only); exact ⟨has1, has1⟩)
        clear hK K
        try simp only [Act.put, zp1, zp2, zp3, zp4, zp5, zp6]
        refine wpAnyH_done (by kernel_rfl) ?_ _
        all_goals
          go_wp2
          (refine bodyPost_ret (v := .tuple #[.agg #[.slice Aq q.len cq], .agg #[.slice Ar r.len cr]]) (by simp [results, Tryz.results88, go_sem]) rfl ?_; rw [HR1.out.1, HR1.out.2.1, HR1.out.2.2]; exact ⟨Aq, cq, Ar, cr, rfl, fs _ Aq w, fs _ Ar w, marked w _ mb⟩)
end Go.Proofs.YtphabopnbcgodaaGreat
