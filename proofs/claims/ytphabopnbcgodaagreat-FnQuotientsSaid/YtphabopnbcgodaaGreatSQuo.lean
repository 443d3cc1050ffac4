/-
  Walks: quotients, the reference's.
-/
import Derived.Test.YtphabopnbcgodaaGreatWQuo
import Derived.Test.YtphabopnbcgodaaGreatSKeepB
import Derived.Test.YtphabopnbcgodaaGreatBK
import Derived.Test.YtphabopnbcgodaaGreatSPowFn
namespace Go.Proofs.YtphabopnbcgodaaGreat
open Go.RowKit
open List renaming getElem_toArray → zp1, getElem_cons_zero → zp2, getElem_cons_succ → zp3, setIfInBounds_toArray → zp4, set_cons_zero → zp5, set_cons_succ → zp6
set_option linter.unusedSimpArgs false
set_option linter.unusedVariables false

section
instance XSub.uL {B X Y : Nat → Prop} [a : XSub B X] : XSub B (XU X Y) := ⟨fun k hk => .inl (a.h k hk)⟩
variable {w W W0 : World} {o1 : Obj} {cs : Array Value} {t : TypeId}
instance Has.here1 [a : Sz W W0] : Has ((W.alloc o1).alloc (.cells cs t)) (W0.heap.size + 1) (.cells cs t (0, 0)) := ⟨by
  rw [← a.h]
  have := Blk.new (W.alloc o1) t cs
  rw [World.size_alloc] at this
  exact this⟩
instance GeB.here1 [b : LeB w W] : GeB w (W.heap.size + 1) := ⟨by have := b.h; omega⟩
end
theorem sdivGo_step {y q r : Sur} {m : Nat} (nr : r.len ≠ 0) : sdivGo y (m + 1) false q r = sdivGo y m (sdB6 q r y) (keepS (sdB3 r y) (sdQ q r y)) (keepS (sdB5 q r y) (sdR q r y)) := by
  simp only [sdivGo]
  rw [if_pos ⟨nr, trivial⟩]
theorem fC_ok {x : Sur} (g : sGood x = true) (nx : x.len ≠ 0) : FOk (fC x).1 (fC x).2 ∧ (fC x).1 ≠ 0 := by
  cases x with
  | nil => exact absurd rfl nx
  | cons e n d r => exact (sGood_g g).1.2.1
theorem fC_I64 {X : Nat → Prop} {w : World} {x : Sur} {A : Option Addr} {c : Nat} (h : SSl X w x A c) (hx : x.len ≠ 0) : I64 (fC x).1 ∧ I64 (fC x).2 := by
  obtain ⟨b, o, e, n, d, A1, d1, hA, hk, _, _, _, _, i1, i2, _, _⟩ := h.at_ (k := 0) (by omega)
  cases x with
  | nil => exact absurd rfl hx
  | cons e' n' d' r =>
    simp only [Sur.drop] at hk
    injection hk with h1 h2 h3
    subst h1 h2 h3
    exact ⟨i1, i2⟩
attribute [local go_sem high] has_cell has_frozen
set_option synthInstance.maxHeartbeats 2000000 in
set_option synthInstance.maxSize 4000 in
set_option maxHeartbeats 8000000 in
set_option maxRecDepth 100000 in
theorem seQuotient_any (x y : Sur) (n : Int) (X Y : Nat → Prop) (A A' : Option Addr) (c c' : Nat) (w : World) (hX : ∀ k, X k → k < w.heap.size) (sx : SSl X w x A c) (sy : SSl Y w y A' c') (gx : sGood x = true) (gy : sGood y = true) (ny : y.len ≠ 0) (h0 : 0 ≤ n) (h12 : n ≤ 12) :
    Calls Tryz.prog 91 #[.agg #[.slice A x.len c], .agg #[.slice A' y.len c'], .int .i64 n] w fun e w' => ∃ A1 c1 A2 c2, e = .returned (.tuple #[.agg #[.slice A1 (sdivGo y n.toNat false .nil x).2.1.len c1], .agg #[.slice A2 (sdivGo y n.toNat false .nil x).2.2.len c2], .bool (!(sdivGo y n.toNat false .nil x).1)]) ∧ SSl (XL w) w' (sdivGo y n.toNat false .nil x).2.1 A1 c1 ∧ SSl X w' (sdivGo y n.toNat false .nil x).2.2 A2 c2 ∧ sGood (sdivGo y n.toNat false .nil x).2.1 = true ∧ sGood (sdivGo y n.toNat false .nil x).2.2 = true ∧ Below w.heap.size w w' := by
  obtain ⟨N, hN⟩ : ∃ N : Nat, n = N := ⟨n.toNat, by omega⟩
  subst hN
  rw [Int.toNat_natCast]
  obtain ⟨b', o', A2, d2, hA', p0, p1, p2, se2, hXb', hbl'⟩ := sy.at0 ny
  have hiy := fC_I64 sy ny
  haveI : ∀ U, [LeB w U] → XSub X (XL U) := fun U _ => ⟨fun k hk => Nat.lt_of_lt_of_le (hX k hk) LeB.h⟩
  haveI : XSub X X := ⟨fun _ h => h⟩
  haveI := Tr.arg sx
  haveI := Tr.arg (sy.more (Y := XN) (fun _ h => h.elim))
  haveI := Tr.arg (se2.more (Y := XN) (fun _ h => h.elim))
  have ly := sy.cap
  have ly' := sy.le
  unfold maxLen at ly
  have HCY := Lib.hid (fC_ok gy ny)
  clear sx sy se2
  subst hA'
  have GY := Lib.hid gy
  have GX := Lib.hid gx
  have hy0 : (0 : Int) < (y.len : Int) := by omega
  have hy0n : 0 < y.len := by omega
  clear ny
  go_enter Tryz.func91, Tryz.ntmps91
  go_upto_region 2 with (first | ((with_reducible refine at_dst (N := 3) rfl ?_); refine ev_box (cs := #[.slice A x.len c]) (t := 26) rfl ?hr3 ?_; (case hr3 => first | (go_simp; done) | (go_simp; rfl)); intro g3 v3 _ _ _ _) | ((with_reducible refine at_dst (N := 4) rfl ?_); refine ev_box (cs := #[.slice (some ⟨b', o', none⟩) y.len c']) (t := 26) rfl ?hr4 ?_; (case hr4 => first | (go_simp; done) | (go_simp; rfl)); intro g4 v4 _ _ _ _) | ((with_reducible refine at_dst (N := 6) rfl ?_); refine ev_box (cs := #[.slice none 0 0]) (t := 26) rfl ?hr6 ?_; (case hr6 => first | (go_simp; done) | (go_simp; rfl)); intro g6 v6 _ _ _ _) | ((with_reducible refine at_dst (N := 7) rfl ?_); refine ev_box (cs := #[.slice none 0 0]) (t := 26) rfl ?hr7 ?_; (case hr7 => first | (go_simp; done) | (go_simp; rfl)); intro g7 v7 _ _ _ _) | ((with_reducible refine at_dst (N := 16) rfl ?_); refine ev_box (cs := #[.bool false]) (t := 87) rfl ?hr16 ?_; (case hr16 => first | (go_simp; done) | (go_simp; rfl)); intro g16 v16 _ _ _ _))
  go_cut [10, 11] (fun s10 s11 wx => ∃ g10 g11 : Nat, s10 = .pointer (some ⟨g10, 0, none⟩) ∧ s11 = .pointer (some ⟨g11, 0, none⟩) ∧ Has wx g10 (.cells #[.slice none 0 0] 26 (0, 0)) ∧ Has wx g11 (.cells #[.slice A x.len c] 26 (0, 0)) ∧ Bel v16 wx ∧ GeB v16 g10 ∧ GeB v16 g11 ∧ g10 ≠ g11)
  case first => as_aux_lemma =>
    refine wp_region_held_drew (S := (fun w' => w'.cell? ⟨g3, 0, none⟩ = some (.slice A x.len c))) (by kernel_rfl) ?hSn1_ (fun hHeld => ?hRn1_)
    case hSn1_ => (exact has1)
    refine wpAnyH_take (i := 0) (v := ?vn1_1) rfl (by kernel_rfl) (by kernel_rfl) (by kernel_rfl) (fun _ _ _ h => h) (Or.inl ⟨by rfl, ?hyn1_1⟩) (by assumption) ?hRn1_1
    case hyn1_1 => (intro w hSw; (try dsimp only at hSw); go_simp; (try with_reducible rfl))
    try simp only [Act.put, zp1, zp2, zp3, zp4, zp5, zp6]
    refine wpAnyH_take (i := 1) (v := ?vn1_2) rfl (by kernel_rfl) (by kernel_rfl) (by kernel_rfl) (fun _ _ _ h => h) (Or.inl ⟨by rfl, ?hyn1_2⟩) (by assumption) ?hRn1_2
    case hyn1_2 => (intro w hSw; (try dsimp only at hSw); go_simp; (try with_reducible rfl))
    try simp only [Act.put, zp1, zp2, zp3, zp4, zp5, zp6]
    refine wpAnyH_ready (rs := [2, 3]) (by kernel_rfl) (by simp) ?_
    refine AllReadyH.cons rfl (fun K hK => ?bn1_3) (AllReadyH.cons rfl (fun K hK => ?bn1_4) (AllReadyH.nil))
    case' bn1_3 =>
      go_simp
      refine hK.out _ _ ?hSn1_5 (fun hHeld => ?hRn1_5)
      case hSn1_5 => ((try dsimp only); exact has1)
      clear hK K
      try simp only [Act.put, zp1, zp2, zp3, zp4, zp5, zp6]
      refine wpAnyH_ready (rs := [3]) (by kernel_rfl) (by simp) ?_
      refine AllReadyH.cons rfl (fun K hK => ?_) AllReadyH.nil
      go_simp
      refine hK.out _ _ ?hSn1_6 (fun hHeld => ?hRn1_6)
      case hSn1_6 => ((try dsimp only); exact has1)
      clear hK K
      try simp only [Act.put, zp1, zp2, zp3, zp4, zp5, zp6]
      refine wpAnyH_ready (rs := [4]) (by kernel_rfl) (by simp) ?_
      refine AllReadyH.cons rfl (fun K hK => ?_) AllReadyH.nil
      go_simp
      refine hK.out _ _ ?hSn1_7 (fun hHeld => ?hRn1_7)
      case hSn1_7 => ((try dsimp only); exact has1)
      clear hK K
      try simp only [Act.put, zp1, zp2, zp3, zp4, zp5, zp6]
      refine wpAnyH_ready (rs := [5]) (by kernel_rfl) (by simp) ?_
      refine AllReadyH.cons rfl (fun K hK => ?_) AllReadyH.nil
      go_simp
      refine hK.out _ _ ?hSn1_8 (fun hHeld => ?hRn1_8)
      case hSn1_8 => ((try dsimp only); exact has1)
      clear hK K
      try simp only [Act.put, zp1, zp2, zp3, zp4, zp5, zp6]
      refine wpAnyH_done (by kernel_rfl) ?_ _
    case' bn1_4 =>
      go_simp
      refine hK.out _ _ ?hSn1_9 (fun hHeld => ?hRn1_9)
      case hSn1_9 => ((try dsimp only); exact has1)
      clear hK K
      try simp only [Act.put, zp1, zp2, zp3, zp4, zp5, zp6]
      refine wpAnyH_ready (rs := [2]) (by kernel_rfl) (by simp) ?_
      refine AllReadyH.cons rfl (fun K hK => ?_) AllReadyH.nil
      go_simp
      refine hK.out _ _ ?hSn1_10 (fun hHeld => ?hRn1_10)
      case hSn1_10 => ((try dsimp only); exact has1)
      clear hK K
      try simp only [Act.put, zp1, zp2, zp3, zp4, zp5, zp6]
      refine wpAnyH_ready (rs := [4]) (by kernel_rfl) (by simp) ?_
      refine AllReadyH.cons rfl (fun K hK => ?_) AllReadyH.nil
      go_simp
      refine hK.out _ _ ?hSn1_11 (fun hHeld => ?hRn1_11)
      case hSn1_11 => ((try dsimp only); exact has1)
      clear hK K
      try simp only [Act.put, zp1, zp2, zp3, zp4, zp5, zp6]
      refine wpAnyH_ready (rs := [5]) (by kernel_rfl) (by simp) ?_
      refine AllReadyH.cons rfl (fun K hK => ?_) AllReadyH.nil
      go_simp
      refine hK.out _ _ ?hSn1_12 (fun hHeld => ?hRn1_12)
      case hSn1_12 => ((try dsimp only); exact has1)
      clear hK K
      try simp only [Act.put, zp1, zp2, zp3, zp4, zp5, zp6]
      refine wpAnyH_done (by kernel_rfl) ?_ _
    all_goals
      go_wp2
      go_meet
      exact ⟨_, _, rfl, rfl, inferInstance, inferInstance, ⟨ext _ _⟩, inferInstance, inferInstance, by simp⟩
  case rest =>
  rename World => wb
  obtain ⟨g10, g11, rfl, rfl, _, _, _, _, _, hne⟩ := hcut
  haveI : NeB g10 g11 := ⟨hne⟩
  haveI : GeB w g10 := ⟨by have h1 := (GeB.h (w := v16) (g := g10)); have h2 := (LeB.h (w := w) (W := v16)); omega⟩
  haveI : GeB w g11 := ⟨by have h1 := (GeB.h (w := v16) (g := g11)); have h2 := (LeB.h (w := w) (W := v16)); omega⟩
  haveI : NeB g6 g10 := ⟨by have h1 := (GeB.h (w := v16) (g := g10)); have h2 : g6 < v16.heap.size := LtB.h; omega⟩
  haveI : NeB g6 g11 := ⟨by have h1 := (GeB.h (w := v16) (g := g11)); have h2 : g6 < v16.heap.size := LtB.h; omega⟩
  haveI : NeB g7 g10 := ⟨by have h1 := (GeB.h (w := v16) (g := g10)); have h2 : g7 < v16.heap.size := LtB.h; omega⟩
  haveI : NeB g7 g11 := ⟨by have h1 := (GeB.h (w := v16) (g := g11)); have h2 : g7 < v16.heap.size := LtB.h; omega⟩
  haveI : NeB g10 g6 := ⟨by have h1 := (GeB.h (w := v16) (g := g10)); have h2 : g6 < v16.heap.size := LtB.h; omega⟩
  haveI : NeB g11 g6 := ⟨by have h1 := (GeB.h (w := v16) (g := g11)); have h2 : g6 < v16.heap.size := LtB.h; omega⟩
  haveI : NeB g10 g7 := ⟨by have h1 := (GeB.h (w := v16) (g := g10)); have h2 : g7 < v16.heap.size := LtB.h; omega⟩
  haveI : NeB g11 g7 := ⟨by have h1 := (GeB.h (w := v16) (g := g11)); have h2 : g7 < v16.heap.size := LtB.h; omega⟩
  haveI : NeB g4 g10 := ⟨by have h1 := (GeB.h (w := v16) (g := g10)); have h2 : g4 < v16.heap.size := LtB.h; omega⟩
  haveI : NeB g4 g11 := ⟨by have h1 := (GeB.h (w := v16) (g := g11)); have h2 : g4 < v16.heap.size := LtB.h; omega⟩
  haveI : NeB g11 g10 := ⟨fun h => hne h.symm⟩
  haveI : NeB g10 g16 := ⟨by have h1 := (GeB.h (w := v16) (g := g10)); have h2 : g16 < v16.heap.size := LtB.h; omega⟩
  haveI : NeB g11 g16 := ⟨by have h1 := (GeB.h (w := v16) (g := g11)); have h2 : g16 < v16.heap.size := LtB.h; omega⟩
  haveI : NeB g16 g10 := ⟨by have h1 := (GeB.h (w := v16) (g := g10)); have h2 : g16 < v16.heap.size := LtB.h; omega⟩
  haveI : NeB g16 g11 := ⟨by have h1 := (GeB.h (w := v16) (g := g11)); have h2 : g16 < v16.heap.size := LtB.h; omega⟩
  have hwv : w.heap.size ≤ v16.heap.size := LeB.h
  have hvb : v16.heap.size ≤ wb.heap.size := LeB.h
  have hg16 : w.heap.size ≤ g16 := GeB.h
  have hblb : b' < wb.heap.size := by omega
  have hb16 : b' ≠ g16 := by omega
  haveI : NeB b' g10 := ⟨by have h1 := (GeB.h (w := v16) (g := g10)); omega⟩
  haveI : NeB b' g11 := ⟨by have h1 := (GeB.h (w := v16) (g := g11)); omega⟩
  haveI : NeB b' g16 := ⟨hb16⟩
  have HP := Lib.hid (And.intro (((ext w wb).cell hbl').trans p0) (And.intro (((ext w wb).cell hbl').trans p1) (((ext w wb).cell hbl').trans p2)))
  clear p0 p1 p2
  go_wp2_with fail
  go_loopw [2] (fun s wr => ∃ (m : Nat) (bad : Bool) (Aq : Option Addr) (cq : Nat) (q : Sur) (Ar : Option Addr) (cr : Nat) (r : Sur), s = .int .i64 m ∧ m ≤ N ∧ Has wr g16 (.cells #[.bool bad] 87 (0, 0)) ∧ Has wr g10 (.cells #[.slice Aq q.len cq] 26 (0, 0)) ∧ Has wr g11 (.cells #[.slice Ar r.len cr] 26 (0, 0)) ∧
      Fs wr Aq v16 wr q cq ∧ Tr wr Ar (XV wr (XU X (XU (XE g6) (XU (XE g7) (XU (XE g16) (XU (XE g10) (XE g11))))))) r cr ∧ Kp wb (XU (XE g16) (XU (XE g10) (XE g11))) wr ∧ Hid (sGood q = true) ∧ Hid (sGood r = true) ∧ Hid (sdivGo y N false .nil x = sdivGo y m bad q r)) (fun s _ => (intOf s).toNat)
  case atStart => exact ⟨N, false, none, 0, .nil, A, c, x, rfl, by omega, inferInstance, inferInstance, inferInstance, Fs.nil, Tr.lp (XU X (XU (XE g6) (XU (XE g7) (XU (XE g16) (XU (XE g10) (XE g11)))))), kp _ _ _, sGood_nil, GX, rfl⟩
  case round =>
    obtain ⟨m, bad, Aq, cq, q, Ar, cr, r, rfl, hm, _, _, _, _, _, _, GQ, GR, HS⟩ := hrel
    by_cases hgo : 0 < m ∧ bad = false ∧ r.len ≠ 0
    · obtain ⟨hm1, rfl, nr⟩ := hgo
      obtain ⟨m', rfl⟩ : ∃ m', m = m' + 1 := ⟨m - 1, by omega⟩
      obtain ⟨b, o, A1, d1, hAr, q0, q1, q2, se1, hXb, hbl⟩ := (tr wr Ar).at0 nr
      have hbm : b ≠ g16 := fun h => hXb (.inr (.inr (.inr (.inr (.inl h)))))
      have hir := fC_I64 (tr wr Ar) nr
      haveI := Tr.arg se1
      clear se1
      have HCO : Hid (FOk (fC r).1 (fC r).2 ∧ FOk (fC y).1 (fC y).2 ∧ (fC y).1 ≠ 0) := ⟨(fC_ok GR.out nr).1, HCY.out.1, HCY.out.2⟩
      have HGE : Hid (sGood (fE r) = true ∧ sGood (fE y) = true) := ⟨fE_good GR.out, fE_good GY.out⟩
      have HIC : Hid (I64 (frN (sdB2 r y) (sdN r y)) ∧ I64 (frN (sdB2 r y) (sdD r y))) := fracOk_I64 (frV_ok (sdB1 r y) (sdN r y) (sdD r y))
      have hr0 : (0 : Int) < (r.len : Int) := by omega
      have hr0n : 0 < r.len := by omega
      have hr1 : ((r.len : Int) == 0) = false := by simp; omega
      have hmn : (0 : Int) < ((m' + 1 : Nat) : Int) := by omega
      have HN2 := Lib.hid (HS.out.trans (sdivGo_step (m := m') (q := q) (y := y) nr))
      have hblr : b' < wr.heap.size := Nat.lt_of_lt_of_le hblb (LeB.h (w := wb) (W := wr))
      have Q0 : ∀ W, KpI wr (XE g16) W → W.cell? ⟨b, o, none⟩ = some (.slice A1 (fE r).len d1) := fun W h => kpi_cell (k := h) hbl hbm q0
      have Q1 : ∀ W, KpI wr (XE g16) W → W.cell? ⟨b, o + 1, none⟩ = some (.int .i64 (fC r).1) := fun W h => kpi_cell (k := h) hbl hbm q1
      have Q2 : ∀ W, KpI wr (XE g16) W → W.cell? ⟨b, o + 2, none⟩ = some (.int .i64 (fC r).2) := fun W h => kpi_cell (k := h) hbl hbm q2
      have P0 : ∀ W, KpI wr (XE g16) W → W.cell? ⟨b', o', none⟩ = some (.slice A2 (fE y).len d2) := fun W h => kpi_cell (k := h) hblr hb16 (kp_cellX hblb HP.out.1)
      have P1 : ∀ W, KpI wr (XE g16) W → W.cell? ⟨b', o' + 1, none⟩ = some (.int .i64 (fC y).1) := fun W h => kpi_cell (k := h) hblr hb16 (kp_cellX hblb HP.out.2.1)
      have P2 : ∀ W, KpI wr (XE g16) W → W.cell? ⟨b', o' + 2, none⟩ = some (.int .i64 (fC y).2) := fun W h => kpi_cell (k := h) hblr hb16 (kp_cellX hblb HP.out.2.2)
      clear q0 q1 q2 nr HS
      subst hAr
      go_upto_region 5 with (first | (go_at_call 90; refine (suZero_any r (some ⟨b, o, none⟩) cr _).mono ?_; rintro e23 w23 ⟨rfl, hb⟩; haveI : Bel _ w23 := ⟨hb⟩; clear hb))
      go_cut [12, 13] (fun s12 s13 wx => ∃ g12 g13 : Nat, s12 = .pointer (some ⟨g12, 0, none⟩) ∧ s13 = .pointer (some ⟨g13, 0, none⟩) ∧ Has wx g12 (.cells #[.slice A1 (fE r).len d1, .int .i64 (fC r).1, .int .i64 (fC r).2] 91 (0, 0)) ∧ Has wx g13 (.cells #[.slice A2 (fE y).len d2, .int .i64 (fC y).1, .int .i64 (fC y).2] 91 (0, 0)) ∧ Bel w23 wx ∧ GeB wr g12 ∧ GeB wr g13)
      case first => as_aux_lemma =>
        refine wp_region_held_drew (S := (fun w' => w'.cell? ⟨g11, 0, none⟩ = some (.slice (some ⟨b, o, none⟩) r.len cr) ∧ w'.cell? ⟨g4, 0, none⟩ = some (.slice (some ⟨b', o', none⟩) y.len c') ∧ w'.cell? ⟨b, o, none⟩ = some (.slice A1 (fE r).len d1) ∧ w'.cell? ⟨b, o + 1, none⟩ = some (.int .i64 (fC r).1) ∧ w'.cell? ⟨b, o + 2, none⟩ = some (.int .i64 (fC r).2) ∧ w'.cell? ⟨b', o', none⟩ = some (.slice A2 (fE y).len d2) ∧ w'.cell? ⟨b', o' + 1, none⟩ = some (.int .i64 (fC y).1) ∧ w'.cell? ⟨b', o' + 2, none⟩ = some (.int .i64 (fC y).2))) (by kernel_rfl) ?hSn2_ (fun hHeld => ?hRn2_)
        case hSn2_ => (exact ⟨has1, has1, Q0 _ inferInstance, Q1 _ inferInstance, Q2 _ inferInstance, P0 _ inferInstance, P1 _ inferInstance, P2 _ inferInstance⟩)
        refine wpAnyH_take (i := 0) (v := ?vn2_1) rfl (by kernel_rfl) (by kernel_rfl) (by kernel_rfl) (fun _ _ _ h => h) (Or.inl ⟨by rfl, ?hyn2_1⟩) (by assumption) ?hRn2_1
        case hyn2_1 => (intro w hSw; (try dsimp only at hSw); go_simp; (try with_reducible rfl))
        try simp only [Act.put, zp1, zp2, zp3, zp4, zp5, zp6]
        refine wpAnyH_take (i := 1) (v := ?vn2_2) rfl (by kernel_rfl) (by kernel_rfl) (by kernel_rfl) (fun _ _ _ h => h) (Or.inl ⟨by rfl, ?hyn2_2⟩) (by assumption) ?hRn2_2
        case hyn2_2 => (intro w hSw; (try dsimp only at hSw); go_simp; (try with_reducible rfl))
        try simp only [Act.put, zp1, zp2, zp3, zp4, zp5, zp6]
        refine wpAnyH_take (i := 2) (v := ?vn2_3) rfl (by kernel_rfl) (by kernel_rfl) (by kernel_rfl) (fun _ _ _ h => h) (Or.inl ⟨by rfl, ?hyn2_3⟩) (by assumption) ?hRn2_3
        case hyn2_3 => (intro w hSw; (try dsimp only at hSw); go_simp; (try with_reducible rfl))
        try simp only [Act.put, zp1, zp2, zp3, zp4, zp5, zp6]
        refine wpAnyH_take (i := 3) (v := ?vn2_4) rfl (by kernel_rfl) (by kernel_rfl) (by kernel_rfl) (fun _ _ _ h => h) (Or.inl ⟨by rfl, ?hyn2_4⟩) (by assumption) ?hRn2_4
        case hyn2_4 => (intro w hSw; (try dsimp only at hSw); go_simp; (try with_reducible rfl))
        try simp only [Act.put, zp1, zp2, zp3, zp4, zp5, zp6]
        refine wpAnyH_take (i := 4) (v := ?vn2_5) rfl (by kernel_rfl) (by kernel_rfl) (by kernel_rfl) (fun _ _ _ h => h) (Or.inl ⟨by rfl, ?hyn2_5⟩) (by assumption) ?hRn2_5
        case hyn2_5 => (intro w hSw; (try dsimp only at hSw); go_simp; (try with_reducible rfl))
        try simp only [Act.put, zp1, zp2, zp3, zp4, zp5, zp6]
        refine wpAnyH_take (i := 5) (v := ?vn2_6) rfl (by kernel_rfl) (by kernel_rfl) (by kernel_rfl) (fun _ _ _ h => h) (Or.inl ⟨by rfl, ?hyn2_6⟩) (by assumption) ?hRn2_6
        case hyn2_6 => (intro w hSw; (try dsimp only at hSw); go_simp; (try with_reducible rfl))
        try simp only [Act.put, zp1, zp2, zp3, zp4, zp5, zp6]
        refine wpAnyH_take (i := 6) (v := ?vn2_7) rfl (by kernel_rfl) (by kernel_rfl) (by kernel_rfl) (fun _ _ _ h => h) (Or.inl ⟨by rfl, ?hyn2_7⟩) (by assumption) ?hRn2_7
        case hyn2_7 => (intro w hSw; (try dsimp only at hSw); go_simp; (try with_reducible rfl))
        try simp only [Act.put, zp1, zp2, zp3, zp4, zp5, zp6]
        refine wpAnyH_take (i := 7) (v := ?vn2_8) rfl (by kernel_rfl) (by kernel_rfl) (by kernel_rfl) (fun _ _ _ h => h) (Or.inl ⟨by rfl, ?hyn2_8⟩) (by assumption) ?hRn2_8
        case hyn2_8 => (intro w hSw; (try dsimp only at hSw); go_simp; (try with_reducible rfl))
        try simp only [Act.put, zp1, zp2, zp3, zp4, zp5, zp6]
        refine wpAnyH_ready (rs := [8, 9]) (by kernel_rfl) (by simp) ?_
        refine AllReadyH.cons rfl (fun K hK => ?bn2_9) (AllReadyH.cons rfl (fun K hK => ?bn2_10) (AllReadyH.nil))
        case' bn2_9 =>
          go_simp
          refine hK.out _ _ ?hSn2_11 (fun hHeld => ?hRn2_11)
          case hSn2_11 => ((try dsimp only); exact ⟨has1, has1, Q0 _ inferInstance, Q1 _ inferInstance, Q2 _ inferInstance, P0 _ inferInstance, P1 _ inferInstance, P2 _ inferInstance⟩)
          clear hK K
          try simp only [Act.put, zp1, zp2, zp3, zp4, zp5, zp6]
          refine wpAnyH_ready (rs := [9]) (by kernel_rfl) (by simp) ?_
          refine AllReadyH.cons rfl (fun K hK => ?_) AllReadyH.nil
          go_simp
          refine hK.out _ _ ?hSn2_12 (fun hHeld => ?hRn2_12)
          case hSn2_12 => ((try dsimp only); exact ⟨has1, has1, Q0 _ inferInstance, Q1 _ inferInstance, Q2 _ inferInstance, P0 _ inferInstance, P1 _ inferInstance, P2 _ inferInstance⟩)
          clear hK K
          try simp only [Act.put, zp1, zp2, zp3, zp4, zp5, zp6]
          refine wpAnyH_ready (rs := [10]) (by kernel_rfl) (by simp) ?_
          refine AllReadyH.cons rfl (fun K hK => ?_) AllReadyH.nil
          go_simp
          refine hK.out _ _ ?hSn2_13 (fun hHeld => ?hRn2_13)
          case hSn2_13 => ((try dsimp only); exact ⟨has1, has1, Q0 _ inferInstance, Q1 _ inferInstance, Q2 _ inferInstance, P0 _ inferInstance, P1 _ inferInstance, P2 _ inferInstance⟩)
          clear hK K
          try simp only [Act.put, zp1, zp2, zp3, zp4, zp5, zp6]
          refine wpAnyH_ready (rs := [11]) (by kernel_rfl) (by simp) ?_
          refine AllReadyH.cons rfl (fun K hK => ?_) AllReadyH.nil
          go_simp
          refine hK.out _ _ ?hSn2_14 (fun hHeld => ?hRn2_14)
          case hSn2_14 => ((try dsimp only); exact ⟨has1, has1, Q0 _ inferInstance, Q1 _ inferInstance, Q2 _ inferInstance, P0 _ inferInstance, P1 _ inferInstance, P2 _ inferInstance⟩)
          clear hK K
          try simp only [Act.put, zp1, zp2, zp3, zp4, zp5, zp6]
          refine wpAnyH_done (by kernel_rfl) ?_ _
        case' bn2_10 =>
          go_simp
          refine hK.out _ _ ?hSn2_15 (fun hHeld => ?hRn2_15)
          case hSn2_15 => ((try dsimp only); exact ⟨has1, has1, Q0 _ inferInstance, Q1 _ inferInstance, Q2 _ inferInstance, P0 _ inferInstance, P1 _ inferInstance, P2 _ inferInstance⟩)
          clear hK K
          try simp only [Act.put, zp1, zp2, zp3, zp4, zp5, zp6]
          refine wpAnyH_ready (rs := [8]) (by kernel_rfl) (by simp) ?_
          refine AllReadyH.cons rfl (fun K hK => ?_) AllReadyH.nil
          go_simp
          refine hK.out _ _ ?hSn2_16 (fun hHeld => ?hRn2_16)
          case hSn2_16 => ((try dsimp only); exact ⟨has1, has1, Q0 _ inferInstance, Q1 _ inferInstance, Q2 _ inferInstance, P0 _ inferInstance, P1 _ inferInstance, P2 _ inferInstance⟩)
          clear hK K
          try simp only [Act.put, zp1, zp2, zp3, zp4, zp5, zp6]
          refine wpAnyH_ready (rs := [10]) (by kernel_rfl) (by simp) ?_
          refine AllReadyH.cons rfl (fun K hK => ?_) AllReadyH.nil
          go_simp
          refine hK.out _ _ ?hSn2_17 (fun hHeld => ?hRn2_17)
          case hSn2_17 => ((try dsimp only); exact ⟨has1, has1, Q0 _ inferInstance, Q1 _ inferInstance, Q2 _ inferInstance, P0 _ inferInstance, P1 _ inferInstance, P2 _ inferInstance⟩)
          clear hK K
          try simp only [Act.put, zp1, zp2, zp3, zp4, zp5, zp6]
          refine wpAnyH_ready (rs := [11]) (by kernel_rfl) (by simp) ?_
          refine AllReadyH.cons rfl (fun K hK => ?_) AllReadyH.nil
          go_simp
          refine hK.out _ _ ?hSn2_18 (fun hHeld => ?hRn2_18)
          case hSn2_18 => ((try dsimp only); exact ⟨has1, has1, Q0 _ inferInstance, Q1 _ inferInstance, Q2 _ inferInstance, P0 _ inferInstance, P1 _ inferInstance, P2 _ inferInstance⟩)
          clear hK K
          try simp only [Act.put, zp1, zp2, zp3, zp4, zp5, zp6]
          refine wpAnyH_done (by kernel_rfl) ?_ _
        all_goals
          go_wp2
          go_meet
          exact ⟨_, _, rfl, rfl, inferInstance, inferInstance, ⟨ext _ _⟩, inferInstance, inferInstance⟩
      case rest =>
      rename World => wx
      obtain ⟨g12, g13, rfl, rfl, _, _, _, _, _⟩ := hcut
      have hgr : g16 < wr.heap.size := LtB.h
      haveI : NeB g12 g16 := ⟨by have h1 := (GeB.h (w := wr) (g := g12)); omega⟩
      haveI : NeB g13 g16 := ⟨by have h1 := (GeB.h (w := wr) (g := g13)); omega⟩
      go_upto_region 6 with fail
      go_cut [14] (fun s14 wy => ∃ (A56 : Option Addr) (c56 g14 : Nat), s14 = .pointer (some ⟨g14, 0, none⟩) ∧ Has wy g16 (.cells #[.bool (sdB3 r y)] 87 (0, 0)) ∧ Has wy g14 (.cells #[.slice A56 (sdT r y).len c56] 26 (0, 0)) ∧ Fs wy A56 wx wy (sdT r y) c56 ∧ Kp wx (XE g16) wy ∧ GeB wx g14)
      case first => as_aux_lemma =>
        refine wp_region_held_drew (S := (fun w' => w'.cell? ⟨g12, 0, none⟩ = some (.slice A1 (fE r).len d1) ∧ w'.cell? ⟨g12, 1, none⟩ = some (.int .i64 (fC r).1) ∧ w'.cell? ⟨g12, 2, none⟩ = some (.int .i64 (fC r).2) ∧ w'.cell? ⟨g13, 0, none⟩ = some (.slice A2 (fE y).len d2) ∧ w'.cell? ⟨g13, 1, none⟩ = some (.int .i64 (fC y).1) ∧ w'.cell? ⟨g13, 2, none⟩ = some (.int .i64 (fC y).2))) (by kernel_rfl) ?hSn3_ (fun hHeld => ?hRn3_)
        case hSn3_ => (exact ⟨has3.1, has3.2.1, has3.2.2, has3.1, has3.2.1, has3.2.2⟩)
        refine wpAnyH_take (i := 0) (v := ?vn3_1) rfl (by kernel_rfl) (by kernel_rfl) (by kernel_rfl) (fun _ _ _ h => h) (Or.inl ⟨by rfl, ?hyn3_1⟩) (by assumption) ?hRn3_1
        case hyn3_1 => (intro w hSw; (try dsimp only at hSw); go_simp; (try with_reducible rfl))
        try simp only [Act.put, zp1, zp2, zp3, zp4, zp5, zp6]
        refine wpAnyH_take (i := 1) (v := ?vn3_2) rfl (by kernel_rfl) (by kernel_rfl) (by kernel_rfl) (fun _ _ _ h => h) (Or.inl ⟨by rfl, ?hyn3_2⟩) (by assumption) ?hRn3_2
        case hyn3_2 => (intro w hSw; (try dsimp only at hSw); go_simp; (try with_reducible rfl))
        try simp only [Act.put, zp1, zp2, zp3, zp4, zp5, zp6]
        refine wpAnyH_take (i := 2) (v := ?vn3_3) rfl (by kernel_rfl) (by kernel_rfl) (by kernel_rfl) (fun _ _ _ h => h) (Or.inl ⟨by rfl, ?hyn3_3⟩) (by assumption) ?hRn3_3
        case hyn3_3 => (intro w hSw; (try dsimp only at hSw); go_simp; (try with_reducible rfl))
        try simp only [Act.put, zp1, zp2, zp3, zp4, zp5, zp6]
        refine wpAnyH_take (i := 3) (v := ?vn3_4) rfl (by kernel_rfl) (by kernel_rfl) (by kernel_rfl) (fun _ _ _ h => h) (Or.inl ⟨by rfl, ?hyn3_4⟩) (by assumption) ?hRn3_4
        case hyn3_4 => (intro w hSw; (try dsimp only at hSw); go_simp; (try with_reducible rfl))
        try simp only [Act.put, zp1, zp2, zp3, zp4, zp5, zp6]
        refine wpAnyH_take (i := 4) (v := ?vn3_5) rfl (by kernel_rfl) (by kernel_rfl) (by kernel_rfl) (fun _ _ _ h => h) (Or.inl ⟨by rfl, ?hyn3_5⟩) (by assumption) ?hRn3_5
        case hyn3_5 => (intro w hSw; (try dsimp only at hSw); go_simp; (try with_reducible rfl))
        try simp only [Act.put, zp1, zp2, zp3, zp4, zp5, zp6]
        refine wpAnyH_take (i := 5) (v := ?vn3_6) rfl (by kernel_rfl) (by kernel_rfl) (by kernel_rfl) (fun _ _ _ h => h) (Or.inl ⟨by rfl, ?hyn3_6⟩) (by assumption) ?hRn3_6
        case hyn3_6 => (intro w hSw; (try dsimp only at hSw); go_simp; (try with_reducible rfl))
        try simp only [Act.put, zp1, zp2, zp3, zp4, zp5, zp6]
        refine wpAnyH_take (i := 7) (v := ?vn3_7) rfl (by kernel_rfl) (by kernel_rfl) (by kernel_rfl) (fun _ _ _ h => h) (Or.inl ⟨by rfl, ?hyn3_7⟩) (by assumption) ?hRn3_7
        case hyn3_7 => (intro w hSw; (try dsimp only at hSw); go_simp; (try with_reducible rfl))
        try simp only [Act.put, zp1, zp2, zp3, zp4, zp5, zp6]
        refine wpAnyH_take (i := 8) (v := ?vn3_8) rfl (by kernel_rfl) (by kernel_rfl) (by kernel_rfl) (fun _ _ _ h => h) (Or.inl ⟨by rfl, ?hyn3_8⟩) (by assumption) ?hRn3_8
        case hyn3_8 => (intro w hSw; (try dsimp only at hSw); go_simp; (try with_reducible rfl))
        try simp only [Act.put, zp1, zp2, zp3, zp4, zp5, zp6]
        refine wpAnyH_take (i := 9) (v := ?vn3_9) rfl (by kernel_rfl) (by kernel_rfl) (by kernel_rfl) (fun _ _ _ h => h) (Or.inl ⟨by rfl, ?hyn3_9⟩) (by assumption) ?hRn3_9
        case hyn3_9 => (intro w hSw; (try dsimp only at hSw); go_simp; (try with_reducible rfl))
        try simp only [Act.put, zp1, zp2, zp3, zp4, zp5, zp6]
        refine wpAnyH_take (i := 10) (v := ?vn3_10) rfl (by kernel_rfl) (by kernel_rfl) (by kernel_rfl) (fun _ _ _ h => h) (Or.inl ⟨by rfl, ?hyn3_10⟩) (by assumption) ?hRn3_10
        case hyn3_10 => (intro w hSw; (try dsimp only at hSw); go_simp; (try with_reducible rfl))
        try simp only [Act.put, zp1, zp2, zp3, zp4, zp5, zp6]
        refine wpAnyH_take (i := 11) (v := ?vn3_11) rfl (by kernel_rfl) (by kernel_rfl) (by kernel_rfl) (fun _ _ _ h => h) (Or.inl ⟨by rfl, ?hyn3_11⟩) (by assumption) ?hRn3_11
        case hyn3_11 => (intro w hSw; (try dsimp only at hSw); go_simp; (try with_reducible rfl))
        try simp only [Act.put, zp1, zp2, zp3, zp4, zp5, zp6]
        refine wpAnyH_ready (rs := [6, 14]) (by kernel_rfl) (by simp) ?_
        refine AllReadyH.cons rfl (fun K hK => ?bn3_12) (AllReadyH.cons rfl (fun K hK => ?bn3_13) (AllReadyH.nil))
        case' bn3_12 =>
          go_simp
          (((fail_if_success (have _q := A49)); go_at_call 142; (with_reducible refine (ksub_any (fE r) (fE y) false g16 _ _ A1 A2 d1 d2 _ (tr _ A1) (tr _ A2) HGE.out.1 HGE.out.2).mono ?_); rintro e49 w49 ⟨A49, c49, he, hf, hb⟩; replace hb : Below _ (World.setCell _ _ (.bool (sdB1 r y))) w49 := hb; replace he : e49 = .returned (.agg #[.slice A49 (sdX r y).len c49]) := he; replace hf : SFresh _ w49 (sdX r y) A49 c49 := hf; subst he; haveI := belM hb; haveI := Fs.of hf; clear hf hb))
          go_wp2_with fail
          refine hK.out _ _ ?hSn3_14 (fun hHeld => ?hRn3_14)
          case hSn3_14 => ((try dsimp only); exact ⟨has3.1, has3.2.1, has3.2.2, has3.1, has3.2.1, has3.2.2⟩)
          clear hK K
          try simp only [Act.put, zp1, zp2, zp3, zp4, zp5, zp6]
          refine wpAnyH_ready (rs := [12, 14]) (by kernel_rfl) (by simp) ?_
          refine AllReadyH.cons rfl (fun K hK => ?bn3_15) (AllReadyH.cons rfl (fun K hK => ?bn3_16) (AllReadyH.nil))
          case' bn3_15 =>
            go_simp
            ((go_at_call 68; (with_reducible refine (over_any (fC r).1 (fC r).2 (fC y).1 (fC y).2 (sdB1 r y) g16 _ HCO.out.1 HCO.out.2.1 HCO.out.2.2 has1 has_frozen).mono ?_); rintro e55 w55 ⟨he, hb⟩; replace hb : Below _ (World.setCell _ _ (.bool (sdB2 r y))) w55 := hb; replace he : e55 = .returned (.agg #[.int .i64 (frN (sdB2 r y) (sdN r y)), .int .i64 (frN (sdB2 r y) (sdD r y))]) := he; subst he; haveI := belM hb; clear hb))
            go_wp2_with fail
            refine hK.out _ _ ?hSn3_17 (fun hHeld => ?hRn3_17)
            case hSn3_17 => ((try dsimp only); exact ⟨has3.1, has3.2.1, has3.2.2, has3.1, has3.2.1, has3.2.2⟩)
            clear hK K
            try simp only [Act.put, zp1, zp2, zp3, zp4, zp5, zp6]
            refine wpAnyH_ready (rs := [13, 14]) (by kernel_rfl) (by simp) ?_
            refine AllReadyH.cons rfl (fun K hK => ?bn3_18) (AllReadyH.cons rfl (fun K hK => ?bn3_19) (AllReadyH.nil))
            case' bn3_18 =>
              go_simp
              ((go_at_call 141; (with_reducible refine (kterm_any (sdX r y) (frN (sdB2 r y) (sdN r y)) (frN (sdB2 r y) (sdD r y)) (sdB2 r y) g16 _ A49 c49 _ (tr _ A49) HIC.out.1 HIC.out.2).mono ?_); rintro e56 w56 ⟨A56, c56, he, hf, hb⟩; replace hb : Below _ (World.setCell _ _ (.bool (sdB3 r y))) w56 := hb; replace he : e56 = .returned (.agg #[.slice A56 (sdT r y).len c56]) := he; replace hf : SFresh _ w56 (sdT r y) A56 c56 := hf; subst he; haveI := belM hb; haveI := Fs.of hf; clear hf hb))
              go_wp2_with fail
              refine hK.out _ _ ?hSn3_20 (fun hHeld => ?hRn3_20)
              case hSn3_20 => ((try dsimp only); exact ⟨has3.1, has3.2.1, has3.2.2, has3.1, has3.2.1, has3.2.2⟩)
              clear hK K
              try simp only [Act.put, zp1, zp2, zp3, zp4, zp5, zp6]
              refine wpAnyH_ready (rs := [14]) (by kernel_rfl) (by simp) ?_
              refine AllReadyH.cons rfl (fun K hK => ?_) AllReadyH.nil
              go_simp
              refine hK.out _ _ ?hSn3_21 (fun hHeld => ?hRn3_21)
              case hSn3_21 => ((try dsimp only); exact ⟨has3.1, has3.2.1, has3.2.2, has3.1, has3.2.1, has3.2.2⟩)
              clear hK K
              try simp only [Act.put, zp1, zp2, zp3, zp4, zp5, zp6]
              refine wpAnyH_ready (rs := [15]) (by kernel_rfl) (by simp) ?_
              refine AllReadyH.cons rfl (fun K hK => ?_) AllReadyH.nil
              go_simp
              refine hK.out _ _ ?hSn3_22 (fun hHeld => ?hRn3_22)
              case hSn3_22 => ((try dsimp only); exact ⟨has3.1, has3.2.1, has3.2.2, has3.1, has3.2.1, has3.2.2⟩)
              clear hK K
              try simp only [Act.put, zp1, zp2, zp3, zp4, zp5, zp6]
              refine wpAnyH_done (by kernel_rfl) ?_ _
            case' bn3_19 =>
              go_simp
              refine hK.out _ _ ?hSn3_23 (fun hHeld => ?hRn3_23)
              case hSn3_23 => ((try dsimp only); exact ⟨has3.1, has3.2.1, has3.2.2, has3.1, has3.2.1, has3.2.2⟩)
              clear hK K
              try simp only [Act.put, zp1, zp2, zp3, zp4, zp5, zp6]
              refine wpAnyH_ready (rs := [13]) (by kernel_rfl) (by simp) ?_
              refine AllReadyH.cons rfl (fun K hK => ?_) AllReadyH.nil
              go_simp
              ((go_at_call 141; (with_reducible refine (kterm_any (sdX r y) (frN (sdB2 r y) (sdN r y)) (frN (sdB2 r y) (sdD r y)) (sdB2 r y) g16 _ A49 c49 _ (tr _ A49) HIC.out.1 HIC.out.2).mono ?_); rintro e56 w56 ⟨A56, c56, he, hf, hb⟩; replace hb : Below _ (World.setCell _ _ (.bool (sdB3 r y))) w56 := hb; replace he : e56 = .returned (.agg #[.slice A56 (sdT r y).len c56]) := he; replace hf : SFresh _ w56 (sdT r y) A56 c56 := hf; subst he; haveI := belM hb; haveI := Fs.of hf; clear hf hb))
              go_wp2_with fail
              refine hK.out _ _ ?hSn3_24 (fun hHeld => ?hRn3_24)
              case hSn3_24 => ((try dsimp only); exact ⟨has3.1, has3.2.1, has3.2.2, has3.1, has3.2.1, has3.2.2⟩)
              clear hK K
              try simp only [Act.put, zp1, zp2, zp3, zp4, zp5, zp6]
              refine wpAnyH_ready (rs := [15]) (by kernel_rfl) (by simp) ?_
              refine AllReadyH.cons rfl (fun K hK => ?_) AllReadyH.nil
              go_simp
              refine hK.out _ _ ?hSn3_25 (fun hHeld => ?hRn3_25)
              case hSn3_25 => ((try dsimp only); exact ⟨has3.1, has3.2.1, has3.2.2, has3.1, has3.2.1, has3.2.2⟩)
              clear hK K
              try simp only [Act.put, zp1, zp2, zp3, zp4, zp5, zp6]
              refine wpAnyH_done (by kernel_rfl) ?_ _
          case' bn3_16 =>
            go_simp
            refine hK.out _ _ ?hSn3_26 (fun hHeld => ?hRn3_26)
            case hSn3_26 => ((try dsimp only); exact ⟨has3.1, has3.2.1, has3.2.2, has3.1, has3.2.1, has3.2.2⟩)
            clear hK K
            try simp only [Act.put, zp1, zp2, zp3, zp4, zp5, zp6]
            refine wpAnyH_ready (rs := [12]) (by kernel_rfl) (by simp) ?_
            refine AllReadyH.cons rfl (fun K hK => ?_) AllReadyH.nil
            go_simp
            ((go_at_call 68; (with_reducible refine (over_any (fC r).1 (fC r).2 (fC y).1 (fC y).2 (sdB1 r y) g16 _ HCO.out.1 HCO.out.2.1 HCO.out.2.2 has1 has_frozen).mono ?_); rintro e55 w55 ⟨he, hb⟩; replace hb : Below _ (World.setCell _ _ (.bool (sdB2 r y))) w55 := hb; replace he : e55 = .returned (.agg #[.int .i64 (frN (sdB2 r y) (sdN r y)), .int .i64 (frN (sdB2 r y) (sdD r y))]) := he; subst he; haveI := belM hb; clear hb))
            go_wp2_with fail
            refine hK.out _ _ ?hSn3_27 (fun hHeld => ?hRn3_27)
            case hSn3_27 => ((try dsimp only); exact ⟨has3.1, has3.2.1, has3.2.2, has3.1, has3.2.1, has3.2.2⟩)
            clear hK K
            try simp only [Act.put, zp1, zp2, zp3, zp4, zp5, zp6]
            refine wpAnyH_ready (rs := [13]) (by kernel_rfl) (by simp) ?_
            refine AllReadyH.cons rfl (fun K hK => ?_) AllReadyH.nil
            go_simp
            ((go_at_call 141; (with_reducible refine (kterm_any (sdX r y) (frN (sdB2 r y) (sdN r y)) (frN (sdB2 r y) (sdD r y)) (sdB2 r y) g16 _ A49 c49 _ (tr _ A49) HIC.out.1 HIC.out.2).mono ?_); rintro e56 w56 ⟨A56, c56, he, hf, hb⟩; replace hb : Below _ (World.setCell _ _ (.bool (sdB3 r y))) w56 := hb; replace he : e56 = .returned (.agg #[.slice A56 (sdT r y).len c56]) := he; replace hf : SFresh _ w56 (sdT r y) A56 c56 := hf; subst he; haveI := belM hb; haveI := Fs.of hf; clear hf hb))
            go_wp2_with fail
            refine hK.out _ _ ?hSn3_28 (fun hHeld => ?hRn3_28)
            case hSn3_28 => ((try dsimp only); exact ⟨has3.1, has3.2.1, has3.2.2, has3.1, has3.2.1, has3.2.2⟩)
            clear hK K
            try simp only [Act.put, zp1, zp2, zp3, zp4, zp5, zp6]
            refine wpAnyH_ready (rs := [15]) (by kernel_rfl) (by simp) ?_
            refine AllReadyH.cons rfl (fun K hK => ?_) AllReadyH.nil
            go_simp
            refine hK.out _ _ ?hSn3_29 (fun hHeld => ?hRn3_29)
            case hSn3_29 => ((try dsimp only); exact ⟨has3.1, has3.2.1, has3.2.2, has3.1, has3.2.1, has3.2.2⟩)
            clear hK K
            try simp only [Act.put, zp1, zp2, zp3, zp4, zp5, zp6]
            refine wpAnyH_done (by kernel_rfl) ?_ _
        case' bn3_13 =>
          go_simp
          refine hK.out _ _ ?hSn3_30 (fun hHeld => ?hRn3_30)
          case hSn3_30 => ((try dsimp only); exact ⟨has3.1, has3.2.1, has3.2.2, has3.1, has3.2.1, has3.2.2⟩)
          clear hK K
          try simp only [Act.put, zp1, zp2, zp3, zp4, zp5, zp6]
          refine wpAnyH_ready (rs := [6]) (by kernel_rfl) (by simp) ?_
          refine AllReadyH.cons rfl (fun K hK => ?_) AllReadyH.nil
          go_simp
          (((fail_if_success (have _q := A49)); go_at_call 142; (with_reducible refine (ksub_any (fE r) (fE y) false g16 _ _ A1 A2 d1 d2 _ (tr _ A1) (tr _ A2) HGE.out.1 HGE.out.2).mono ?_); rintro e49 w49 ⟨A49, c49, he, hf, hb⟩; replace hb : Below _ (World.setCell _ _ (.bool (sdB1 r y))) w49 := hb; replace he : e49 = .returned (.agg #[.slice A49 (sdX r y).len c49]) := he; replace hf : SFresh _ w49 (sdX r y) A49 c49 := hf; subst he; haveI := belM hb; haveI := Fs.of hf; clear hf hb))
          go_wp2_with fail
          refine hK.out _ _ ?hSn3_31 (fun hHeld => ?hRn3_31)
          case hSn3_31 => ((try dsimp only); exact ⟨has3.1, has3.2.1, has3.2.2, has3.1, has3.2.1, has3.2.2⟩)
          clear hK K
          try simp only [Act.put, zp1, zp2, zp3, zp4, zp5, zp6]
          refine wpAnyH_ready (rs := [12]) (by kernel_rfl) (by simp) ?_
          refine AllReadyH.cons rfl (fun K hK => ?_) AllReadyH.nil
          go_simp
          ((go_at_call 68; (with_reducible refine (over_any (fC r).1 (fC r).2 (fC y).1 (fC y).2 (sdB1 r y) g16 _ HCO.out.1 HCO.out.2.1 HCO.out.2.2 has1 has_frozen).mono ?_); rintro e55 w55 ⟨he, hb⟩; replace hb : Below _ (World.setCell _ _ (.bool (sdB2 r y))) w55 := hb; replace he : e55 = .returned (.agg #[.int .i64 (frN (sdB2 r y) (sdN r y)), .int .i64 (frN (sdB2 r y) (sdD r y))]) := he; subst he; haveI := belM hb; clear hb))
          go_wp2_with fail
          refine hK.out _ _ ?hSn3_32 (fun hHeld => ?hRn3_32)
          case hSn3_32 => ((try dsimp only); exact ⟨has3.1, has3.2.1, has3.2.2, has3.1, has3.2.1, has3.2.2⟩)
          clear hK K
          try simp only [Act.put, zp1, zp2, zp3, zp4, zp5, zp6]
          refine wpAnyH_ready (rs := [13]) (by kernel_rfl) (by simp) ?_
          refine AllReadyH.cons rfl (fun K hK => ?_) AllReadyH.nil
          go_simp
          ((go_at_call 141; (with_reducible refine (kterm_any (sdX r y) (frN (sdB2 r y) (sdN r y)) (frN (sdB2 r y) (sdD r y)) (sdB2 r y) g16 _ A49 c49 _ (tr _ A49) HIC.out.1 HIC.out.2).mono ?_); rintro e56 w56 ⟨A56, c56, he, hf, hb⟩; replace hb : Below _ (World.setCell _ _ (.bool (sdB3 r y))) w56 := hb; replace he : e56 = .returned (.agg #[.slice A56 (sdT r y).len c56]) := he; replace hf : SFresh _ w56 (sdT r y) A56 c56 := hf; subst he; haveI := belM hb; haveI := Fs.of hf; clear hf hb))
          go_wp2_with fail
          refine hK.out _ _ ?hSn3_33 (fun hHeld => ?hRn3_33)
          case hSn3_33 => ((try dsimp only); exact ⟨has3.1, has3.2.1, has3.2.2, has3.1, has3.2.1, has3.2.2⟩)
          clear hK K
          try simp only [Act.put, zp1, zp2, zp3, zp4, zp5, zp6]
          refine wpAnyH_ready (rs := [15]) (by kernel_rfl) (by simp) ?_
          refine AllReadyH.cons rfl (fun K hK => ?_) AllReadyH.nil
          go_simp
          refine hK.out _ _ ?hSn3_34 (fun hHeld => ?hRn3_34)
          case hSn3_34 => ((try dsimp only); exact ⟨has3.1, has3.2.1, has3.2.2, has3.1, has3.2.1, has3.2.2⟩)
          clear hK K
          try simp only [Act.put, zp1, zp2, zp3, zp4, zp5, zp6]
          refine wpAnyH_done (by kernel_rfl) ?_ _
        all_goals
          go_wp2
          go_meet
          exact ⟨A56, c56, _, rfl, inferInstance, inferInstance, Fs.lp, kp _ _ _, inferInstance⟩
      case rest =>
      rename World => wy
      obtain ⟨A56, c56, g14, rfl, _, _, _, _, _⟩ := hcut
      haveI : NeB g14 g16 := ⟨by have h1 := (GeB.h (w := wx) (g := g14)); have h2 := (LeB.h (w := wr) (W := wx)); omega⟩
      haveI : NeB g14 g11 := ⟨by have h1 := (GeB.h (w := wx) (g := g14)); have h2 := (LeB.h (w := wr) (W := wx)); have h3 : g11 < wr.heap.size := LtB.h; omega⟩
      haveI : NeB g14 g10 := ⟨by have h1 := (GeB.h (w := wx) (g := g14)); have h2 := (LeB.h (w := wr) (W := wx)); have h3 : g10 < wr.heap.size := LtB.h; omega⟩
      have GT : Hid (sGood (sdT r y) = true) := keepS_good fun z h => (told_eq h).1 ▸ (told_eq h).2.2
      obtain ⟨Q, hQ⟩ : ∃ Q, sdQ q r y = Q := ⟨_, rfl⟩
      obtain ⟨b4, h4⟩ : ∃ b4, sdB4 q r y = b4 := ⟨_, rfl⟩
      obtain ⟨M, hM⟩ : ∃ M, sdM r y = M := ⟨_, rfl⟩
      obtain ⟨b5, h5⟩ : ∃ b5, sdB5 q r y = b5 := ⟨_, rfl⟩
      obtain ⟨R, hR⟩ : ∃ R, sdR q r y = R := ⟨_, rfl⟩
      have HQ : Hid (sumS q (sdT r y) = Q) := hQ
      have HM : Hid (prodS (sdT r y) y = M) := hM
      have HR : Hid (sumS r (negP (keepS b4 M)) = R) := by show _ = _; rw [← h4, ← hM]; exact hR
      have HB4 : Hid ((sdB3 r y || !Q.isSome) = b4) := by show _ = _; rw [← hQ]; exact h4
      have HB5 : Hid ((b4 || !M.isSome) = b5) := by show _ = _; rw [← h4, ← hM]; exact h5
      have HN3 : Hid (sdivGo y N false .nil x = sdivGo y m' (b5 || !R.isSome) (keepS (sdB3 r y) Q) (keepS b5 R)) := by
        show _ = _
        rw [HN2.out, ← h5, ← hQ, ← hR]; rfl
      have GQ1 : Hid (sGood (keepS (sdB3 r y) Q) = true) := keepS_good fun z h => sumS_good (HQ.out.trans h)
      have GM : Hid (sGood (keepS b4 M) = true) := keepS_good fun z h => prodS_good (HM.out.trans h)
      have GR1 : Hid (sGood (keepS b5 R) = true) := keepS_good fun z h => sumS_good (HR.out.trans h)
      clear hQ h4 hM h5 hR HN2
      generalize sdT r y = t at *
      generalize sdB3 r y = b3 at *
      go_upto_region 8 with (first | (go_at_call 71; (with_reducible refine (kadd_any q t b3 g16 _ _ Aq A56 _ _ _ (tr _ Aq) (tr _ A56) GQ.out GT.out has1 has_frozen).mono ?_); rintro e60 w60 ⟨A60, c60, he, hf, hb⟩; rw [HQ.out] at he hf hb; rw [HB4.out] at hb; subst he; haveI := belM hb; haveI := Fs.of hf; clear hf hb))
      refine wp_region_held_drew (S := (fun w' => w'.cell? ⟨g14, 0, none⟩ = some (.slice A56 t.len c56) ∧ w'.cell? ⟨g4, 0, none⟩ = some (.slice (some ⟨b', o', none⟩) y.len c'))) (by kernel_rfl) ?hSn4_ (fun hHeld => ?hRn4_)
      case hSn4_ => (exact ⟨has1, has1⟩)
      refine wpAnyH_take (i := 0) (v := ?vn4_1) rfl (by kernel_rfl) (by kernel_rfl) (by kernel_rfl) (fun _ _ _ h => h) (Or.inl ⟨by rfl, ?hyn4_1⟩) (by assumption) ?hRn4_1
      case hyn4_1 => (intro w hSw; (try dsimp only at hSw); go_simp; (try with_reducible rfl))
      try simp only [Act.put, zp1, zp2, zp3, zp4, zp5, zp6]
      refine wpAnyH_take (i := 2) (v := ?vn4_2) rfl (by kernel_rfl) (by kernel_rfl) (by kernel_rfl) (fun _ _ _ h => h) (Or.inl ⟨by rfl, ?hyn4_2⟩) (by assumption) ?hRn4_2
      case hyn4_2 => (intro w hSw; (try dsimp only at hSw); go_simp; (try with_reducible rfl))
      try simp only [Act.put, zp1, zp2, zp3, zp4, zp5, zp6]
      refine wpAnyH_take (i := 3) (v := ?vn4_3) rfl (by kernel_rfl) (by kernel_rfl) (by kernel_rfl) (fun _ _ _ h => h) (Or.inl ⟨by rfl, ?hyn4_3⟩) (by assumption) ?hRn4_3
      case hyn4_3 => (intro w hSw; (try dsimp only at hSw); go_simp; (try with_reducible rfl))
      try simp only [Act.put, zp1, zp2, zp3, zp4, zp5, zp6]
      refine wpAnyH_take (i := 4) (v := ?vn4_4) rfl (by kernel_rfl) (by kernel_rfl) (by kernel_rfl) (fun _ _ _ h => h) (Or.inl ⟨by rfl, ?hyn4_4⟩) (by assumption) ?hRn4_4
      case hyn4_4 => (intro w hSw; (try dsimp only at hSw); go_simp; (try with_reducible rfl))
      try simp only [Act.put, zp1, zp2, zp3, zp4, zp5, zp6]
      refine wpAnyH_ready (rs := [1, 5]) (by kernel_rfl) (by simp) ?_
      refine AllReadyH.cons rfl (fun K hK => ?bn4_5) (AllReadyH.cons rfl (fun K hK => ?bn4_6) (AllReadyH.nil))
      case' bn4_5 =>
        go_simp
        refine hK.out _ _ ?hSn4_7 (fun hHeld => ?hRn4_7)
        case hSn4_7 => ((try dsimp only); exact ⟨has1, has1⟩)
        clear hK K
        try simp only [Act.put, zp1, zp2, zp3, zp4, zp5, zp6]
        refine wpAnyH_ready (rs := [5]) (by kernel_rfl) (by simp) ?_
        refine AllReadyH.cons rfl (fun K hK => ?_) AllReadyH.nil
        go_simp
        ((go_at_call 66; (with_reducible refine (kmul_any t y b4 g16 _ _ A56 (some ⟨b', o', none⟩) _ _ _ (tr _ A56) (tr _ (some ⟨b', o', none⟩)) GT.out GY.out has1 has_frozen).mono ?_); rintro e66 w66 ⟨A66, c66, he, hf, hb⟩; rw [HM.out] at he hf hb; rw [HB5.out] at hb; subst he; haveI := belM hb; haveI := Fs.of hf; clear hf hb))
        go_wp2_with fail
        refine hK.out _ _ ?hSn4_8 (fun hHeld => ?hRn4_8)
        case hSn4_8 => ((try dsimp only); exact ⟨has1, has1⟩)
        clear hK K
        try simp only [Act.put, zp1, zp2, zp3, zp4, zp5, zp6]
        refine wpAnyH_ready (rs := [6]) (by kernel_rfl) (by simp) ?_
        refine AllReadyH.cons rfl (fun K hK => ?_) AllReadyH.nil
        go_simp
        (((fail_if_success (have _q := A67)); go_at_call 142; (with_reducible refine (ksub_any r (keepS b4 M) b5 g16 _ _ (some ⟨b, o, none⟩) A66 _ _ _ (tr _ (some ⟨b, o, none⟩)) (tr _ A66) GR.out GM.out).mono ?_); rintro e67 w67 ⟨A67, c67, he, hf, hb⟩; rw [HR.out] at he hf hb; subst he; haveI := belM hb; haveI := Fs.of hf; clear hf hb))
        go_wp2_with fail
        refine hK.out _ _ ?hSn4_9 (fun hHeld => ?hRn4_9)
        case hSn4_9 => ((try dsimp only); exact ⟨has1, has1⟩)
        clear hK K
        try simp only [Act.put, zp1, zp2, zp3, zp4, zp5, zp6]
        refine wpAnyH_ready (rs := [7]) (by kernel_rfl) (by simp) ?_
        refine AllReadyH.cons rfl (fun K hK => ?_) AllReadyH.nil
        go_simp
        refine hK.out _ _ ?hSn4_10 (fun hHeld => ?hRn4_10)
        case hSn4_10 => ((try dsimp only); exact ⟨has1, has1⟩)
        clear hK K
        try simp only [Act.put, zp1, zp2, zp3, zp4, zp5, zp6]
        refine wpAnyH_done (by kernel_rfl) ?_ _
      case' bn4_6 =>
        go_simp
        ((go_at_call 66; (with_reducible refine (kmul_any t y b4 g16 _ _ A56 (some ⟨b', o', none⟩) _ _ _ (tr _ A56) (tr _ (some ⟨b', o', none⟩)) GT.out GY.out has1 has_frozen).mono ?_); rintro e66 w66 ⟨A66, c66, he, hf, hb⟩; rw [HM.out] at he hf hb; rw [HB5.out] at hb; subst he; haveI := belM hb; haveI := Fs.of hf; clear hf hb))
        go_wp2_with fail
        refine hK.out _ _ ?hSn4_11 (fun hHeld => ?hRn4_11)
        case hSn4_11 => ((try dsimp only); exact ⟨has1, has1⟩)
        clear hK K
        try simp only [Act.put, zp1, zp2, zp3, zp4, zp5, zp6]
        refine wpAnyH_ready (rs := [1]) (by kernel_rfl) (by simp) ?_
        refine AllReadyH.cons rfl (fun K hK => ?_) AllReadyH.nil
        go_simp
        refine hK.out _ _ ?hSn4_12 (fun hHeld => ?hRn4_12)
        case hSn4_12 => ((try dsimp only); exact ⟨has1, has1⟩)
        clear hK K
        try simp only [Act.put, zp1, zp2, zp3, zp4, zp5, zp6]
        refine wpAnyH_ready (rs := [6]) (by kernel_rfl) (by simp) ?_
        refine AllReadyH.cons rfl (fun K hK => ?_) AllReadyH.nil
        go_simp
        (((fail_if_success (have _q := A67)); go_at_call 142; (with_reducible refine (ksub_any r (keepS b4 M) b5 g16 _ _ (some ⟨b, o, none⟩) A66 _ _ _ (tr _ (some ⟨b, o, none⟩)) (tr _ A66) GR.out GM.out).mono ?_); rintro e67 w67 ⟨A67, c67, he, hf, hb⟩; rw [HR.out] at he hf hb; subst he; haveI := belM hb; haveI := Fs.of hf; clear hf hb))
        go_wp2_with fail
        refine hK.out _ _ ?hSn4_13 (fun hHeld => ?hRn4_13)
        case hSn4_13 => ((try dsimp only); exact ⟨has1, has1⟩)
        clear hK K
        try simp only [Act.put, zp1, zp2, zp3, zp4, zp5, zp6]
        refine wpAnyH_ready (rs := [7]) (by kernel_rfl) (by simp) ?_
        refine AllReadyH.cons rfl (fun K hK => ?_) AllReadyH.nil
        go_simp
        refine hK.out _ _ ?hSn4_14 (fun hHeld => ?hRn4_14)
        case hSn4_14 => ((try dsimp only); exact ⟨has1, has1⟩)
        clear hK K
        try simp only [Act.put, zp1, zp2, zp3, zp4, zp5, zp6]
        refine wpAnyH_done (by kernel_rfl) ?_ _
      all_goals
        go_wp2
        exact ⟨⟨m', _, A60, c60, _, A67, c67, _, by go_num, by omega, inferInstance, inferInstance, inferInstance, Fs.lp, Tr.lp (XU X (XU (XE g6) (XU (XE g7) (XU (XE g16) (XU (XE g10) (XE g11)))))), kp _ _ _, GQ1, GR1, HN3⟩, by simp only [intOf]; omega⟩
    · have HE : Hid (sdivGo y N false .nil x = (bad, q, r)) := by
        show _ = _
        rw [HS.out]
        by_cases hm0 : 0 < m
        · exact sdivGo_stop m fun h => hgo ⟨hm0, h.2, h.1⟩
        · rw [show m = 0 by omega]; rfl
      clear HS
      have HR1 : Hid ((sdivGo y N false .nil x).1 = bad ∧ (sdivGo y N false .nil x).2.1 = q ∧ (sdivGo y N false .nil x).2.2 = r) := by
        show _ ∧ _
        rw [HE.out]
        exact ⟨rfl, rfl, rfl⟩
      by_cases hkN : (0 : Int) < (m : Int)
      · cases bad
        · have hr0 : r.len = 0 := Classical.byContradiction fun h => hgo ⟨by omega, rfl, h⟩
          have hr1 : ((r.len : Int) == 0) = true := by simpa using hr0
          clear hgo hr0
          go_upto_region 9 with (first | (go_at_call 90; refine (suZero_any r Ar cr _).mono ?_; rintro e23 w23 ⟨rfl, hb⟩; haveI : Bel _ w23 := ⟨hb⟩; clear hb))
          refine wp_region_held_drew (S := (fun w' => w'.cell? ⟨g10, 0, none⟩ = some (.slice Aq q.len cq) ∧ w'.cell? ⟨g11, 0, none⟩ = some (.slice Ar r.len cr) ∧ w'.cell? ⟨g16, 0, none⟩ = some (.bool false))) (by kernel_rfl) ?hSn5_ (fun hHeld => ?hRn5_)
          case hSn5_ => (exact ⟨has1, has1, has1⟩)
          refine wpAnyH_take (i := 0) (v := ?vn5_1) rfl (by kernel_rfl) (by kernel_rfl) (by kernel_rfl) (fun _ _ _ h => h) (Or.inl ⟨by rfl, ?hyn5_1⟩) (by assumption) ?hRn5_1
          case hyn5_1 => (intro w hSw; (try dsimp only at hSw); go_simp; (try with_reducible rfl))
          try simp only [Act.put, zp1, zp2, zp3, zp4, zp5, zp6]
          refine wpAnyH_take (i := 1) (v := ?vn5_2) rfl (by kernel_rfl) (by kernel_rfl) (by kernel_rfl) (fun _ _ _ h => h) (Or.inl ⟨by rfl, ?hyn5_2⟩) (by assumption) ?hRn5_2
          case hyn5_2 => (intro w hSw; (try dsimp only at hSw); go_simp; (try with_reducible rfl))
          try simp only [Act.put, zp1, zp2, zp3, zp4, zp5, zp6]
          refine wpAnyH_take (i := 2) (v := ?vn5_3) rfl (by kernel_rfl) (by kernel_rfl) (by kernel_rfl) (fun _ _ _ h => h) (Or.inl ⟨by rfl, ?hyn5_3⟩) (by assumption) ?hRn5_3
          case hyn5_3 => (intro w hSw; (try dsimp only at hSw); go_simp; (try with_reducible rfl))
          try simp only [Act.put, zp1, zp2, zp3, zp4, zp5, zp6]
          refine wpAnyH_take (i := 3) (v := ?vn5_4) rfl (by kernel_rfl) (by kernel_rfl) (by kernel_rfl) (fun _ _ _ h => h) (Or.inl ⟨by rfl, ?hyn5_4⟩) (by assumption) ?hRn5_4
          case hyn5_4 => (intro w hSw; (try dsimp only at hSw); go_simp; (try with_reducible rfl))
          try simp only [Act.put, zp1, zp2, zp3, zp4, zp5, zp6]
          refine wpAnyH_take (i := 4) (v := ?vn5_5) rfl (by kernel_rfl) (by kernel_rfl) (by kernel_rfl) (fun _ _ _ h => h) (Or.inl ⟨by rfl, ?hyn5_5⟩) (by assumption) ?hRn5_5
          case hyn5_5 => (intro w hSw; (try dsimp only at hSw); go_simp; (try with_reducible rfl))
          try simp only [Act.put, zp1, zp2, zp3, zp4, zp5, zp6]
          refine wpAnyH_take (i := 5) (v := ?vn5_6) rfl (by kernel_rfl) (by kernel_rfl) (by kernel_rfl) (fun _ _ _ h => h) (Or.inl ⟨by rfl, ?hyn5_6⟩) (by assumption) ?hRn5_6
          case hyn5_6 => (intro w hSw; (try dsimp only at hSw); go_simp; (try with_reducible rfl))
          try simp only [Act.put, zp1, zp2, zp3, zp4, zp5, zp6]
          refine wpAnyH_take (i := 6) (v := ?vn5_7) rfl (by kernel_rfl) (by kernel_rfl) (by kernel_rfl) (fun _ _ _ h => h) (Or.inl ⟨by rfl, ?hyn5_7⟩) (by assumption) ?hRn5_7
          case hyn5_7 => (intro w hSw; (try dsimp only at hSw); go_simp; (try with_reducible rfl))
          try simp only [Act.put, zp1, zp2, zp3, zp4, zp5, zp6]
          refine wpAnyH_ready (rs := [7]) (by kernel_rfl) (by simp) ?_
          refine AllReadyH.cons rfl (fun K hK => ?_) AllReadyH.nil
          go_simp
          refine hK.out _ _ ?hSn5_8 (fun hHeld => ?hRn5_8)
          case hSn5_8 => ((try dsimp only); exact ⟨has1, has1, has1⟩)
          clear hK K
          try simp only [Act.put, zp1, zp2, zp3, zp4, zp5, zp6]
          refine wpAnyH_ready (rs := [8]) (by kernel_rfl) (by simp) ?_
          refine AllReadyH.cons rfl (fun K hK => ?_) AllReadyH.nil
          go_simp
          refine hK.out _ _ ?hSn5_9 (fun hHeld => ?hRn5_9)
          case hSn5_9 => ((try dsimp only); exact ⟨has1, has1, has1⟩)
          clear hK K
          try simp only [Act.put, zp1, zp2, zp3, zp4, zp5, zp6]
          refine wpAnyH_take (i := 9) (v := ?vn5_10) rfl (by kernel_rfl) (by kernel_rfl) (by kernel_rfl) (fun _ _ _ h => h) (Or.inl ⟨by rfl, ?hyn5_10⟩) (by assumption) ?hRn5_10
          case hyn5_10 => (intro w hSw; (try dsimp only at hSw); go_simp; (try with_reducible rfl))
          try simp only [Act.put, zp1, zp2, zp3, zp4, zp5, zp6]
          refine wpAnyH_done (by kernel_rfl) ?_ _
          all_goals
            go_wp2
            (refine bodyPost_ret (v := .tuple #[.agg #[.slice Aq q.len cq], .agg #[.slice Ar r.len cr], .bool (!false)]) (by simp [results, Tryz.results91, go_sem]) rfl ?_; rw [HR1.out.1, HR1.out.2.1, HR1.out.2.2]; exact ⟨Aq, cq, Ar, cr, rfl, trx (XL w) _ Aq, trx X _ Ar, GQ.out, GR.out, ext w _⟩)
        · by_cases hr0 : r.len = 0
          · have hr1 : ((r.len : Int) == 0) = true := by simpa using hr0
            clear hgo hr0
            go_upto_region 9 with (first | (go_at_call 90; refine (suZero_any r Ar cr _).mono ?_; rintro e23 w23 ⟨rfl, hb⟩; haveI : Bel _ w23 := ⟨hb⟩; clear hb))
            refine wp_region_held_drew (S := (fun w' => w'.cell? ⟨g10, 0, none⟩ = some (.slice Aq q.len cq) ∧ w'.cell? ⟨g11, 0, none⟩ = some (.slice Ar r.len cr) ∧ w'.cell? ⟨g16, 0, none⟩ = some (.bool true))) (by kernel_rfl) ?hSn6_ (fun hHeld => ?hRn6_)
            case hSn6_ => (exact ⟨has1, has1, has1⟩)
            refine wpAnyH_take (i := 0) (v := ?vn6_1) rfl (by kernel_rfl) (by kernel_rfl) (by kernel_rfl) (fun _ _ _ h => h) (Or.inl ⟨by rfl, ?hyn6_1⟩) (by assumption) ?hRn6_1
            case hyn6_1 => (intro w hSw; (try dsimp only at hSw); go_simp; (try with_reducible rfl))
            try simp only [Act.put, zp1, zp2, zp3, zp4, zp5, zp6]
            refine wpAnyH_take (i := 1) (v := ?vn6_2) rfl (by kernel_rfl) (by kernel_rfl) (by kernel_rfl) (fun _ _ _ h => h) (Or.inl ⟨by rfl, ?hyn6_2⟩) (by assumption) ?hRn6_2
            case hyn6_2 => (intro w hSw; (try dsimp only at hSw); go_simp; (try with_reducible rfl))
            try simp only [Act.put, zp1, zp2, zp3, zp4, zp5, zp6]
            refine wpAnyH_take (i := 2) (v := ?vn6_3) rfl (by kernel_rfl) (by kernel_rfl) (by kernel_rfl) (fun _ _ _ h => h) (Or.inl ⟨by rfl, ?hyn6_3⟩) (by assumption) ?hRn6_3
            case hyn6_3 => (intro w hSw; (try dsimp only at hSw); go_simp; (try with_reducible rfl))
            try simp only [Act.put, zp1, zp2, zp3, zp4, zp5, zp6]
            refine wpAnyH_take (i := 3) (v := ?vn6_4) rfl (by kernel_rfl) (by kernel_rfl) (by kernel_rfl) (fun _ _ _ h => h) (Or.inl ⟨by rfl, ?hyn6_4⟩) (by assumption) ?hRn6_4
            case hyn6_4 => (intro w hSw; (try dsimp only at hSw); go_simp; (try with_reducible rfl))
            try simp only [Act.put, zp1, zp2, zp3, zp4, zp5, zp6]
            refine wpAnyH_take (i := 4) (v := ?vn6_5) rfl (by kernel_rfl) (by kernel_rfl) (by kernel_rfl) (fun _ _ _ h => h) (Or.inl ⟨by rfl, ?hyn6_5⟩) (by assumption) ?hRn6_5
            case hyn6_5 => (intro w hSw; (try dsimp only at hSw); go_simp; (try with_reducible rfl))
            try simp only [Act.put, zp1, zp2, zp3, zp4, zp5, zp6]
            refine wpAnyH_take (i := 5) (v := ?vn6_6) rfl (by kernel_rfl) (by kernel_rfl) (by kernel_rfl) (fun _ _ _ h => h) (Or.inl ⟨by rfl, ?hyn6_6⟩) (by assumption) ?hRn6_6
            case hyn6_6 => (intro w hSw; (try dsimp only at hSw); go_simp; (try with_reducible rfl))
            try simp only [Act.put, zp1, zp2, zp3, zp4, zp5, zp6]
            refine wpAnyH_take (i := 6) (v := ?vn6_7) rfl (by kernel_rfl) (by kernel_rfl) (by kernel_rfl) (fun _ _ _ h => h) (Or.inl ⟨by rfl, ?hyn6_7⟩) (by assumption) ?hRn6_7
            case hyn6_7 => (intro w hSw; (try dsimp only at hSw); go_simp; (try with_reducible rfl))
            try simp only [Act.put, zp1, zp2, zp3, zp4, zp5, zp6]
            refine wpAnyH_ready (rs := [7]) (by kernel_rfl) (by simp) ?_
            refine AllReadyH.cons rfl (fun K hK => ?_) AllReadyH.nil
            go_simp
            refine hK.out _ _ ?hSn6_8 (fun hHeld => ?hRn6_8)
            case hSn6_8 => ((try dsimp only); exact ⟨has1, has1, has1⟩)
            clear hK K
            try simp only [Act.put, zp1, zp2, zp3, zp4, zp5, zp6]
            refine wpAnyH_ready (rs := [8]) (by kernel_rfl) (by simp) ?_
            refine AllReadyH.cons rfl (fun K hK => ?_) AllReadyH.nil
            go_simp
            refine hK.out _ _ ?hSn6_9 (fun hHeld => ?hRn6_9)
            case hSn6_9 => ((try dsimp only); exact ⟨has1, has1, has1⟩)
            clear hK K
            try simp only [Act.put, zp1, zp2, zp3, zp4, zp5, zp6]
            refine wpAnyH_take (i := 9) (v := ?vn6_10) rfl (by kernel_rfl) (by kernel_rfl) (by kernel_rfl) (fun _ _ _ h => h) (Or.inl ⟨by rfl, ?hyn6_10⟩) (by assumption) ?hRn6_10
            case hyn6_10 => (intro w hSw; (try dsimp only at hSw); go_simp; (try with_reducible rfl))
            try simp only [Act.put, zp1, zp2, zp3, zp4, zp5, zp6]
            refine wpAnyH_done (by kernel_rfl) ?_ _
            all_goals
              go_wp2
              (refine bodyPost_ret (v := .tuple #[.agg #[.slice Aq q.len cq], .agg #[.slice Ar r.len cr], .bool (!true)]) (by simp [results, Tryz.results91, go_sem]) rfl ?_; rw [HR1.out.1, HR1.out.2.1, HR1.out.2.2]; exact ⟨Aq, cq, Ar, cr, rfl, trx (XL w) _ Aq, trx X _ Ar, GQ.out, GR.out, ext w _⟩)
          · have hr1 : ((r.len : Int) == 0) = false := by simp; omega
            clear hgo hr0
            go_upto_region 9 with (first | (go_at_call 90; refine (suZero_any r Ar cr _).mono ?_; rintro e23 w23 ⟨rfl, hb⟩; haveI : Bel _ w23 := ⟨hb⟩; clear hb))
            refine wp_region_held_drew (S := (fun w' => w'.cell? ⟨g10, 0, none⟩ = some (.slice Aq q.len cq) ∧ w'.cell? ⟨g11, 0, none⟩ = some (.slice Ar r.len cr) ∧ w'.cell? ⟨g16, 0, none⟩ = some (.bool true))) (by kernel_rfl) ?hSn7_ (fun hHeld => ?hRn7_)
            case hSn7_ => (exact ⟨has1, has1, has1⟩)
            refine wpAnyH_take (i := 0) (v := ?vn7_1) rfl (by kernel_rfl) (by kernel_rfl) (by kernel_rfl) (fun _ _ _ h => h) (Or.inl ⟨by rfl, ?hyn7_1⟩) (by assumption) ?hRn7_1
            case hyn7_1 => (intro w hSw; (try dsimp only at hSw); go_simp; (try with_reducible rfl))
            try simp only [Act.put, zp1, zp2, zp3, zp4, zp5, zp6]
            refine wpAnyH_take (i := 1) (v := ?vn7_2) rfl (by kernel_rfl) (by kernel_rfl) (by kernel_rfl) (fun _ _ _ h => h) (Or.inl ⟨by rfl, ?hyn7_2⟩) (by assumption) ?hRn7_2
            case hyn7_2 => (intro w hSw; (try dsimp only at hSw); go_simp; (try with_reducible rfl))
            try simp only [Act.put, zp1, zp2, zp3, zp4, zp5, zp6]
            refine wpAnyH_take (i := 2) (v := ?vn7_3) rfl (by kernel_rfl) (by kernel_rfl) (by kernel_rfl) (fun _ _ _ h => h) (Or.inl ⟨by rfl, ?hyn7_3⟩) (by assumption) ?hRn7_3
            case hyn7_3 => (intro w hSw; (try dsimp only at hSw); go_simp; (try with_reducible rfl))
            try simp only [Act.put, zp1, zp2, zp3, zp4, zp5, zp6]
            refine wpAnyH_take (i := 3) (v := ?vn7_4) rfl (by kernel_rfl) (by kernel_rfl) (by kernel_rfl) (fun _ _ _ h => h) (Or.inl ⟨by rfl, ?hyn7_4⟩) (by assumption) ?hRn7_4
            case hyn7_4 => (intro w hSw; (try dsimp only at hSw); go_simp; (try with_reducible rfl))
            try simp only [Act.put, zp1, zp2, zp3, zp4, zp5, zp6]
            refine wpAnyH_take (i := 4) (v := ?vn7_5) rfl (by kernel_rfl) (by kernel_rfl) (by kernel_rfl) (fun _ _ _ h => h) (Or.inl ⟨by rfl, ?hyn7_5⟩) (by assumption) ?hRn7_5
            case hyn7_5 => (intro w hSw; (try dsimp only at hSw); go_simp; (try with_reducible rfl))
            try simp only [Act.put, zp1, zp2, zp3, zp4, zp5, zp6]
            refine wpAnyH_take (i := 5) (v := ?vn7_6) rfl (by kernel_rfl) (by kernel_rfl) (by kernel_rfl) (fun _ _ _ h => h) (Or.inl ⟨by rfl, ?hyn7_6⟩) (by assumption) ?hRn7_6
            case hyn7_6 => (intro w hSw; (try dsimp only at hSw); go_simp; (try with_reducible rfl))
            try simp only [Act.put, zp1, zp2, zp3, zp4, zp5, zp6]
            refine wpAnyH_take (i := 6) (v := ?vn7_7) rfl (by kernel_rfl) (by kernel_rfl) (by kernel_rfl) (fun _ _ _ h => h) (Or.inl ⟨by rfl, ?hyn7_7⟩) (by assumption) ?hRn7_7
            case hyn7_7 => (intro w hSw; (try dsimp only at hSw); go_simp; (try with_reducible rfl))
            try simp only [Act.put, zp1, zp2, zp3, zp4, zp5, zp6]
            refine wpAnyH_ready (rs := [7]) (by kernel_rfl) (by simp) ?_
            refine AllReadyH.cons rfl (fun K hK => ?_) AllReadyH.nil
            go_simp
            refine hK.out _ _ ?hSn7_8 (fun hHeld => ?hRn7_8)
            case hSn7_8 => ((try dsimp only); exact ⟨has1, has1, has1⟩)
            clear hK K
            try simp only [Act.put, zp1, zp2, zp3, zp4, zp5, zp6]
            refine wpAnyH_ready (rs := [8]) (by kernel_rfl) (by simp) ?_
            refine AllReadyH.cons rfl (fun K hK => ?_) AllReadyH.nil
            go_simp
            refine hK.out _ _ ?hSn7_9 (fun hHeld => ?hRn7_9)
            case hSn7_9 => ((try dsimp only); exact ⟨has1, has1, has1⟩)
            clear hK K
            try simp only [Act.put, zp1, zp2, zp3, zp4, zp5, zp6]
            refine wpAnyH_take (i := 9) (v := ?vn7_10) rfl (by kernel_rfl) (by kernel_rfl) (by kernel_rfl) (fun _ _ _ h => h) (Or.inl ⟨by rfl, ?hyn7_10⟩) (by assumption) ?hRn7_10
            case hyn7_10 => (intro w hSw; (try dsimp only at hSw); go_simp; (try with_reducible rfl))
            try simp only [Act.put, zp1, zp2, zp3, zp4, zp5, zp6]
            refine wpAnyH_done (by kernel_rfl) ?_ _
            all_goals
              go_wp2
              (refine bodyPost_ret (v := .tuple #[.agg #[.slice Aq q.len cq], .agg #[.slice Ar r.len cr], .bool (!true)]) (by simp [results, Tryz.results91, go_sem]) rfl ?_; rw [HR1.out.1, HR1.out.2.1, HR1.out.2.2]; exact ⟨Aq, cq, Ar, cr, rfl, trx (XL w) _ Aq, trx X _ Ar, GQ.out, GR.out, ext w _⟩)
      · clear hgo
        go_upto_region 9 with (first | (go_at_call 90; refine (suZero_any r Ar cr _).mono ?_; rintro e23 w23 ⟨rfl, hb⟩; haveI : Bel _ w23 := ⟨hb⟩; clear hb))
        refine wp_region_held_drew (S := (fun w' => w'.cell? ⟨g10, 0, none⟩ = some (.slice Aq q.len cq) ∧ w'.cell? ⟨g11, 0, none⟩ = some (.slice Ar r.len cr) ∧ w'.cell? ⟨g16, 0, none⟩ = some (.bool bad))) (by kernel_rfl) ?hSn8_ (fun hHeld => ?hRn8_)
        case hSn8_ => (exact ⟨has1, has1, has1⟩)
        refine wpAnyH_take (i := 0) (v := ?vn8_1) rfl (by kernel_rfl) (by kernel_rfl) (by kernel_rfl) (fun _ _ _ h => h) (Or.inl ⟨by rfl, ?hyn8_1⟩) (by assumption) ?hRn8_1
        case hyn8_1 => (intro w hSw; (try dsimp only at hSw); go_simp; (try with_reducible rfl))
        try simp only [Act.put, zp1, zp2, zp3, zp4, zp5, zp6]
        refine wpAnyH_take (i := 1) (v := ?vn8_2) rfl (by kernel_rfl) (by kernel_rfl) (by kernel_rfl) (fun _ _ _ h => h) (Or.inl ⟨by rfl, ?hyn8_2⟩) (by assumption) ?hRn8_2
        case hyn8_2 => (intro w hSw; (try dsimp only at hSw); go_simp; (try with_reducible rfl))
        try simp only [Act.put, zp1, zp2, zp3, zp4, zp5, zp6]
        refine wpAnyH_take (i := 2) (v := ?vn8_3) rfl (by kernel_rfl) (by kernel_rfl) (by kernel_rfl) (fun _ _ _ h => h) (Or.inl ⟨by rfl, ?hyn8_3⟩) (by assumption) ?hRn8_3
        case hyn8_3 => (intro w hSw; (try dsimp only at hSw); go_simp; (try with_reducible rfl))
        try simp only [Act.put, zp1, zp2, zp3, zp4, zp5, zp6]
        refine wpAnyH_take (i := 3) (v := ?vn8_4) rfl (by kernel_rfl) (by kernel_rfl) (by kernel_rfl) (fun _ _ _ h => h) (Or.inl ⟨by rfl, ?hyn8_4⟩) (by assumption) ?hRn8_4
        case hyn8_4 => (intro w hSw; (try dsimp only at hSw); go_simp; (try with_reducible rfl))
        try simp only [Act.put, zp1, zp2, zp3, zp4, zp5, zp6]
        refine wpAnyH_take (i := 4) (v := ?vn8_5) rfl (by kernel_rfl) (by kernel_rfl) (by kernel_rfl) (fun _ _ _ h => h) (Or.inl ⟨by rfl, ?hyn8_5⟩) (by assumption) ?hRn8_5
        case hyn8_5 => (intro w hSw; (try dsimp only at hSw); go_simp; (try with_reducible rfl))
        try simp only [Act.put, zp1, zp2, zp3, zp4, zp5, zp6]
        refine wpAnyH_take (i := 5) (v := ?vn8_6) rfl (by kernel_rfl) (by kernel_rfl) (by kernel_rfl) (fun _ _ _ h => h) (Or.inl ⟨by rfl, ?hyn8_6⟩) (by assumption) ?hRn8_6
        case hyn8_6 => (intro w hSw; (try dsimp only at hSw); go_simp; (try with_reducible rfl))
        try simp only [Act.put, zp1, zp2, zp3, zp4, zp5, zp6]
        refine wpAnyH_take (i := 6) (v := ?vn8_7) rfl (by kernel_rfl) (by kernel_rfl) (by kernel_rfl) (fun _ _ _ h => h) (Or.inl ⟨by rfl, ?hyn8_7⟩) (by assumption) ?hRn8_7
        case hyn8_7 => (intro w hSw; (try dsimp only at hSw); go_simp; (try with_reducible rfl))
        try simp only [Act.put, zp1, zp2, zp3, zp4, zp5, zp6]
        refine wpAnyH_ready (rs := [7]) (by kernel_rfl) (by simp) ?_
        refine AllReadyH.cons rfl (fun K hK => ?_) AllReadyH.nil
        go_simp
        refine hK.out _ _ ?hSn8_8 (fun hHeld => ?hRn8_8)
        case hSn8_8 => ((try dsimp only); exact ⟨has1, has1, has1⟩)
        clear hK K
        try simp only [Act.put, zp1, zp2, zp3, zp4, zp5, zp6]
        refine wpAnyH_ready (rs := [8]) (by kernel_rfl) (by simp) ?_
        refine AllReadyH.cons rfl (fun K hK => ?_) AllReadyH.nil
        go_simp
        refine hK.out _ _ ?hSn8_9 (fun hHeld => ?hRn8_9)
        case hSn8_9 => ((try dsimp only); exact ⟨has1, has1, has1⟩)
        clear hK K
        try simp only [Act.put, zp1, zp2, zp3, zp4, zp5, zp6]
        refine wpAnyH_take (i := 9) (v := ?vn8_10) rfl (by kernel_rfl) (by kernel_rfl) (by kernel_rfl) (fun _ _ _ h => h) (Or.inl ⟨by rfl, ?hyn8_10⟩) (by assumption) ?hRn8_10
        case hyn8_10 => (intro w hSw; (try dsimp only at hSw); go_simp; (try with_reducible rfl))
        try simp only [Act.put, zp1, zp2, zp3, zp4, zp5, zp6]
        refine wpAnyH_done (by kernel_rfl) ?_ _
        all_goals
          go_wp2
          (refine bodyPost_ret (v := .tuple #[.agg #[.slice Aq q.len cq], .agg #[.slice Ar r.len cr], .bool (!bad)]) (by simp [results, Tryz.results91, go_sem]) rfl ?_; rw [HR1.out.1, HR1.out.2.1, HR1.out.2.2]; exact ⟨Aq, cq, Ar, cr, rfl, trx (XL w) _ Aq, trx X _ Ar, GQ.out, GR.out, ext w _⟩)
end Go.Proofs.YtphabopnbcgodaaGreat
