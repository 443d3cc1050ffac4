/-
  Walks: the sum of two numbers, by classes (exponents right, coefficients any).
-/
import Derived.Test.YtonlfnbjbmgegaaGreatBG
import Derived.Test.YtonlfnbjbmgegaaGreatBD
import Derived.Test.YtonlfnbjbmgegaaGreatWOrd
import Derived.Deep.DeepCutAuto
namespace Go.Proofs.YtonlfnbjbmgegaaGreat
open Go.RowKit
open List renaming getElem_toArray → zp1, getElem_cons_zero → zp2, getElem_cons_succ → zp3, setIfInBounds_toArray → zp4, set_cons_zero → zp5, set_cons_succ → zp6
set_option linter.unusedSimpArgs false
set_option linter.unusedVariables false

/-- the exponents are made of right fractions -/
def ExF : Sur → Prop
  | .nil => True
  | .cons e _ _ r => e.All FOk ∧ ExF r
theorem ExF.of : ∀ {x : Sur}, x.All FOk → ExF x
  | .nil, _ => trivial
  | .cons e n d r, h => ⟨h.1, ExF.of h.2.2⟩
theorem ExF.drop {x : Sur} (h : ExF x) : ∀ {k : Nat} {e : Sur} {n d : Int} {r : Sur}, x.drop k = .cons e n d r → e.All FOk := by
  induction x with
  | nil => intro k e n d r hk; cases k <;> cases hk
  | cons e0 n0 d0 r0 _ ih =>
    intro k e n d r hk
    cases k with
    | zero => simp only [Sur.drop] at hk; injection hk with h1; subst h1; exact h.1
    | succ k => exact ih h.2 hk
theorem xdis_lowS {X : Nat → Prop} {v : Value} {w lo hi : World} (hX : ∀ k, X k → k < w.heap.size) [a : OwR v lo hi] [b : LeB w lo] : XDis X v := ⟨fun g hg h => by have := hX g h; have := (a.h g hg).1; have := b.h; omega⟩
attribute [local go_sem high] has_cell has_frozen
set_option synthInstance.maxHeartbeats 2000000 in
set_option synthInstance.maxSize 4000 in
set_option maxHeartbeats 3200000 in
set_option maxRecDepth 100000 in
theorem sum_ex (x y : Sur) (X : Nat → Prop) (A A' : Option Addr) (c c' : Nat) (w : World) (hX : ∀ k, X k → k < w.heap.size) (sx : SSl X w x A c) (sy : SSl X w y A' c') (hx : ExF x) (hy : ExF y) (hl : x.len + y.len ≤ 1099511627776) :
    Calls Tryz.prog 48 #[.agg #[.slice A x.len c], .agg #[.slice A' y.len c']] w (RetSh X w (sumP x y)) := by
  have lx := sx.cap
  have lx' := sx.le
  have ly := sy.cap
  have ly' := sy.le
  unfold maxLen at lx ly
  haveI ix := Tr.arg sx
  haveI iy := Tr.arg sy
  clear sx sy
  go_enter Tryz.func48, Tryz.ntmps48
  go_wp2_with (first | ((with_reducible refine at_dst (N := 2) rfl ?_); refine ev_box (cs := #[.slice A x.len c]) (t := 26) rfl ?hr2 ?_; (case hr2 => first | (go_simp; done) | (go_simp; rfl)); intro g2 v2 _ _ _ _) | ((with_reducible refine at_dst (N := 3) rfl ?_); refine ev_box (cs := #[.slice A' y.len c']) (t := 26) rfl ?hr3 ?_; (case hr3 => first | (go_simp; done) | (go_simp; rfl)); intro g3 v3 _ _ _ _) | ((with_reducible refine at_dst (N := 4) rfl ?_); refine ev_box (cs := #[.slice none 0 0]) (t := 26) rfl ?hr4 ?_; (case hr4 => first | (go_simp; done) | (go_simp; rfl)); intro g4 v4 _ _ _ _) | ((with_reducible refine at_dst (N := 6) rfl ?_); refine ev_box (cs := #[.slice none 0 0]) (t := 26) rfl ?hr6 ?_; (case hr6 => first | (go_simp; done) | (go_simp; rfl)); intro g6 v6 _ _ _ _))
  haveI ix3 : Tr v6 A (XV w X) x c := inferInstance
  haveI iy3 : Tr v6 A' (XV w X) y c' := inferInstance
  clear ix iy
  go_loopw [7, 8] (fun s t wr => ∃ (i k : Nat) (v : Value) (xs : List Value) (acc : Sur), s = .int .i64 i ∧ t = .int .i64 k ∧ i ≤ x.len ∧ k ≤ y.len ∧ acc.len ≤ i + k ∧
      Has wr g6 (.cells #[v] 26 (0, 0)) ∧ Own wr v v6 70 3 acc.len xs ∧ TR wr (XV w X) acc xs ∧ Hid (SumAt x y i k acc) ∧ Kp v6 (XE g6) wr ∧ Tr wr A (XV w X) x c ∧ Tr wr A' (XV w X) y c') (fun s t _ => x.len + y.len - (intOf s).toNat - (intOf t).toNat)
  case atStart => exact ⟨0, 0, .slice none 0 0, [], .nil, rfl, rfl, Nat.zero_le _, Nat.zero_le _, by simp [Sur.len], inferInstance, Own.nil _ _ _ _, TR.nil _ _, by simp [Hid, SumAt, Sur.drop, Sur.app], kp _ _ _, inferInstance, inferInstance⟩
  case round =>
    obtain ⟨i, k, v, xs, acc, rfl, rfl, hi, hk, hal, _, _, _, HS, _, ix4, iy4⟩ := hrel
    clear ix3 iy3
    haveI := Own.rg wr v
    have hi0' : (0 : Int) ≤ (i : Int) := by omega
    have hk0' : (0 : Int) ≤ (k : Int) := by omega
    by_cases h1 : i < x.len
    · obtain ⟨b, o, e, n, d, A1, d1, rfl, hxk, f0, f1, f2, se, in_, id_, hXb, hbl⟩ := ix4.h.at_ h1
      haveI : Tr wr A1 _ e d1 := ⟨se⟩
      have hbw : b < w.heap.size := Nat.lt_of_not_le fun h => hXb (.inl h)
      have X0 : ∀ W, Ext w W → W.cell? ⟨b, o + i * 3, none⟩ = some (.slice A1 e.len d1) := fun W h => ((h.h).cell hbw).trans (((ext w wr).cell hbw).symm.trans f0)
      have X1 : ∀ W, Ext w W → W.cell? ⟨b, o + i * 3 + 1, none⟩ = some (.int .i64 n) := fun W h => ((h.h).cell hbw).trans (((ext w wr).cell hbw).symm.trans f1)
      have X2 : ∀ W, Ext w W → W.cell? ⟨b, o + i * 3 + 2, none⟩ = some (.int .i64 d) := fun W h => ((h.h).cell hbw).trans (((ext w wr).cell hbw).symm.trans f2)
      have hae := hx.drop hxk
      clear se f0 f1 f2
      have h1' : (i : Int) < (x.len : Int) := by omega
      have ex1 : ((i : Int) == (x.len : Int)) = false := by simp; omega
      by_cases h2 : k < y.len
      · obtain ⟨b', o', e', n', d', A2, d2, rfl, hyk, f0, f1, f2, se, in', id', hXb', hbl'⟩ := iy4.h.at_ h2
        haveI : Tr wr A2 _ e' d2 := ⟨se⟩
        have hbw' : b' < w.heap.size := Nat.lt_of_not_le fun h => hXb' (.inl h)
        have Y0 : ∀ W, Ext w W → W.cell? ⟨b', o' + k * 3, none⟩ = some (.slice A2 e'.len d2) := fun W h => ((h.h).cell hbw').trans (((ext w wr).cell hbw').symm.trans f0)
        have Y1 : ∀ W, Ext w W → W.cell? ⟨b', o' + k * 3 + 1, none⟩ = some (.int .i64 n') := fun W h => ((h.h).cell hbw').trans (((ext w wr).cell hbw').symm.trans f1)
        have Y2 : ∀ W, Ext w W → W.cell? ⟨b', o' + k * 3 + 2, none⟩ = some (.int .i64 d') := fun W h => ((h.h).cell hbw').trans (((ext w wr).cell hbw').symm.trans f2)
        have hae' := hy.drop hyk
        have HO : Hid (e.All Bd ∧ e'.All Bd) := ⟨Sur.All.mono (fun _ _ h => FOk.bd h) e hae, Sur.All.mono (fun _ _ h => FOk.bd h) e' hae'⟩
        clear se f0 f1 f2 hae hae'
        have h2' : (k : Int) < (y.len : Int) := by omega
        have ey1 : ((k : Int) == (y.len : Int)) = false := by simp; omega
        have HXK := Lib.hid hxk
        have HYK := Lib.hid hyk
        clear hxk hyk
        go_wp2
        refine wp_region_held_drew (S := (fun w' => w'.cell? ⟨g2, 0, none⟩ = some (.slice (some ⟨b, o, none⟩) x.len c) ∧ w'.cell? ⟨b, o + i * 3, none⟩ = some (.slice A1 e.len d1) ∧ w'.cell? ⟨g3, 0, none⟩ = some (.slice (some ⟨b', o', none⟩) y.len c') ∧ w'.cell? ⟨b', o' + k * 3, none⟩ = some (.slice A2 e'.len d2))) (by kernel_rfl) ?hSn1_ (fun hHeld => ?hRn1_)
        case hSn1_ => (exact ⟨has1, X0 _ inferInstance, has1, Y0 _ inferInstance⟩)
        refine wpAnyH_take (i := 0) (v := ?vn1_1) rfl (by kernel_rfl) (by kernel_rfl) (by kernel_rfl) (fun _ _ _ h => h) (Or.inl ⟨by rfl, ?hyn1_1⟩) (by assumption) ?hRn1_1
        case hyn1_1 => (intro w hSw; (try dsimp only at hSw); go_simp; (try with_reducible rfl))
        try simp only [Act.put, zp1, zp2, zp3, zp4, zp5, zp6]
        refine wpAnyH_take (i := 1) (v := ?vn1_2) rfl (by kernel_rfl) (by kernel_rfl) (by kernel_rfl) (fun _ _ _ h => h) (Or.inl ⟨by rfl, ?hyn1_2⟩) (by assumption) ?hRn1_2
        case hyn1_2 => (intro w hSw; (try dsimp only at hSw); go_simp; (try with_reducible rfl))
        try simp only [Act.put, zp1, zp2, zp3, zp4, zp5, zp6]
        refine wpAnyH_take (i := 2) (v := ?vn1_3) rfl (by kernel_rfl) (by kernel_rfl) (by kernel_rfl) (fun _ _ _ h => h) (Or.inl ⟨by rfl, ?hyn1_3⟩) (by assumption) ?hRn1_3
        case hyn1_3 => (intro w hSw; (try dsimp only at hSw); go_simp; (try with_reducible rfl))
        try simp only [Act.put, zp1, zp2, zp3, zp4, zp5, zp6]
        refine wpAnyH_take (i := 3) (v := ?vn1_4) rfl (by kernel_rfl) (by kernel_rfl) (by kernel_rfl) (fun _ _ _ h => h) (Or.inl ⟨by rfl, ?hyn1_4⟩) (by assumption) ?hRn1_4
        case hyn1_4 => (intro w hSw; (try dsimp only at hSw); go_simp; (try with_reducible rfl))
        try simp only [Act.put, zp1, zp2, zp3, zp4, zp5, zp6]
        refine wpAnyH_take (i := 4) (v := ?vn1_5) rfl (by kernel_rfl) (by kernel_rfl) (by kernel_rfl) (fun _ _ _ h => h) (Or.inl ⟨by rfl, ?hyn1_5⟩) (by assumption) ?hRn1_5
        case hyn1_5 => (intro w hSw; (try dsimp only at hSw); go_simp; (try with_reducible rfl))
        try simp only [Act.put, zp1, zp2, zp3, zp4, zp5, zp6]
        refine wpAnyH_take (i := 5) (v := ?vn1_6) rfl (by kernel_rfl) (by kernel_rfl) (by kernel_rfl) (fun _ _ _ h => h) (Or.inl ⟨by rfl, ?hyn1_6⟩) (by assumption) ?hRn1_6
        case hyn1_6 => (intro w hSw; (try dsimp only at hSw); go_simp; (try with_reducible rfl))
        try simp only [Act.put, zp1, zp2, zp3, zp4, zp5, zp6]
        refine wpAnyH_take (i := 6) (v := ?vn1_7) rfl (by kernel_rfl) (by kernel_rfl) (by kernel_rfl) (fun _ _ _ h => h) (Or.inl ⟨by rfl, ?hyn1_7⟩) (by assumption) ?hRn1_7
        case hyn1_7 => (intro w hSw; (try dsimp only at hSw); go_simp; (try with_reducible rfl))
        try simp only [Act.put, zp1, zp2, zp3, zp4, zp5, zp6]
        refine wpAnyH_take (i := 7) (v := ?vn1_8) rfl (by kernel_rfl) (by kernel_rfl) (by kernel_rfl) (fun _ _ _ h => h) (Or.inl ⟨by rfl, ?hyn1_8⟩) (by assumption) ?hRn1_8
        case hyn1_8 => (intro w hSw; (try dsimp only at hSw); go_simp; (try with_reducible rfl))
        try simp only [Act.put, zp1, zp2, zp3, zp4, zp5, zp6]
        refine wpAnyH_take (i := 8) (v := ?vn1_9) rfl (by kernel_rfl) (by kernel_rfl) (by kernel_rfl) (fun _ _ _ h => h) (Or.inl ⟨by rfl, ?hyn1_9⟩) (by assumption) ?hRn1_9
        case hyn1_9 => (intro w hSw; (try dsimp only at hSw); go_simp; (try with_reducible rfl))
        try simp only [Act.put, zp1, zp2, zp3, zp4, zp5, zp6]
        refine wpAnyH_take (i := 9) (v := ?vn1_10) rfl (by kernel_rfl) (by kernel_rfl) (by kernel_rfl) (fun _ _ _ h => h) (Or.inl ⟨by rfl, ?hyn1_10⟩) (by assumption) ?hRn1_10
        case hyn1_10 => (intro w hSw; (try dsimp only at hSw); go_simp; (try with_reducible rfl))
        try simp only [Act.put, zp1, zp2, zp3, zp4, zp5, zp6]
        refine wpAnyH_take (i := 10) (v := ?vn1_11) rfl (by kernel_rfl) (by kernel_rfl) (by kernel_rfl) (fun _ _ _ h => h) (Or.inl ⟨by rfl, ?hyn1_11⟩) (by assumption) ?hRn1_11
        case hyn1_11 => (intro w hSw; (try dsimp only at hSw); go_simp; (try with_reducible rfl))
        try simp only [Act.put, zp1, zp2, zp3, zp4, zp5, zp6]
        refine wpAnyH_take (i := 11) (v := ?vn1_12) rfl (by kernel_rfl) (by kernel_rfl) (by kernel_rfl) (fun _ _ _ h => h) (Or.inl ⟨by rfl, ?hyn1_12⟩) (by assumption) ?hRn1_12
        case hyn1_12 => (intro w hSw; (try dsimp only at hSw); go_simp; (try with_reducible rfl))
        try simp only [Act.put, zp1, zp2, zp3, zp4, zp5, zp6]
        refine wpAnyH_ready (rs := [12]) (by kernel_rfl) (by simp) ?_
        refine AllReadyH.cons rfl (fun K hK => ?_) AllReadyH.nil
        go_simp
        (go_at_call 49; refine (order_any _ e e' _ _ A1 A2 d1 d2 _ (Nat.le_refl _) HO.out.1 HO.out.2 (tr _ A1) (tr _ A2)).mono ?_; rintro e37 w37 ⟨rfl, hb⟩; haveI : Bel _ w37 := ⟨hb⟩; clear hb)
        go_wp2_with fail
        refine hK.out _ _ ?hSn1_13 (fun hHeld => ?hRn1_13)
        case hSn1_13 => ((try dsimp only); exact ⟨has1, X0 _ inferInstance, has1, Y0 _ inferInstance⟩)
        clear hK K
        try simp only [Act.put, zp1, zp2, zp3, zp4, zp5, zp6]
        refine wpAnyH_take (i := 13) (v := ?vn1_14) rfl (by kernel_rfl) (by kernel_rfl) (by kernel_rfl) (fun _ _ _ h => h) (Or.inl ⟨by rfl, ?hyn1_14⟩) (by assumption) ?hRn1_14
        case hyn1_14 => (intro w hSw; (try dsimp only at hSw); go_simp; (try with_reducible rfl))
        try simp only [Act.put, zp1, zp2, zp3, zp4, zp5, zp6]
        refine wpAnyH_done (by kernel_rfl) ?_ _
        rcases order_range e e' with q | q | q
        · have HT := Lib.hid (HS.out.right HYK.out (.inr ⟨_, _, _, _, HXK.out, q⟩))
          clear HS
          rw [q]
          clear q
          go_wp2
          refine wp_region_held_drew (S := (fun w' => w'.cell? ⟨g3, 0, none⟩ = some (.slice (some ⟨b', o', none⟩) y.len c') ∧ w'.cell? ⟨b', o' + k * 3, none⟩ = some (.slice A2 e'.len d2) ∧ w'.cell? ⟨b', o' + k * 3 + 1, none⟩ = some (.int .i64 n') ∧ w'.cell? ⟨b', o' + k * 3 + 2, none⟩ = some (.int .i64 d'))) (by kernel_rfl) ?hSn2_ (fun hHeld => ?hRn2_)
          case hSn2_ => (exact ⟨has1, Y0 _ inferInstance, Y1 _ inferInstance, Y2 _ inferInstance⟩)
          refine wpAnyH_take (i := 0) (v := ?vn2_1) rfl (by kernel_rfl) (by kernel_rfl) (by kernel_rfl) (fun _ _ _ h => h) (Or.inl ⟨by rfl, ?hyn2_1⟩) (by assumption) ?hRn2_1
          case hyn2_1 => (intro w hSw; (try dsimp only at hSw); go_simp; (try with_reducible rfl))
          try simp only [Act.put, zp1, zp2, zp3, zp4, zp5, zp6]
          refine wpAnyH_take (i := 2) (v := ?vn2_2) rfl (by kernel_rfl) (by kernel_rfl) (by kernel_rfl) (fun _ _ _ h => h) (Or.inl ⟨by rfl, ?hyn2_2⟩) (by assumption) ?hRn2_2
          case hyn2_2 => (intro w hSw; (try dsimp only at hSw); go_simp; (try with_reducible rfl))
          try simp only [Act.put, zp1, zp2, zp3, zp4, zp5, zp6]
          refine wpAnyH_take (i := 3) (v := ?vn2_3) rfl (by kernel_rfl) (by kernel_rfl) (by kernel_rfl) (fun _ _ _ h => h) (Or.inl ⟨by rfl, ?hyn2_3⟩) (by assumption) ?hRn2_3
          case hyn2_3 => (intro w hSw; (try dsimp only at hSw); go_simp; (try with_reducible rfl))
          try simp only [Act.put, zp1, zp2, zp3, zp4, zp5, zp6]
          refine wpAnyH_take (i := 4) (v := ?vn2_4) rfl (by kernel_rfl) (by kernel_rfl) (by kernel_rfl) (fun _ _ _ h => h) (Or.inl ⟨by rfl, ?hyn2_4⟩) (by assumption) ?hRn2_4
          case hyn2_4 => (intro w hSw; (try dsimp only at hSw); go_simp; (try with_reducible rfl))
          try simp only [Act.put, zp1, zp2, zp3, zp4, zp5, zp6]
          refine wpAnyH_take (i := 5) (v := ?vn2_5) rfl (by kernel_rfl) (by kernel_rfl) (by kernel_rfl) (fun _ _ _ h => h) (Or.inl ⟨by rfl, ?hyn2_5⟩) (by assumption) ?hRn2_5
          case hyn2_5 => (intro w hSw; (try dsimp only at hSw); go_simp; (try with_reducible rfl))
          try simp only [Act.put, zp1, zp2, zp3, zp4, zp5, zp6]
          refine wpAnyH_take (i := 6) (v := ?vn2_6) rfl (by kernel_rfl) (by kernel_rfl) (by kernel_rfl) (fun _ _ _ h => h) (Or.inl ⟨by rfl, ?hyn2_6⟩) (by assumption) ?hRn2_6
          case hyn2_6 => (intro w hSw; (try dsimp only at hSw); go_simp; (try with_reducible rfl))
          try simp only [Act.put, zp1, zp2, zp3, zp4, zp5, zp6]
          refine wpAnyH_ready (rs := [1, 7]) (by kernel_rfl) (by simp) ?_
          refine AllReadyH.cons rfl (fun K hK => ?bn2_7) (AllReadyH.cons rfl (fun K hK => ?bn2_8) (AllReadyH.nil))
          case' bn2_7 =>
            go_simp
            refine hK.out _ _ ?hSn2_9 (fun hHeld => ?hRn2_9)
            case hSn2_9 => ((try dsimp only); exact ⟨has1, Y0 _ inferInstance, Y1 _ inferInstance, Y2 _ inferInstance⟩)
            clear hK K
            try simp only [Act.put, zp1, zp2, zp3, zp4, zp5, zp6]
            refine wpAnyH_ready (rs := [7]) (by kernel_rfl) (by simp) ?_
            refine AllReadyH.cons rfl (fun K hK => ?_) AllReadyH.nil
            go_simp
            refine hK.out _ _ ?hSn2_10 (fun hHeld => ?hRn2_10)
            case hSn2_10 => ((try dsimp only); exact ⟨has1, Y0 _ inferInstance, Y1 _ inferInstance, Y2 _ inferInstance⟩)
            clear hK K
            try simp only [Act.put, zp1, zp2, zp3, zp4, zp5, zp6]
            refine wpAnyH_ready (rs := [8]) (by kernel_rfl) (by simp) ?_
            refine AllReadyH.cons rfl (fun K hK => ?_) AllReadyH.nil
            (refine ap_step (v := v) (cs := [.slice A2 e'.len d2, .int .i64 n', .int .i64 d']) (by rfl) _ _ _ (by rfl) (by rfl) (by rfl) (by rfl) (by simp [Value.oneCell']) (by omega) ?_; intro gg cap wa _ _ _ _ _)
            refine hK.out _ _ ?hSn2_11 (fun hHeld => ?hRn2_11)
            case hSn2_11 => ((try dsimp only); exact ⟨has1, Y0 _ inferInstance, Y1 _ inferInstance, Y2 _ inferInstance⟩)
            clear hK K
            try simp only [Act.put, zp1, zp2, zp3, zp4, zp5, zp6]
            refine wpAnyH_take (i := 9) (v := ?vn2_12) rfl (by kernel_rfl) (by kernel_rfl) (by kernel_rfl) (fun _ _ _ h => h) (Or.inl ⟨by rfl, ?hyn2_12⟩) (by assumption) ?hRn2_12
            case hyn2_12 => (intro w hSw; (try dsimp only at hSw); go_simp; (try with_reducible rfl))
            try simp only [Act.put, zp1, zp2, zp3, zp4, zp5, zp6]
            refine wpAnyH_ready (rs := [10]) (by kernel_rfl) (by simp) ?_
            refine AllReadyH.cons rfl (fun K hK => ?_) AllReadyH.nil
            go_simp
            refine hK.out _ _ ?hSn2_13 (fun hHeld => ?hRn2_13)
            case hSn2_13 => ((try dsimp only); exact ⟨has1, Y0 _ inferInstance, Y1 _ inferInstance, Y2 _ inferInstance⟩)
            clear hK K
            try simp only [Act.put, zp1, zp2, zp3, zp4, zp5, zp6]
            refine wpAnyH_done (by kernel_rfl) ?_ _
          case' bn2_8 =>
            go_simp
            refine hK.out _ _ ?hSn2_14 (fun hHeld => ?hRn2_14)
            case hSn2_14 => ((try dsimp only); exact ⟨has1, Y0 _ inferInstance, Y1 _ inferInstance, Y2 _ inferInstance⟩)
            clear hK K
            try simp only [Act.put, zp1, zp2, zp3, zp4, zp5, zp6]
            refine wpAnyH_ready (rs := [1]) (by kernel_rfl) (by simp) ?_
            refine AllReadyH.cons rfl (fun K hK => ?_) AllReadyH.nil
            go_simp
            refine hK.out _ _ ?hSn2_15 (fun hHeld => ?hRn2_15)
            case hSn2_15 => ((try dsimp only); exact ⟨has1, Y0 _ inferInstance, Y1 _ inferInstance, Y2 _ inferInstance⟩)
            clear hK K
            try simp only [Act.put, zp1, zp2, zp3, zp4, zp5, zp6]
            refine wpAnyH_ready (rs := [8]) (by kernel_rfl) (by simp) ?_
            refine AllReadyH.cons rfl (fun K hK => ?_) AllReadyH.nil
            (refine ap_step (v := v) (cs := [.slice A2 e'.len d2, .int .i64 n', .int .i64 d']) (by rfl) _ _ _ (by rfl) (by rfl) (by rfl) (by rfl) (by simp [Value.oneCell']) (by omega) ?_; intro gg cap wa _ _ _ _ _)
            refine hK.out _ _ ?hSn2_16 (fun hHeld => ?hRn2_16)
            case hSn2_16 => ((try dsimp only); exact ⟨has1, Y0 _ inferInstance, Y1 _ inferInstance, Y2 _ inferInstance⟩)
            clear hK K
            try simp only [Act.put, zp1, zp2, zp3, zp4, zp5, zp6]
            refine wpAnyH_take (i := 9) (v := ?vn2_17) rfl (by kernel_rfl) (by kernel_rfl) (by kernel_rfl) (fun _ _ _ h => h) (Or.inl ⟨by rfl, ?hyn2_17⟩) (by assumption) ?hRn2_17
            case hyn2_17 => (intro w hSw; (try dsimp only at hSw); go_simp; (try with_reducible rfl))
            try simp only [Act.put, zp1, zp2, zp3, zp4, zp5, zp6]
            refine wpAnyH_ready (rs := [10]) (by kernel_rfl) (by simp) ?_
            refine AllReadyH.cons rfl (fun K hK => ?_) AllReadyH.nil
            go_simp
            refine hK.out _ _ ?hSn2_18 (fun hHeld => ?hRn2_18)
            case hSn2_18 => ((try dsimp only); exact ⟨has1, Y0 _ inferInstance, Y1 _ inferInstance, Y2 _ inferInstance⟩)
            clear hK K
            try simp only [Act.put, zp1, zp2, zp3, zp4, zp5, zp6]
            refine wpAnyH_done (by kernel_rfl) ?_ _
          all_goals
            go_wp2
            exact ⟨⟨i, k + 1, _, _, _, rfl, by go_num, by omega, by omega, by rw [Sur.len_snoc]; omega, inferInstance, Own.snoc inferInstance, TR.snoc (tr _ A2) in' id', HT, kp _ _ _, inferInstance, inferInstance⟩, by simp [intOf]; omega⟩
        · rw [q]
          have HQ := Lib.hid q
          clear q
          rcases hf : fAdd n d n' d' with _ | ⟨p, pq⟩
          · have HF := Lib.hid (HS.out.fail HXK.out HYK.out HQ.out hf)
            clear HS
            go_wp2
            go_cut [10, 11] (fun s10 s11 wx => s11 = .bool false ∧ ∃ g10, s10 = .pointer (some ⟨g10, 0, none⟩) ∧ Bel w37 wx)
            case first =>
              refine wp_region_held_drew (S := (fun w' => w'.cell? ⟨g2, 0, none⟩ = some (.slice (some ⟨b, o, none⟩) x.len c) ∧ w'.cell? ⟨b, o + i * 3 + 1, none⟩ = some (.int .i64 n) ∧ w'.cell? ⟨b, o + i * 3 + 2, none⟩ = some (.int .i64 d) ∧ w'.cell? ⟨g3, 0, none⟩ = some (.slice (some ⟨b', o', none⟩) y.len c') ∧ w'.cell? ⟨b', o' + k * 3 + 1, none⟩ = some (.int .i64 n') ∧ w'.cell? ⟨b', o' + k * 3 + 2, none⟩ = some (.int .i64 d'))) (by kernel_rfl) ?hSn3_ (fun hHeld => ?hRn3_)
              case hSn3_ => (exact ⟨has1, X1 _ inferInstance, X2 _ inferInstance, has1, Y1 _ inferInstance, Y2 _ inferInstance⟩)
              refine wpAnyH_take (i := 0) (v := ?vn3_1) rfl (by kernel_rfl) (by kernel_rfl) (by kernel_rfl) (fun _ _ _ h => h) (Or.inl ⟨by rfl, ?hyn3_1⟩) (by assumption) ?hRn3_1
              case hyn3_1 => (intro w hSw; (try dsimp only at hSw); go_simp; (try with_reducible rfl))
              try simp only [Act.put, zp1, zp2, zp3, zp4, zp5, zp6]
              refine wpAnyH_take (i := 1) (v := ?vn3_2) rfl (by kernel_rfl) (by kernel_rfl) (by kernel_rfl) (fun _ _ _ h => h) (Or.inl ⟨by rfl, ?hyn3_2⟩) (by assumption) ?hRn3_2
              case hyn3_2 => (intro w hSw; (try dsimp only at hSw); go_simp; (try with_reducible rfl))
              try simp only [Act.put, zp1, zp2, zp3, zp4, zp5, zp6]
              refine wpAnyH_take (i := 2) (v := ?vn3_3) rfl (by kernel_rfl) (by kernel_rfl) (by kernel_rfl) (fun _ _ _ h => h) (Or.inl ⟨by rfl, ?hyn3_3⟩) (by assumption) ?hRn3_3
              case hyn3_3 => (intro w hSw; (try dsimp only at hSw); go_simp; (try with_reducible rfl))
              try simp only [Act.put, zp1, zp2, zp3, zp4, zp5, zp6]
              refine wpAnyH_take (i := 3) (v := ?vn3_4) rfl (by kernel_rfl) (by kernel_rfl) (by kernel_rfl) (fun _ _ _ h => h) (Or.inl ⟨by rfl, ?hyn3_4⟩) (by assumption) ?hRn3_4
              case hyn3_4 => (intro w hSw; (try dsimp only at hSw); go_simp; (try with_reducible rfl))
              try simp only [Act.put, zp1, zp2, zp3, zp4, zp5, zp6]
              refine wpAnyH_take (i := 4) (v := ?vn3_5) rfl (by kernel_rfl) (by kernel_rfl) (by kernel_rfl) (fun _ _ _ h => h) (Or.inl ⟨by rfl, ?hyn3_5⟩) (by assumption) ?hRn3_5
              case hyn3_5 => (intro w hSw; (try dsimp only at hSw); go_simp; (try with_reducible rfl))
              try simp only [Act.put, zp1, zp2, zp3, zp4, zp5, zp6]
              refine wpAnyH_take (i := 5) (v := ?vn3_6) rfl (by kernel_rfl) (by kernel_rfl) (by kernel_rfl) (fun _ _ _ h => h) (Or.inl ⟨by rfl, ?hyn3_6⟩) (by assumption) ?hRn3_6
              case hyn3_6 => (intro w hSw; (try dsimp only at hSw); go_simp; (try with_reducible rfl))
              try simp only [Act.put, zp1, zp2, zp3, zp4, zp5, zp6]
              refine wpAnyH_take (i := 6) (v := ?vn3_7) rfl (by kernel_rfl) (by kernel_rfl) (by kernel_rfl) (fun _ _ _ h => h) (Or.inl ⟨by rfl, ?hyn3_7⟩) (by assumption) ?hRn3_7
              case hyn3_7 => (intro w hSw; (try dsimp only at hSw); go_simp; (try with_reducible rfl))
              try simp only [Act.put, zp1, zp2, zp3, zp4, zp5, zp6]
              refine wpAnyH_take (i := 7) (v := ?vn3_8) rfl (by kernel_rfl) (by kernel_rfl) (by kernel_rfl) (fun _ _ _ h => h) (Or.inl ⟨by rfl, ?hyn3_8⟩) (by assumption) ?hRn3_8
              case hyn3_8 => (intro w hSw; (try dsimp only at hSw); go_simp; (try with_reducible rfl))
              try simp only [Act.put, zp1, zp2, zp3, zp4, zp5, zp6]
              refine wpAnyH_take (i := 8) (v := ?vn3_9) rfl (by kernel_rfl) (by kernel_rfl) (by kernel_rfl) (fun _ _ _ h => h) (Or.inl ⟨by rfl, ?hyn3_9⟩) (by assumption) ?hRn3_9
              case hyn3_9 => (intro w hSw; (try dsimp only at hSw); go_simp; (try with_reducible rfl))
              try simp only [Act.put, zp1, zp2, zp3, zp4, zp5, zp6]
              refine wpAnyH_take (i := 9) (v := ?vn3_10) rfl (by kernel_rfl) (by kernel_rfl) (by kernel_rfl) (fun _ _ _ h => h) (Or.inl ⟨by rfl, ?hyn3_10⟩) (by assumption) ?hRn3_10
              case hyn3_10 => (intro w hSw; (try dsimp only at hSw); go_simp; (try with_reducible rfl))
              try simp only [Act.put, zp1, zp2, zp3, zp4, zp5, zp6]
              refine wpAnyH_take (i := 10) (v := ?vn3_11) rfl (by kernel_rfl) (by kernel_rfl) (by kernel_rfl) (fun _ _ _ h => h) (Or.inl ⟨by rfl, ?hyn3_11⟩) (by assumption) ?hRn3_11
              case hyn3_11 => (intro w hSw; (try dsimp only at hSw); go_simp; (try with_reducible rfl))
              try simp only [Act.put, zp1, zp2, zp3, zp4, zp5, zp6]
              refine wpAnyH_take (i := 11) (v := ?vn3_12) rfl (by kernel_rfl) (by kernel_rfl) (by kernel_rfl) (fun _ _ _ h => h) (Or.inl ⟨by rfl, ?hyn3_12⟩) (by assumption) ?hRn3_12
              case hyn3_12 => (intro w hSw; (try dsimp only at hSw); go_simp; (try with_reducible rfl))
              try simp only [Act.put, zp1, zp2, zp3, zp4, zp5, zp6]
              refine wpAnyH_ready (rs := [12, 16]) (by kernel_rfl) (by simp) ?_
              refine AllReadyH.cons rfl (fun K hK => ?bn3_13) (AllReadyH.cons rfl (fun K hK => ?bn3_14) (AllReadyH.nil))
              case' bn3_13 =>
                go_simp
                (go_at_call 99; refine (AddFractions_any n d n' d' _).mono ?_; rintro e64 w64 ⟨he, hb⟩; rw [hf] at he; simp only [optF] at he; subst he; haveI : Bel _ w64 := ⟨hb⟩; clear hb)
                go_wp2_with fail
                refine hK.out _ _ ?hSn3_15 (fun hHeld => ?hRn3_15)
                case hSn3_15 => ((try dsimp only); exact ⟨has1, X1 _ inferInstance, X2 _ inferInstance, has1, Y1 _ inferInstance, Y2 _ inferInstance⟩)
                clear hK K
                try simp only [Act.put, zp1, zp2, zp3, zp4, zp5, zp6]
                refine wpAnyH_take (i := 13) (v := ?vn3_16) rfl (by kernel_rfl) (by kernel_rfl) (by kernel_rfl) (fun _ _ _ h => h) (Or.inl ⟨by rfl, ?hyn3_16⟩) (by assumption) ?hRn3_16
                case hyn3_16 => (intro w hSw; (try dsimp only at hSw); go_simp; (try with_reducible rfl))
                try simp only [Act.put, zp1, zp2, zp3, zp4, zp5, zp6]
                refine wpAnyH_take (i := 14) (v := ?vn3_17) rfl (by kernel_rfl) (by kernel_rfl) (by kernel_rfl) (fun _ _ _ h => h) (Or.inl ⟨by rfl, ?hyn3_17⟩) (by assumption) ?hRn3_17
                case hyn3_17 => (intro w hSw; (try dsimp only at hSw); go_simp; (try with_reducible rfl))
                try simp only [Act.put, zp1, zp2, zp3, zp4, zp5, zp6]
                refine wpAnyH_take (i := 15) (v := ?vn3_18) rfl (by kernel_rfl) (by kernel_rfl) (by kernel_rfl) (fun _ _ _ h => h) (Or.inl ⟨by rfl, ?hyn3_18⟩) (by assumption) ?hRn3_18
                case hyn3_18 => (intro w hSw; (try dsimp only at hSw); go_simp; (try with_reducible rfl))
                try simp only [Act.put, zp1, zp2, zp3, zp4, zp5, zp6]
                refine wpAnyH_ready (rs := [16]) (by kernel_rfl) (by simp) ?_
                refine AllReadyH.cons rfl (fun K hK => ?_) AllReadyH.nil
                go_simp
                refine hK.out _ _ ?hSn3_19 (fun hHeld => ?hRn3_19)
                case hSn3_19 => ((try dsimp only); exact ⟨has1, X1 _ inferInstance, X2 _ inferInstance, has1, Y1 _ inferInstance, Y2 _ inferInstance⟩)
                clear hK K
                try simp only [Act.put, zp1, zp2, zp3, zp4, zp5, zp6]
                refine wpAnyH_ready (rs := [17]) (by kernel_rfl) (by simp) ?_
                refine AllReadyH.cons rfl (fun K hK => ?_) AllReadyH.nil
                go_simp
                refine hK.out _ _ ?hSn3_20 (fun hHeld => ?hRn3_20)
                case hSn3_20 => ((try dsimp only); exact ⟨has1, X1 _ inferInstance, X2 _ inferInstance, has1, Y1 _ inferInstance, Y2 _ inferInstance⟩)
                clear hK K
                try simp only [Act.put, zp1, zp2, zp3, zp4, zp5, zp6]
                refine wpAnyH_take (i := 18) (v := ?vn3_21) rfl (by kernel_rfl) (by kernel_rfl) (by kernel_rfl) (fun _ _ _ h => h) (Or.inl ⟨by rfl, ?hyn3_21⟩) (by assumption) ?hRn3_21
                case hyn3_21 => (intro w hSw; (try dsimp only at hSw); go_simp; (try with_reducible rfl))
                try simp only [Act.put, zp1, zp2, zp3, zp4, zp5, zp6]
                refine wpAnyH_done (by kernel_rfl) ?_ _
              case' bn3_14 =>
                go_simp
                refine hK.out _ _ ?hSn3_22 (fun hHeld => ?hRn3_22)
                case hSn3_22 => ((try dsimp only); exact ⟨has1, X1 _ inferInstance, X2 _ inferInstance, has1, Y1 _ inferInstance, Y2 _ inferInstance⟩)
                clear hK K
                try simp only [Act.put, zp1, zp2, zp3, zp4, zp5, zp6]
                refine wpAnyH_ready (rs := [12]) (by kernel_rfl) (by simp) ?_
                refine AllReadyH.cons rfl (fun K hK => ?_) AllReadyH.nil
                go_simp
                (go_at_call 99; refine (AddFractions_any n d n' d' _).mono ?_; rintro e64 w64 ⟨he, hb⟩; rw [hf] at he; simp only [optF] at he; subst he; haveI : Bel _ w64 := ⟨hb⟩; clear hb)
                go_wp2_with fail
                refine hK.out _ _ ?hSn3_23 (fun hHeld => ?hRn3_23)
                case hSn3_23 => ((try dsimp only); exact ⟨has1, X1 _ inferInstance, X2 _ inferInstance, has1, Y1 _ inferInstance, Y2 _ inferInstance⟩)
                clear hK K
                try simp only [Act.put, zp1, zp2, zp3, zp4, zp5, zp6]
                refine wpAnyH_take (i := 13) (v := ?vn3_24) rfl (by kernel_rfl) (by kernel_rfl) (by kernel_rfl) (fun _ _ _ h => h) (Or.inl ⟨by rfl, ?hyn3_24⟩) (by assumption) ?hRn3_24
                case hyn3_24 => (intro w hSw; (try dsimp only at hSw); go_simp; (try with_reducible rfl))
                try simp only [Act.put, zp1, zp2, zp3, zp4, zp5, zp6]
                refine wpAnyH_take (i := 14) (v := ?vn3_25) rfl (by kernel_rfl) (by kernel_rfl) (by kernel_rfl) (fun _ _ _ h => h) (Or.inl ⟨by rfl, ?hyn3_25⟩) (by assumption) ?hRn3_25
                case hyn3_25 => (intro w hSw; (try dsimp only at hSw); go_simp; (try with_reducible rfl))
                try simp only [Act.put, zp1, zp2, zp3, zp4, zp5, zp6]
                refine wpAnyH_take (i := 15) (v := ?vn3_26) rfl (by kernel_rfl) (by kernel_rfl) (by kernel_rfl) (fun _ _ _ h => h) (Or.inl ⟨by rfl, ?hyn3_26⟩) (by assumption) ?hRn3_26
                case hyn3_26 => (intro w hSw; (try dsimp only at hSw); go_simp; (try with_reducible rfl))
                try simp only [Act.put, zp1, zp2, zp3, zp4, zp5, zp6]
                refine wpAnyH_ready (rs := [17]) (by kernel_rfl) (by simp) ?_
                refine AllReadyH.cons rfl (fun K hK => ?_) AllReadyH.nil
                go_simp
                refine hK.out _ _ ?hSn3_27 (fun hHeld => ?hRn3_27)
                case hSn3_27 => ((try dsimp only); exact ⟨has1, X1 _ inferInstance, X2 _ inferInstance, has1, Y1 _ inferInstance, Y2 _ inferInstance⟩)
                clear hK K
                try simp only [Act.put, zp1, zp2, zp3, zp4, zp5, zp6]
                refine wpAnyH_take (i := 18) (v := ?vn3_28) rfl (by kernel_rfl) (by kernel_rfl) (by kernel_rfl) (fun _ _ _ h => h) (Or.inl ⟨by rfl, ?hyn3_28⟩) (by assumption) ?hRn3_28
                case hyn3_28 => (intro w hSw; (try dsimp only at hSw); go_simp; (try with_reducible rfl))
                try simp only [Act.put, zp1, zp2, zp3, zp4, zp5, zp6]
                refine wpAnyH_done (by kernel_rfl) ?_ _
              all_goals
                go_wp2
                go_meet
                exact ⟨rfl, _, rfl, ⟨ext _ _⟩⟩
            case rest =>
              rename World => wx
              obtain ⟨rfl, g10, rfl, _⟩ := hcut
              go_wp2
              refine bodyPost_ret (v := .tuple #[.agg #[.slice none 0 0], .bool false]) (by simp [results, Tryz.results48, go_sem]) rfl ?_
              rw [HF.out]
              exact ⟨none, 0, rfl, SSl.nil _ _, ext w _⟩
          · have HT := Lib.hid (HS.out.both HXK.out HYK.out HQ.out hf)
            have HI := Lib.hid (fAdd_I64 hf)
            clear HS
            go_wp2
            go_cut [10, 11] (fun s10 s11 wx => s11 = .bool true ∧ ∃ g10, s10 = .pointer (some ⟨g10, 0, none⟩) ∧ Has wx g10 (.cells #[.int .i64 p, .int .i64 pq] 68 (0, 0)) ∧ GeB wr g10 ∧ NeB g10 g6 ∧ Bel w37 wx)
            case first =>
              refine wp_region_held_drew (S := (fun w' => w'.cell? ⟨g2, 0, none⟩ = some (.slice (some ⟨b, o, none⟩) x.len c) ∧ w'.cell? ⟨b, o + i * 3 + 1, none⟩ = some (.int .i64 n) ∧ w'.cell? ⟨b, o + i * 3 + 2, none⟩ = some (.int .i64 d) ∧ w'.cell? ⟨g3, 0, none⟩ = some (.slice (some ⟨b', o', none⟩) y.len c') ∧ w'.cell? ⟨b', o' + k * 3 + 1, none⟩ = some (.int .i64 n') ∧ w'.cell? ⟨b', o' + k * 3 + 2, none⟩ = some (.int .i64 d'))) (by kernel_rfl) ?hSn4_ (fun hHeld => ?hRn4_)
              case hSn4_ => (exact ⟨has1, X1 _ inferInstance, X2 _ inferInstance, has1, Y1 _ inferInstance, Y2 _ inferInstance⟩)
              refine wpAnyH_take (i := 0) (v := ?vn4_1) rfl (by kernel_rfl) (by kernel_rfl) (by kernel_rfl) (fun _ _ _ h => h) (Or.inl ⟨by rfl, ?hyn4_1⟩) (by assumption) ?hRn4_1
              case hyn4_1 => (intro w hSw; (try dsimp only at hSw); go_simp; (try with_reducible rfl))
              try simp only [Act.put, zp1, zp2, zp3, zp4, zp5, zp6]
              refine wpAnyH_take (i := 1) (v := ?vn4_2) rfl (by kernel_rfl) (by kernel_rfl) (by kernel_rfl) (fun _ _ _ h => h) (Or.inl ⟨by rfl, ?hyn4_2⟩) (by assumption) ?hRn4_2
              case hyn4_2 => (intro w hSw; (try dsimp only at hSw); go_simp; (try with_reducible rfl))
              try simp only [Act.put, zp1, zp2, zp3, zp4, zp5, zp6]
              refine wpAnyH_take (i := 2) (v := ?vn4_3) rfl (by kernel_rfl) (by kernel_rfl) (by kernel_rfl) (fun _ _ _ h => h) (Or.inl ⟨by rfl, ?hyn4_3⟩) (by assumption) ?hRn4_3
              case hyn4_3 => (intro w hSw; (try dsimp only at hSw); go_simp; (try with_reducible rfl))
              try simp only [Act.put, zp1, zp2, zp3, zp4, zp5, zp6]
              refine wpAnyH_take (i := 3) (v := ?vn4_4) rfl (by kernel_rfl) (by kernel_rfl) (by kernel_rfl) (fun _ _ _ h => h) (Or.inl ⟨by rfl, ?hyn4_4⟩) (by assumption) ?hRn4_4
              case hyn4_4 => (intro w hSw; (try dsimp only at hSw); go_simp; (try with_reducible rfl))
              try simp only [Act.put, zp1, zp2, zp3, zp4, zp5, zp6]
              refine wpAnyH_take (i := 4) (v := ?vn4_5) rfl (by kernel_rfl) (by kernel_rfl) (by kernel_rfl) (fun _ _ _ h => h) (Or.inl ⟨by rfl, ?hyn4_5⟩) (by assumption) ?hRn4_5
              case hyn4_5 => (intro w hSw; (try dsimp only at hSw); go_simp; (try with_reducible rfl))
              try simp only [Act.put, zp1, zp2, zp3, zp4, zp5, zp6]
              refine wpAnyH_take (i := 5) (v := ?vn4_6) rfl (by kernel_rfl) (by kernel_rfl) (by kernel_rfl) (fun _ _ _ h => h) (Or.inl ⟨by rfl, ?hyn4_6⟩) (by assumption) ?hRn4_6
              case hyn4_6 => (intro w hSw; (try dsimp only at hSw); go_simp; (try with_reducible rfl))
              try simp only [Act.put, zp1, zp2, zp3, zp4, zp5, zp6]
              refine wpAnyH_take (i := 6) (v := ?vn4_7) rfl (by kernel_rfl) (by kernel_rfl) (by kernel_rfl) (fun _ _ _ h => h) (Or.inl ⟨by rfl, ?hyn4_7⟩) (by assumption) ?hRn4_7
              case hyn4_7 => (intro w hSw; (try dsimp only at hSw); go_simp; (try with_reducible rfl))
              try simp only [Act.put, zp1, zp2, zp3, zp4, zp5, zp6]
              refine wpAnyH_take (i := 7) (v := ?vn4_8) rfl (by kernel_rfl) (by kernel_rfl) (by kernel_rfl) (fun _ _ _ h => h) (Or.inl ⟨by rfl, ?hyn4_8⟩) (by assumption) ?hRn4_8
              case hyn4_8 => (intro w hSw; (try dsimp only at hSw); go_simp; (try with_reducible rfl))
              try simp only [Act.put, zp1, zp2, zp3, zp4, zp5, zp6]
              refine wpAnyH_take (i := 8) (v := ?vn4_9) rfl (by kernel_rfl) (by kernel_rfl) (by kernel_rfl) (fun _ _ _ h => h) (Or.inl ⟨by rfl, ?hyn4_9⟩) (by assumption) ?hRn4_9
              case hyn4_9 => (intro w hSw; (try dsimp only at hSw); go_simp; (try with_reducible rfl))
              try simp only [Act.put, zp1, zp2, zp3, zp4, zp5, zp6]
              refine wpAnyH_take (i := 9) (v := ?vn4_10) rfl (by kernel_rfl) (by kernel_rfl) (by kernel_rfl) (fun _ _ _ h => h) (Or.inl ⟨by rfl, ?hyn4_10⟩) (by assumption) ?hRn4_10
              case hyn4_10 => (intro w hSw; (try dsimp only at hSw); go_simp; (try with_reducible rfl))
              try simp only [Act.put, zp1, zp2, zp3, zp4, zp5, zp6]
              refine wpAnyH_take (i := 10) (v := ?vn4_11) rfl (by kernel_rfl) (by kernel_rfl) (by kernel_rfl) (fun _ _ _ h => h) (Or.inl ⟨by rfl, ?hyn4_11⟩) (by assumption) ?hRn4_11
              case hyn4_11 => (intro w hSw; (try dsimp only at hSw); go_simp; (try with_reducible rfl))
              try simp only [Act.put, zp1, zp2, zp3, zp4, zp5, zp6]
              refine wpAnyH_take (i := 11) (v := ?vn4_12) rfl (by kernel_rfl) (by kernel_rfl) (by kernel_rfl) (fun _ _ _ h => h) (Or.inl ⟨by rfl, ?hyn4_12⟩) (by assumption) ?hRn4_12
              case hyn4_12 => (intro w hSw; (try dsimp only at hSw); go_simp; (try with_reducible rfl))
              try simp only [Act.put, zp1, zp2, zp3, zp4, zp5, zp6]
              refine wpAnyH_ready (rs := [12, 16]) (by kernel_rfl) (by simp) ?_
              refine AllReadyH.cons rfl (fun K hK => ?bn4_13) (AllReadyH.cons rfl (fun K hK => ?bn4_14) (AllReadyH.nil))
              case' bn4_13 =>
                go_simp
                (go_at_call 99; refine (AddFractions_any n d n' d' _).mono ?_; rintro e64 w64 ⟨he, hb⟩; rw [hf] at he; simp only [optF] at he; subst he; haveI : Bel _ w64 := ⟨hb⟩; clear hb)
                go_wp2_with fail
                refine hK.out _ _ ?hSn4_15 (fun hHeld => ?hRn4_15)
                case hSn4_15 => ((try dsimp only); exact ⟨has1, X1 _ inferInstance, X2 _ inferInstance, has1, Y1 _ inferInstance, Y2 _ inferInstance⟩)
                clear hK K
                try simp only [Act.put, zp1, zp2, zp3, zp4, zp5, zp6]
                refine wpAnyH_take (i := 13) (v := ?vn4_16) rfl (by kernel_rfl) (by kernel_rfl) (by kernel_rfl) (fun _ _ _ h => h) (Or.inl ⟨by rfl, ?hyn4_16⟩) (by assumption) ?hRn4_16
                case hyn4_16 => (intro w hSw; (try dsimp only at hSw); go_simp; (try with_reducible rfl))
                try simp only [Act.put, zp1, zp2, zp3, zp4, zp5, zp6]
                refine wpAnyH_take (i := 14) (v := ?vn4_17) rfl (by kernel_rfl) (by kernel_rfl) (by kernel_rfl) (fun _ _ _ h => h) (Or.inl ⟨by rfl, ?hyn4_17⟩) (by assumption) ?hRn4_17
                case hyn4_17 => (intro w hSw; (try dsimp only at hSw); go_simp; (try with_reducible rfl))
                try simp only [Act.put, zp1, zp2, zp3, zp4, zp5, zp6]
                refine wpAnyH_take (i := 15) (v := ?vn4_18) rfl (by kernel_rfl) (by kernel_rfl) (by kernel_rfl) (fun _ _ _ h => h) (Or.inl ⟨by rfl, ?hyn4_18⟩) (by assumption) ?hRn4_18
                case hyn4_18 => (intro w hSw; (try dsimp only at hSw); go_simp; (try with_reducible rfl))
                try simp only [Act.put, zp1, zp2, zp3, zp4, zp5, zp6]
                refine wpAnyH_ready (rs := [16]) (by kernel_rfl) (by simp) ?_
                refine AllReadyH.cons rfl (fun K hK => ?_) AllReadyH.nil
                go_simp
                refine hK.out _ _ ?hSn4_19 (fun hHeld => ?hRn4_19)
                case hSn4_19 => ((try dsimp only); exact ⟨has1, X1 _ inferInstance, X2 _ inferInstance, has1, Y1 _ inferInstance, Y2 _ inferInstance⟩)
                clear hK K
                try simp only [Act.put, zp1, zp2, zp3, zp4, zp5, zp6]
                refine wpAnyH_ready (rs := [17]) (by kernel_rfl) (by simp) ?_
                refine AllReadyH.cons rfl (fun K hK => ?_) AllReadyH.nil
                go_simp
                refine hK.out _ _ ?hSn4_20 (fun hHeld => ?hRn4_20)
                case hSn4_20 => ((try dsimp only); exact ⟨has1, X1 _ inferInstance, X2 _ inferInstance, has1, Y1 _ inferInstance, Y2 _ inferInstance⟩)
                clear hK K
                try simp only [Act.put, zp1, zp2, zp3, zp4, zp5, zp6]
                refine wpAnyH_take (i := 18) (v := ?vn4_21) rfl (by kernel_rfl) (by kernel_rfl) (by kernel_rfl) (fun _ _ _ h => h) (Or.inl ⟨by rfl, ?hyn4_21⟩) (by assumption) ?hRn4_21
                case hyn4_21 => (intro w hSw; (try dsimp only at hSw); go_simp; (try with_reducible rfl))
                try simp only [Act.put, zp1, zp2, zp3, zp4, zp5, zp6]
                refine wpAnyH_done (by kernel_rfl) ?_ _
              case' bn4_14 =>
                go_simp
                refine hK.out _ _ ?hSn4_22 (fun hHeld => ?hRn4_22)
                case hSn4_22 => ((try dsimp only); exact ⟨has1, X1 _ inferInstance, X2 _ inferInstance, has1, Y1 _ inferInstance, Y2 _ inferInstance⟩)
                clear hK K
                try simp only [Act.put, zp1, zp2, zp3, zp4, zp5, zp6]
                refine wpAnyH_ready (rs := [12]) (by kernel_rfl) (by simp) ?_
                refine AllReadyH.cons rfl (fun K hK => ?_) AllReadyH.nil
                go_simp
                (go_at_call 99; refine (AddFractions_any n d n' d' _).mono ?_; rintro e64 w64 ⟨he, hb⟩; rw [hf] at he; simp only [optF] at he; subst he; haveI : Bel _ w64 := ⟨hb⟩; clear hb)
                go_wp2_with fail
                refine hK.out _ _ ?hSn4_23 (fun hHeld => ?hRn4_23)
                case hSn4_23 => ((try dsimp only); exact ⟨has1, X1 _ inferInstance, X2 _ inferInstance, has1, Y1 _ inferInstance, Y2 _ inferInstance⟩)
                clear hK K
                try simp only [Act.put, zp1, zp2, zp3, zp4, zp5, zp6]
                refine wpAnyH_take (i := 13) (v := ?vn4_24) rfl (by kernel_rfl) (by kernel_rfl) (by kernel_rfl) (fun _ _ _ h => h) (Or.inl ⟨by rfl, ?hyn4_24⟩) (by assumption) ?hRn4_24
                case hyn4_24 => (intro w hSw; (try dsimp only at hSw); go_simp; (try with_reducible rfl))
                try simp only [Act.put, zp1, zp2, zp3, zp4, zp5, zp6]
                refine wpAnyH_take (i := 14) (v := ?vn4_25) rfl (by kernel_rfl) (by kernel_rfl) (by kernel_rfl) (fun _ _ _ h => h) (Or.inl ⟨by rfl, ?hyn4_25⟩) (by assumption) ?hRn4_25
                case hyn4_25 => (intro w hSw; (try dsimp only at hSw); go_simp; (try with_reducible rfl))
                try simp only [Act.put, zp1, zp2, zp3, zp4, zp5, zp6]
                refine wpAnyH_take (i := 15) (v := ?vn4_26) rfl (by kernel_rfl) (by kernel_rfl) (by kernel_rfl) (fun _ _ _ h => h) (Or.inl ⟨by rfl, ?hyn4_26⟩) (by assumption) ?hRn4_26
                case hyn4_26 => (intro w hSw; (try dsimp only at hSw); go_simp; (try with_reducible rfl))
                try simp only [Act.put, zp1, zp2, zp3, zp4, zp5, zp6]
                refine wpAnyH_ready (rs := [17]) (by kernel_rfl) (by simp) ?_
                refine AllReadyH.cons rfl (fun K hK => ?_) AllReadyH.nil
                go_simp
                refine hK.out _ _ ?hSn4_27 (fun hHeld => ?hRn4_27)
                case hSn4_27 => ((try dsimp only); exact ⟨has1, X1 _ inferInstance, X2 _ inferInstance, has1, Y1 _ inferInstance, Y2 _ inferInstance⟩)
                clear hK K
                try simp only [Act.put, zp1, zp2, zp3, zp4, zp5, zp6]
                refine wpAnyH_take (i := 18) (v := ?vn4_28) rfl (by kernel_rfl) (by kernel_rfl) (by kernel_rfl) (fun _ _ _ h => h) (Or.inl ⟨by rfl, ?hyn4_28⟩) (by assumption) ?hRn4_28
                case hyn4_28 => (intro w hSw; (try dsimp only at hSw); go_simp; (try with_reducible rfl))
                try simp only [Act.put, zp1, zp2, zp3, zp4, zp5, zp6]
                refine wpAnyH_done (by kernel_rfl) ?_ _
              all_goals
                go_wp2
                go_meet
                exact ⟨rfl, _, rfl, inferInstance, inferInstance, inferInstance, ⟨ext _ _⟩⟩
            case rest =>
              rename World => wx
              obtain ⟨rfl, g10, rfl, _, _, _, _⟩ := hcut
              by_cases hp : p = 0
              · have HT2 : Hid (SumAt x y (i + 1) (k + 1) acc) := by have := HT.out; rw [if_pos hp] at this; exact this
                clear HT
                go_wp2
                exact ⟨⟨i + 1, k + 1, _, _, _, by go_num, by go_num, by omega, by omega, by omega, inferInstance, inferInstance, inferInstance, HT2, kp _ _ _, inferInstance, inferInstance⟩, by simp [intOf]; omega⟩
              · have HT2 : Hid (SumAt x y (i + 1) (k + 1) (acc.app (.cons e p pq .nil))) := by have := HT.out; rw [if_neg hp] at this; exact this
                have hp' : (p != 0) = true := by simpa using hp
                clear HT
                go_wp2
                refine wp_region_held_drew (S := (fun w' => w'.cell? ⟨g2, 0, none⟩ = some (.slice (some ⟨b, o, none⟩) x.len c) ∧ w'.cell? ⟨b, o + i * 3, none⟩ = some (.slice A1 e.len d1) ∧ w'.cell? ⟨g10, 0, none⟩ = some (.int .i64 p) ∧ w'.cell? ⟨g10, 1, none⟩ = some (.int .i64 pq))) (by kernel_rfl) ?hSn5_ (fun hHeld => ?hRn5_)
                case hSn5_ => (exact ⟨has1, X0 _ inferInstance, has2.1, has2.2⟩)
                refine wpAnyH_take (i := 0) (v := ?vn5_1) rfl (by kernel_rfl) (by kernel_rfl) (by kernel_rfl) (fun _ _ _ h => h) (Or.inl ⟨by rfl, ?hyn5_1⟩) (by assumption) ?hRn5_1
                case hyn5_1 => (intro w hSw; (try dsimp only at hSw); go_simp; (try with_reducible rfl))
                try simp only [Act.put, zp1, zp2, zp3, zp4, zp5, zp6]
                refine wpAnyH_take (i := 2) (v := ?vn5_2) rfl (by kernel_rfl) (by kernel_rfl) (by kernel_rfl) (fun _ _ _ h => h) (Or.inl ⟨by rfl, ?hyn5_2⟩) (by assumption) ?hRn5_2
                case hyn5_2 => (intro w hSw; (try dsimp only at hSw); go_simp; (try with_reducible rfl))
                try simp only [Act.put, zp1, zp2, zp3, zp4, zp5, zp6]
                refine wpAnyH_take (i := 3) (v := ?vn5_3) rfl (by kernel_rfl) (by kernel_rfl) (by kernel_rfl) (fun _ _ _ h => h) (Or.inl ⟨by rfl, ?hyn5_3⟩) (by assumption) ?hRn5_3
                case hyn5_3 => (intro w hSw; (try dsimp only at hSw); go_simp; (try with_reducible rfl))
                try simp only [Act.put, zp1, zp2, zp3, zp4, zp5, zp6]
                refine wpAnyH_take (i := 4) (v := ?vn5_4) rfl (by kernel_rfl) (by kernel_rfl) (by kernel_rfl) (fun _ _ _ h => h) (Or.inl ⟨by rfl, ?hyn5_4⟩) (by assumption) ?hRn5_4
                case hyn5_4 => (intro w hSw; (try dsimp only at hSw); go_simp; (try with_reducible rfl))
                try simp only [Act.put, zp1, zp2, zp3, zp4, zp5, zp6]
                refine wpAnyH_take (i := 5) (v := ?vn5_5) rfl (by kernel_rfl) (by kernel_rfl) (by kernel_rfl) (fun _ _ _ h => h) (Or.inl ⟨by rfl, ?hyn5_5⟩) (by assumption) ?hRn5_5
                case hyn5_5 => (intro w hSw; (try dsimp only at hSw); go_simp; (try with_reducible rfl))
                try simp only [Act.put, zp1, zp2, zp3, zp4, zp5, zp6]
                refine wpAnyH_take (i := 6) (v := ?vn5_6) rfl (by kernel_rfl) (by kernel_rfl) (by kernel_rfl) (fun _ _ _ h => h) (Or.inl ⟨by rfl, ?hyn5_6⟩) (by assumption) ?hRn5_6
                case hyn5_6 => (intro w hSw; (try dsimp only at hSw); go_simp; (try with_reducible rfl))
                try simp only [Act.put, zp1, zp2, zp3, zp4, zp5, zp6]
                refine wpAnyH_take (i := 7) (v := ?vn5_7) rfl (by kernel_rfl) (by kernel_rfl) (by kernel_rfl) (fun _ _ _ h => h) (Or.inl ⟨by rfl, ?hyn5_7⟩) (by assumption) ?hRn5_7
                case hyn5_7 => (intro w hSw; (try dsimp only at hSw); go_simp; (try with_reducible rfl))
                try simp only [Act.put, zp1, zp2, zp3, zp4, zp5, zp6]
                refine wpAnyH_take (i := 8) (v := ?vn5_8) rfl (by kernel_rfl) (by kernel_rfl) (by kernel_rfl) (fun _ _ _ h => h) (Or.inl ⟨by rfl, ?hyn5_8⟩) (by assumption) ?hRn5_8
                case hyn5_8 => (intro w hSw; (try dsimp only at hSw); go_simp; (try with_reducible rfl))
                try simp only [Act.put, zp1, zp2, zp3, zp4, zp5, zp6]
                refine wpAnyH_take (i := 9) (v := ?vn5_9) rfl (by kernel_rfl) (by kernel_rfl) (by kernel_rfl) (fun _ _ _ h => h) (Or.inl ⟨by rfl, ?hyn5_9⟩) (by assumption) ?hRn5_9
                case hyn5_9 => (intro w hSw; (try dsimp only at hSw); go_simp; (try with_reducible rfl))
                try simp only [Act.put, zp1, zp2, zp3, zp4, zp5, zp6]
                refine wpAnyH_ready (rs := [1, 10]) (by kernel_rfl) (by simp) ?_
                refine AllReadyH.cons rfl (fun K hK => ?bn5_10) (AllReadyH.cons rfl (fun K hK => ?bn5_11) (AllReadyH.nil))
                case' bn5_10 =>
                  go_simp
                  refine hK.out _ _ ?hSn5_12 (fun hHeld => ?hRn5_12)
                  case hSn5_12 => ((try dsimp only); exact ⟨has1, X0 _ inferInstance, has2.1, has2.2⟩)
                  clear hK K
                  try simp only [Act.put, zp1, zp2, zp3, zp4, zp5, zp6]
                  refine wpAnyH_ready (rs := [10]) (by kernel_rfl) (by simp) ?_
                  refine AllReadyH.cons rfl (fun K hK => ?_) AllReadyH.nil
                  go_simp
                  refine hK.out _ _ ?hSn5_13 (fun hHeld => ?hRn5_13)
                  case hSn5_13 => ((try dsimp only); exact ⟨has1, X0 _ inferInstance, has2.1, has2.2⟩)
                  clear hK K
                  try simp only [Act.put, zp1, zp2, zp3, zp4, zp5, zp6]
                  refine wpAnyH_ready (rs := [11]) (by kernel_rfl) (by simp) ?_
                  refine AllReadyH.cons rfl (fun K hK => ?_) AllReadyH.nil
                  (refine ap_step (v := v) (cs := [.slice A1 e.len d1, .int .i64 p, .int .i64 pq]) (by rfl) _ _ _ (by rfl) (by rfl) (by rfl) (by rfl) (by simp [Value.oneCell']) (by omega) ?_; intro gg cap wa _ _ _ _ _)
                  refine hK.out _ _ ?hSn5_14 (fun hHeld => ?hRn5_14)
                  case hSn5_14 => ((try dsimp only); exact ⟨has1, X0 _ inferInstance, has2.1, has2.2⟩)
                  clear hK K
                  try simp only [Act.put, zp1, zp2, zp3, zp4, zp5, zp6]
                  refine wpAnyH_take (i := 12) (v := ?vn5_15) rfl (by kernel_rfl) (by kernel_rfl) (by kernel_rfl) (fun _ _ _ h => h) (Or.inl ⟨by rfl, ?hyn5_15⟩) (by assumption) ?hRn5_15
                  case hyn5_15 => (intro w hSw; (try dsimp only at hSw); go_simp; (try with_reducible rfl))
                  try simp only [Act.put, zp1, zp2, zp3, zp4, zp5, zp6]
                  refine wpAnyH_ready (rs := [13]) (by kernel_rfl) (by simp) ?_
                  refine AllReadyH.cons rfl (fun K hK => ?_) AllReadyH.nil
                  go_simp
                  refine hK.out _ _ ?hSn5_16 (fun hHeld => ?hRn5_16)
                  case hSn5_16 => ((try dsimp only); exact ⟨has1, X0 _ inferInstance, has2.1, has2.2⟩)
                  clear hK K
                  try simp only [Act.put, zp1, zp2, zp3, zp4, zp5, zp6]
                  refine wpAnyH_done (by kernel_rfl) ?_ _
                case' bn5_11 =>
                  go_simp
                  refine hK.out _ _ ?hSn5_17 (fun hHeld => ?hRn5_17)
                  case hSn5_17 => ((try dsimp only); exact ⟨has1, X0 _ inferInstance, has2.1, has2.2⟩)
                  clear hK K
                  try simp only [Act.put, zp1, zp2, zp3, zp4, zp5, zp6]
                  refine wpAnyH_ready (rs := [1]) (by kernel_rfl) (by simp) ?_
                  refine AllReadyH.cons rfl (fun K hK => ?_) AllReadyH.nil
                  go_simp
                  refine hK.out _ _ ?hSn5_18 (fun hHeld => ?hRn5_18)
                  case hSn5_18 => ((try dsimp only); exact ⟨has1, X0 _ inferInstance, has2.1, has2.2⟩)
                  clear hK K
                  try simp only [Act.put, zp1, zp2, zp3, zp4, zp5, zp6]
                  refine wpAnyH_ready (rs := [11]) (by kernel_rfl) (by simp) ?_
                  refine AllReadyH.cons rfl (fun K hK => ?_) AllReadyH.nil
                  (refine ap_step (v := v) (cs := [.slice A1 e.len d1, .int .i64 p, .int .i64 pq]) (by rfl) _ _ _ (by rfl) (by rfl) (by rfl) (by rfl) (by simp [Value.oneCell']) (by omega) ?_; intro gg cap wa _ _ _ _ _)
                  refine hK.out _ _ ?hSn5_19 (fun hHeld => ?hRn5_19)
                  case hSn5_19 => ((try dsimp only); exact ⟨has1, X0 _ inferInstance, has2.1, has2.2⟩)
                  clear hK K
                  try simp only [Act.put, zp1, zp2, zp3, zp4, zp5, zp6]
                  refine wpAnyH_take (i := 12) (v := ?vn5_20) rfl (by kernel_rfl) (by kernel_rfl) (by kernel_rfl) (fun _ _ _ h => h) (Or.inl ⟨by rfl, ?hyn5_20⟩) (by assumption) ?hRn5_20
                  case hyn5_20 => (intro w hSw; (try dsimp only at hSw); go_simp; (try with_reducible rfl))
                  try simp only [Act.put, zp1, zp2, zp3, zp4, zp5, zp6]
                  refine wpAnyH_ready (rs := [13]) (by kernel_rfl) (by simp) ?_
                  refine AllReadyH.cons rfl (fun K hK => ?_) AllReadyH.nil
                  go_simp
                  refine hK.out _ _ ?hSn5_21 (fun hHeld => ?hRn5_21)
                  case hSn5_21 => ((try dsimp only); exact ⟨has1, X0 _ inferInstance, has2.1, has2.2⟩)
                  clear hK K
                  try simp only [Act.put, zp1, zp2, zp3, zp4, zp5, zp6]
                  refine wpAnyH_done (by kernel_rfl) ?_ _
                all_goals
                  go_wp2
                  exact ⟨⟨i + 1, k + 1, _, _, _, by go_num, by go_num, by omega, by omega, by rw [Sur.len_snoc]; omega, inferInstance, Own.snoc inferInstance, TR.snoc (tr _ A1) HI.out.1 HI.out.2, HT2, kp _ _ _, inferInstance, inferInstance⟩, by simp [intOf]; omega⟩
        · have HT := Lib.hid (HS.out.left HXK.out (.inr ⟨_, _, _, _, HYK.out, q⟩))
          clear HS
          rw [q]
          clear q
          go_wp2
          refine wp_region_held_drew (S := (fun w' => w'.cell? ⟨g2, 0, none⟩ = some (.slice (some ⟨b, o, none⟩) x.len c) ∧ w'.cell? ⟨b, o + i * 3, none⟩ = some (.slice A1 e.len d1) ∧ w'.cell? ⟨b, o + i * 3 + 1, none⟩ = some (.int .i64 n) ∧ w'.cell? ⟨b, o + i * 3 + 2, none⟩ = some (.int .i64 d))) (by kernel_rfl) ?hSn6_ (fun hHeld => ?hRn6_)
          case hSn6_ => (exact ⟨has1, X0 _ inferInstance, X1 _ inferInstance, X2 _ inferInstance⟩)
          refine wpAnyH_take (i := 0) (v := ?vn6_1) rfl (by kernel_rfl) (by kernel_rfl) (by kernel_rfl) (fun _ _ _ h => h) (Or.inl ⟨by rfl, ?hyn6_1⟩) (by assumption) ?hRn6_1
          case hyn6_1 => (intro w hSw; (try dsimp only at hSw); go_simp; (try with_reducible rfl))
          try simp only [Act.put, zp1, zp2, zp3, zp4, zp5, zp6]
          refine wpAnyH_take (i := 2) (v := ?vn6_2) rfl (by kernel_rfl) (by kernel_rfl) (by kernel_rfl) (fun _ _ _ h => h) (Or.inl ⟨by rfl, ?hyn6_2⟩) (by assumption) ?hRn6_2
          case hyn6_2 => (intro w hSw; (try dsimp only at hSw); go_simp; (try with_reducible rfl))
          try simp only [Act.put, zp1, zp2, zp3, zp4, zp5, zp6]
          refine wpAnyH_take (i := 3) (v := ?vn6_3) rfl (by kernel_rfl) (by kernel_rfl) (by kernel_rfl) (fun _ _ _ h => h) (Or.inl ⟨by rfl, ?hyn6_3⟩) (by assumption) ?hRn6_3
          case hyn6_3 => (intro w hSw; (try dsimp only at hSw); go_simp; (try with_reducible rfl))
          try simp only [Act.put, zp1, zp2, zp3, zp4, zp5, zp6]
          refine wpAnyH_take (i := 4) (v := ?vn6_4) rfl (by kernel_rfl) (by kernel_rfl) (by kernel_rfl) (fun _ _ _ h => h) (Or.inl ⟨by rfl, ?hyn6_4⟩) (by assumption) ?hRn6_4
          case hyn6_4 => (intro w hSw; (try dsimp only at hSw); go_simp; (try with_reducible rfl))
          try simp only [Act.put, zp1, zp2, zp3, zp4, zp5, zp6]
          refine wpAnyH_take (i := 5) (v := ?vn6_5) rfl (by kernel_rfl) (by kernel_rfl) (by kernel_rfl) (fun _ _ _ h => h) (Or.inl ⟨by rfl, ?hyn6_5⟩) (by assumption) ?hRn6_5
          case hyn6_5 => (intro w hSw; (try dsimp only at hSw); go_simp; (try with_reducible rfl))
          try simp only [Act.put, zp1, zp2, zp3, zp4, zp5, zp6]
          refine wpAnyH_take (i := 6) (v := ?vn6_6) rfl (by kernel_rfl) (by kernel_rfl) (by kernel_rfl) (fun _ _ _ h => h) (Or.inl ⟨by rfl, ?hyn6_6⟩) (by assumption) ?hRn6_6
          case hyn6_6 => (intro w hSw; (try dsimp only at hSw); go_simp; (try with_reducible rfl))
          try simp only [Act.put, zp1, zp2, zp3, zp4, zp5, zp6]
          refine wpAnyH_ready (rs := [1, 7]) (by kernel_rfl) (by simp) ?_
          refine AllReadyH.cons rfl (fun K hK => ?bn6_7) (AllReadyH.cons rfl (fun K hK => ?bn6_8) (AllReadyH.nil))
          case' bn6_7 =>
            go_simp
            refine hK.out _ _ ?hSn6_9 (fun hHeld => ?hRn6_9)
            case hSn6_9 => ((try dsimp only); exact ⟨has1, X0 _ inferInstance, X1 _ inferInstance, X2 _ inferInstance⟩)
            clear hK K
            try simp only [Act.put, zp1, zp2, zp3, zp4, zp5, zp6]
            refine wpAnyH_ready (rs := [7]) (by kernel_rfl) (by simp) ?_
            refine AllReadyH.cons rfl (fun K hK => ?_) AllReadyH.nil
            go_simp
            refine hK.out _ _ ?hSn6_10 (fun hHeld => ?hRn6_10)
            case hSn6_10 => ((try dsimp only); exact ⟨has1, X0 _ inferInstance, X1 _ inferInstance, X2 _ inferInstance⟩)
            clear hK K
            try simp only [Act.put, zp1, zp2, zp3, zp4, zp5, zp6]
            refine wpAnyH_ready (rs := [8]) (by kernel_rfl) (by simp) ?_
            refine AllReadyH.cons rfl (fun K hK => ?_) AllReadyH.nil
            (refine ap_step (v := v) (cs := [.slice A1 e.len d1, .int .i64 n, .int .i64 d]) (by rfl) _ _ _ (by rfl) (by rfl) (by rfl) (by rfl) (by simp [Value.oneCell']) (by omega) ?_; intro gg cap wa _ _ _ _ _)
            refine hK.out _ _ ?hSn6_11 (fun hHeld => ?hRn6_11)
            case hSn6_11 => ((try dsimp only); exact ⟨has1, X0 _ inferInstance, X1 _ inferInstance, X2 _ inferInstance⟩)
            clear hK K
            try simp only [Act.put, zp1, zp2, zp3, zp4, zp5, zp6]
            refine wpAnyH_take (i := 9) (v := ?vn6_12) rfl (by kernel_rfl) (by kernel_rfl) (by kernel_rfl) (fun _ _ _ h => h) (Or.inl ⟨by rfl, ?hyn6_12⟩) (by assumption) ?hRn6_12
            case hyn6_12 => (intro w hSw; (try dsimp only at hSw); go_simp; (try with_reducible rfl))
            try simp only [Act.put, zp1, zp2, zp3, zp4, zp5, zp6]
            refine wpAnyH_ready (rs := [10]) (by kernel_rfl) (by simp) ?_
            refine AllReadyH.cons rfl (fun K hK => ?_) AllReadyH.nil
            go_simp
            refine hK.out _ _ ?hSn6_13 (fun hHeld => ?hRn6_13)
            case hSn6_13 => ((try dsimp only); exact ⟨has1, X0 _ inferInstance, X1 _ inferInstance, X2 _ inferInstance⟩)
            clear hK K
            try simp only [Act.put, zp1, zp2, zp3, zp4, zp5, zp6]
            refine wpAnyH_done (by kernel_rfl) ?_ _
          case' bn6_8 =>
            go_simp
            refine hK.out _ _ ?hSn6_14 (fun hHeld => ?hRn6_14)
            case hSn6_14 => ((try dsimp only); exact ⟨has1, X0 _ inferInstance, X1 _ inferInstance, X2 _ inferInstance⟩)
            clear hK K
            try simp only [Act.put, zp1, zp2, zp3, zp4, zp5, zp6]
            refine wpAnyH_ready (rs := [1]) (by kernel_rfl) (by simp) ?_
            refine AllReadyH.cons rfl (fun K hK => ?_) AllReadyH.nil
            go_simp
            refine hK.out _ _ ?hSn6_15 (fun hHeld => ?hRn6_15)
            case hSn6_15 => ((try dsimp only); exact ⟨has1, X0 _ inferInstance, X1 _ inferInstance, X2 _ inferInstance⟩)
            clear hK K
            try simp only [Act.put, zp1, zp2, zp3, zp4, zp5, zp6]
            refine wpAnyH_ready (rs := [8]) (by kernel_rfl) (by simp) ?_
            refine AllReadyH.cons rfl (fun K hK => ?_) AllReadyH.nil
            (refine ap_step (v := v) (cs := [.slice A1 e.len d1, .int .i64 n, .int .i64 d]) (by rfl) _ _ _ (by rfl) (by rfl) (by rfl) (by rfl) (by simp [Value.oneCell']) (by omega) ?_; intro gg cap wa _ _ _ _ _)
            refine hK.out _ _ ?hSn6_16 (fun hHeld => ?hRn6_16)
            case hSn6_16 => ((try dsimp only); exact ⟨has1, X0 _ inferInstance, X1 _ inferInstance, X2 _ inferInstance⟩)
            clear hK K
            try simp only [Act.put, zp1, zp2, zp3, zp4, zp5, zp6]
            refine wpAnyH_take (i := 9) (v := ?vn6_17) rfl (by kernel_rfl) (by kernel_rfl) (by kernel_rfl) (fun _ _ _ h => h) (Or.inl ⟨by rfl, ?hyn6_17⟩) (by assumption) ?hRn6_17
            case hyn6_17 => (intro w hSw; (try dsimp only at hSw); go_simp; (try with_reducible rfl))
            try simp only [Act.put, zp1, zp2, zp3, zp4, zp5, zp6]
            refine wpAnyH_ready (rs := [10]) (by kernel_rfl) (by simp) ?_
            refine AllReadyH.cons rfl (fun K hK => ?_) AllReadyH.nil
            go_simp
            refine hK.out _ _ ?hSn6_18 (fun hHeld => ?hRn6_18)
            case hSn6_18 => ((try dsimp only); exact ⟨has1, X0 _ inferInstance, X1 _ inferInstance, X2 _ inferInstance⟩)
            clear hK K
            try simp only [Act.put, zp1, zp2, zp3, zp4, zp5, zp6]
            refine wpAnyH_done (by kernel_rfl) ?_ _
          all_goals
            go_wp2
            exact ⟨⟨i + 1, k, _, _, _, by go_num, rfl, by omega, by omega, by rw [Sur.len_snoc]; omega, inferInstance, Own.snoc inferInstance, TR.snoc (tr _ A1) in_ id_, HT, kp _ _ _, inferInstance, inferInstance⟩, by simp [intOf]; omega⟩
      · obtain rfl : k = y.len := by omega
        have ey1 : ((y.len : Int) == (y.len : Int)) = true := by simp
        have HT := Lib.hid (HS.out.left hxk (.inl (y.drop_of_ge _ (Nat.le_refl _))))
        clear hxk HS
        go_wp2
        refine wp_region_held_drew (S := (fun w' => w'.cell? ⟨g2, 0, none⟩ = some (.slice (some ⟨b, o, none⟩) x.len c) ∧ w'.cell? ⟨b, o + i * 3, none⟩ = some (.slice A1 e.len d1) ∧ w'.cell? ⟨b, o + i * 3 + 1, none⟩ = some (.int .i64 n) ∧ w'.cell? ⟨b, o + i * 3 + 2, none⟩ = some (.int .i64 d))) (by kernel_rfl) ?hSn7_ (fun hHeld => ?hRn7_)
        case hSn7_ => (exact ⟨has1, X0 _ inferInstance, X1 _ inferInstance, X2 _ inferInstance⟩)
        refine wpAnyH_take (i := 0) (v := ?vn7_1) rfl (by kernel_rfl) (by kernel_rfl) (by kernel_rfl) (fun _ _ _ h => h) (Or.inl ⟨by rfl, ?hyn7_1⟩) (by assumption) ?hRn7_1
        case hyn7_1 => (intro w hSw; (try dsimp only at hSw); go_simp; (try with_reducible rfl))
        try simp only [Act.put, zp1, zp2, zp3, zp4, zp5, zp6]
        refine wpAnyH_take (i := 2) (v := ?vn7_2) rfl (by kernel_rfl) (by kernel_rfl) (by kernel_rfl) (fun _ _ _ h => h) (Or.inl ⟨by rfl, ?hyn7_2⟩) (by assumption) ?hRn7_2
        case hyn7_2 => (intro w hSw; (try dsimp only at hSw); go_simp; (try with_reducible rfl))
        try simp only [Act.put, zp1, zp2, zp3, zp4, zp5, zp6]
        refine wpAnyH_take (i := 3) (v := ?vn7_3) rfl (by kernel_rfl) (by kernel_rfl) (by kernel_rfl) (fun _ _ _ h => h) (Or.inl ⟨by rfl, ?hyn7_3⟩) (by assumption) ?hRn7_3
        case hyn7_3 => (intro w hSw; (try dsimp only at hSw); go_simp; (try with_reducible rfl))
        try simp only [Act.put, zp1, zp2, zp3, zp4, zp5, zp6]
        refine wpAnyH_take (i := 4) (v := ?vn7_4) rfl (by kernel_rfl) (by kernel_rfl) (by kernel_rfl) (fun _ _ _ h => h) (Or.inl ⟨by rfl, ?hyn7_4⟩) (by assumption) ?hRn7_4
        case hyn7_4 => (intro w hSw; (try dsimp only at hSw); go_simp; (try with_reducible rfl))
        try simp only [Act.put, zp1, zp2, zp3, zp4, zp5, zp6]
        refine wpAnyH_take (i := 5) (v := ?vn7_5) rfl (by kernel_rfl) (by kernel_rfl) (by kernel_rfl) (fun _ _ _ h => h) (Or.inl ⟨by rfl, ?hyn7_5⟩) (by assumption) ?hRn7_5
        case hyn7_5 => (intro w hSw; (try dsimp only at hSw); go_simp; (try with_reducible rfl))
        try simp only [Act.put, zp1, zp2, zp3, zp4, zp5, zp6]
        refine wpAnyH_take (i := 6) (v := ?vn7_6) rfl (by kernel_rfl) (by kernel_rfl) (by kernel_rfl) (fun _ _ _ h => h) (Or.inl ⟨by rfl, ?hyn7_6⟩) (by assumption) ?hRn7_6
        case hyn7_6 => (intro w hSw; (try dsimp only at hSw); go_simp; (try with_reducible rfl))
        try simp only [Act.put, zp1, zp2, zp3, zp4, zp5, zp6]
        refine wpAnyH_ready (rs := [1, 7]) (by kernel_rfl) (by simp) ?_
        refine AllReadyH.cons rfl (fun K hK => ?bn7_7) (AllReadyH.cons rfl (fun K hK => ?bn7_8) (AllReadyH.nil))
        case' bn7_7 =>
          go_simp
          refine hK.out _ _ ?hSn7_9 (fun hHeld => ?hRn7_9)
          case hSn7_9 => ((try dsimp only); exact ⟨has1, X0 _ inferInstance, X1 _ inferInstance, X2 _ inferInstance⟩)
          clear hK K
          try simp only [Act.put, zp1, zp2, zp3, zp4, zp5, zp6]
          refine wpAnyH_ready (rs := [7]) (by kernel_rfl) (by simp) ?_
          refine AllReadyH.cons rfl (fun K hK => ?_) AllReadyH.nil
          go_simp
          refine hK.out _ _ ?hSn7_10 (fun hHeld => ?hRn7_10)
          case hSn7_10 => ((try dsimp only); exact ⟨has1, X0 _ inferInstance, X1 _ inferInstance, X2 _ inferInstance⟩)
          clear hK K
          try simp only [Act.put, zp1, zp2, zp3, zp4, zp5, zp6]
          refine wpAnyH_ready (rs := [8]) (by kernel_rfl) (by simp) ?_
          refine AllReadyH.cons rfl (fun K hK => ?_) AllReadyH.nil
          (refine ap_step (v := v) (cs := [.slice A1 e.len d1, .int .i64 n, .int .i64 d]) (by rfl) _ _ _ (by rfl) (by rfl) (by rfl) (by rfl) (by simp [Value.oneCell']) (by omega) ?_; intro gg cap wa _ _ _ _ _)
          refine hK.out _ _ ?hSn7_11 (fun hHeld => ?hRn7_11)
          case hSn7_11 => ((try dsimp only); exact ⟨has1, X0 _ inferInstance, X1 _ inferInstance, X2 _ inferInstance⟩)
          clear hK K
          try simp only [Act.put, zp1, zp2, zp3, zp4, zp5, zp6]
          refine wpAnyH_take (i := 9) (v := ?vn7_12) rfl (by kernel_rfl) (by kernel_rfl) (by kernel_rfl) (fun _ _ _ h => h) (Or.inl ⟨by rfl, ?hyn7_12⟩) (by assumption) ?hRn7_12
          case hyn7_12 => (intro w hSw; (try dsimp only at hSw); go_simp; (try with_reducible rfl))
          try simp only [Act.put, zp1, zp2, zp3, zp4, zp5, zp6]
          refine wpAnyH_ready (rs := [10]) (by kernel_rfl) (by simp) ?_
          refine AllReadyH.cons rfl (fun K hK => ?_) AllReadyH.nil
          go_simp
          refine hK.out _ _ ?hSn7_13 (fun hHeld => ?hRn7_13)
          case hSn7_13 => ((try dsimp only); exact ⟨has1, X0 _ inferInstance, X1 _ inferInstance, X2 _ inferInstance⟩)
          clear hK K
          try simp only [Act.put, zp1, zp2, zp3, zp4, zp5, zp6]
          refine wpAnyH_done (by kernel_rfl) ?_ _
        case' bn7_8 =>
          go_simp
          refine hK.out _ _ ?hSn7_14 (fun hHeld => ?hRn7_14)
          case hSn7_14 => ((try dsimp only); exact ⟨has1, X0 _ inferInstance, X1 _ inferInstance, X2 _ inferInstance⟩)
          clear hK K
          try simp only [Act.put, zp1, zp2, zp3, zp4, zp5, zp6]
          refine wpAnyH_ready (rs := [1]) (by kernel_rfl) (by simp) ?_
          refine AllReadyH.cons rfl (fun K hK => ?_) AllReadyH.nil
          go_simp
          refine hK.out _ _ ?hSn7_15 (fun hHeld => ?hRn7_15)
          case hSn7_15 => ((try dsimp only); exact ⟨has1, X0 _ inferInstance, X1 _ inferInstance, X2 _ inferInstance⟩)
          clear hK K
          try simp only [Act.put, zp1, zp2, zp3, zp4, zp5, zp6]
          refine wpAnyH_ready (rs := [8]) (by kernel_rfl) (by simp) ?_
          refine AllReadyH.cons rfl (fun K hK => ?_) AllReadyH.nil
          (refine ap_step (v := v) (cs := [.slice A1 e.len d1, .int .i64 n, .int .i64 d]) (by rfl) _ _ _ (by rfl) (by rfl) (by rfl) (by rfl) (by simp [Value.oneCell']) (by omega) ?_; intro gg cap wa _ _ _ _ _)
          refine hK.out _ _ ?hSn7_16 (fun hHeld => ?hRn7_16)
          case hSn7_16 => ((try dsimp only); exact ⟨has1, X0 _ inferInstance, X1 _ inferInstance, X2 _ inferInstance⟩)
          clear hK K
          try simp only [Act.put, zp1, zp2, zp3, zp4, zp5, zp6]
          refine wpAnyH_take (i := 9) (v := ?vn7_17) rfl (by kernel_rfl) (by kernel_rfl) (by kernel_rfl) (fun _ _ _ h => h) (Or.inl ⟨by rfl, ?hyn7_17⟩) (by assumption) ?hRn7_17
          case hyn7_17 => (intro w hSw; (try dsimp only at hSw); go_simp; (try with_reducible rfl))
          try simp only [Act.put, zp1, zp2, zp3, zp4, zp5, zp6]
          refine wpAnyH_ready (rs := [10]) (by kernel_rfl) (by simp) ?_
          refine AllReadyH.cons rfl (fun K hK => ?_) AllReadyH.nil
          go_simp
          refine hK.out _ _ ?hSn7_18 (fun hHeld => ?hRn7_18)
          case hSn7_18 => ((try dsimp only); exact ⟨has1, X0 _ inferInstance, X1 _ inferInstance, X2 _ inferInstance⟩)
          clear hK K
          try simp only [Act.put, zp1, zp2, zp3, zp4, zp5, zp6]
          refine wpAnyH_done (by kernel_rfl) ?_ _
        all_goals
          go_wp2
          exact ⟨⟨i + 1, y.len, _, _, _, by go_num, rfl, by omega, by omega, by rw [Sur.len_snoc]; omega, inferInstance, Own.snoc inferInstance, TR.snoc (tr _ A1) in_ id_, HT, kp _ _ _, inferInstance, inferInstance⟩, by simp [intOf]; omega⟩
    · obtain rfl : i = x.len := by omega
      by_cases h2 : k < y.len
      · obtain ⟨b', o', e', n', d', A2, d2, rfl, hyk, f0, f1, f2, se, in', id', hXb', hbl'⟩ := iy4.h.at_ h2
        haveI : Tr wr A2 _ e' d2 := ⟨se⟩
        have hbw' : b' < w.heap.size := Nat.lt_of_not_le fun h => hXb' (.inl h)
        have Y0 : ∀ W, Ext w W → W.cell? ⟨b', o' + k * 3, none⟩ = some (.slice A2 e'.len d2) := fun W h => ((h.h).cell hbw').trans (((ext w wr).cell hbw').symm.trans f0)
        have Y1 : ∀ W, Ext w W → W.cell? ⟨b', o' + k * 3 + 1, none⟩ = some (.int .i64 n') := fun W h => ((h.h).cell hbw').trans (((ext w wr).cell hbw').symm.trans f1)
        have Y2 : ∀ W, Ext w W → W.cell? ⟨b', o' + k * 3 + 2, none⟩ = some (.int .i64 d') := fun W h => ((h.h).cell hbw').trans (((ext w wr).cell hbw').symm.trans f2)
        have HT := Lib.hid (HS.out.right hyk (.inl (x.drop_of_ge _ (Nat.le_refl _))))
        clear se f0 f1 f2 hyk HS
        have h2' : (k : Int) < (y.len : Int) := by omega
        have ey1 : ((k : Int) == (y.len : Int)) = false := by simp; omega
        have ex1 : ((x.len : Int) == (x.len : Int)) = true := by simp
        go_wp2
        refine wp_region_held_drew (S := (fun w' => w'.cell? ⟨g3, 0, none⟩ = some (.slice (some ⟨b', o', none⟩) y.len c') ∧ w'.cell? ⟨b', o' + k * 3, none⟩ = some (.slice A2 e'.len d2) ∧ w'.cell? ⟨b', o' + k * 3 + 1, none⟩ = some (.int .i64 n') ∧ w'.cell? ⟨b', o' + k * 3 + 2, none⟩ = some (.int .i64 d'))) (by kernel_rfl) ?hSn8_ (fun hHeld => ?hRn8_)
        case hSn8_ => (exact ⟨has1, Y0 _ inferInstance, Y1 _ inferInstance, Y2 _ inferInstance⟩)
        refine wpAnyH_take (i := 0) (v := ?vn8_1) rfl (by kernel_rfl) (by kernel_rfl) (by kernel_rfl) (fun _ _ _ h => h) (Or.inl ⟨by rfl, ?hyn8_1⟩) (by assumption) ?hRn8_1
        case hyn8_1 => (intro w hSw; (try dsimp only at hSw); go_simp; (try with_reducible rfl))
        try simp only [Act.put, zp1, zp2, zp3, zp4, zp5, zp6]
        refine wpAnyH_take (i := 2) (v := ?vn8_2) rfl (by kernel_rfl) (by kernel_rfl) (by kernel_rfl) (fun _ _ _ h => h) (Or.inl ⟨by rfl, ?hyn8_2⟩) (by assumption) ?hRn8_2
        case hyn8_2 => (intro w hSw; (try dsimp only at hSw); go_simp; (try with_reducible rfl))
        try simp only [Act.put, zp1, zp2, zp3, zp4, zp5, zp6]
        refine wpAnyH_take (i := 3) (v := ?vn8_3) rfl (by kernel_rfl) (by kernel_rfl) (by kernel_rfl) (fun _ _ _ h => h) (Or.inl ⟨by rfl, ?hyn8_3⟩) (by assumption) ?hRn8_3
        case hyn8_3 => (intro w hSw; (try dsimp only at hSw); go_simp; (try with_reducible rfl))
        try simp only [Act.put, zp1, zp2, zp3, zp4, zp5, zp6]
        refine wpAnyH_take (i := 4) (v := ?vn8_4) rfl (by kernel_rfl) (by kernel_rfl) (by kernel_rfl) (fun _ _ _ h => h) (Or.inl ⟨by rfl, ?hyn8_4⟩) (by assumption) ?hRn8_4
        case hyn8_4 => (intro w hSw; (try dsimp only at hSw); go_simp; (try with_reducible rfl))
        try simp only [Act.put, zp1, zp2, zp3, zp4, zp5, zp6]
        refine wpAnyH_take (i := 5) (v := ?vn8_5) rfl (by kernel_rfl) (by kernel_rfl) (by kernel_rfl) (fun _ _ _ h => h) (Or.inl ⟨by rfl, ?hyn8_5⟩) (by assumption) ?hRn8_5
        case hyn8_5 => (intro w hSw; (try dsimp only at hSw); go_simp; (try with_reducible rfl))
        try simp only [Act.put, zp1, zp2, zp3, zp4, zp5, zp6]
        refine wpAnyH_take (i := 6) (v := ?vn8_6) rfl (by kernel_rfl) (by kernel_rfl) (by kernel_rfl) (fun _ _ _ h => h) (Or.inl ⟨by rfl, ?hyn8_6⟩) (by assumption) ?hRn8_6
        case hyn8_6 => (intro w hSw; (try dsimp only at hSw); go_simp; (try with_reducible rfl))
        try simp only [Act.put, zp1, zp2, zp3, zp4, zp5, zp6]
        refine wpAnyH_ready (rs := [1, 7]) (by kernel_rfl) (by simp) ?_
        refine AllReadyH.cons rfl (fun K hK => ?bn8_7) (AllReadyH.cons rfl (fun K hK => ?bn8_8) (AllReadyH.nil))
        case' bn8_7 =>
          go_simp
          refine hK.out _ _ ?hSn8_9 (fun hHeld => ?hRn8_9)
          case hSn8_9 => ((try dsimp only); exact ⟨has1, Y0 _ inferInstance, Y1 _ inferInstance, Y2 _ inferInstance⟩)
          clear hK K
          try simp only [Act.put, zp1, zp2, zp3, zp4, zp5, zp6]
          refine wpAnyH_ready (rs := [7]) (by kernel_rfl) (by simp) ?_
          refine AllReadyH.cons rfl (fun K hK => ?_) AllReadyH.nil
          go_simp
          refine hK.out _ _ ?hSn8_10 (fun hHeld => ?hRn8_10)
          case hSn8_10 => ((try dsimp only); exact ⟨has1, Y0 _ inferInstance, Y1 _ inferInstance, Y2 _ inferInstance⟩)
          clear hK K
          try simp only [Act.put, zp1, zp2, zp3, zp4, zp5, zp6]
          refine wpAnyH_ready (rs := [8]) (by kernel_rfl) (by simp) ?_
          refine AllReadyH.cons rfl (fun K hK => ?_) AllReadyH.nil
          (refine ap_step (v := v) (cs := [.slice A2 e'.len d2, .int .i64 n', .int .i64 d']) (by rfl) _ _ _ (by rfl) (by rfl) (by rfl) (by rfl) (by simp [Value.oneCell']) (by omega) ?_; intro gg cap wa _ _ _ _ _)
          refine hK.out _ _ ?hSn8_11 (fun hHeld => ?hRn8_11)
          case hSn8_11 => ((try dsimp only); exact ⟨has1, Y0 _ inferInstance, Y1 _ inferInstance, Y2 _ inferInstance⟩)
          clear hK K
          try simp only [Act.put, zp1, zp2, zp3, zp4, zp5, zp6]
          refine wpAnyH_take (i := 9) (v := ?vn8_12) rfl (by kernel_rfl) (by kernel_rfl) (by kernel_rfl) (fun _ _ _ h => h) (Or.inl ⟨by rfl, ?hyn8_12⟩) (by assumption) ?hRn8_12
          case hyn8_12 => (intro w hSw; (try dsimp only at hSw); go_simp; (try with_reducible rfl))
          try simp only [Act.put, zp1, zp2, zp3, zp4, zp5, zp6]
          refine wpAnyH_ready (rs := [10]) (by kernel_rfl) (by simp) ?_
          refine AllReadyH.cons rfl (fun K hK => ?_) AllReadyH.nil
          go_simp
          refine hK.out _ _ ?hSn8_13 (fun hHeld => ?hRn8_13)
          case hSn8_13 => ((try dsimp only); exact ⟨has1, Y0 _ inferInstance, Y1 _ inferInstance, Y2 _ inferInstance⟩)
          clear hK K
          try simp only [Act.put, zp1, zp2, zp3, zp4, zp5, zp6]
          refine wpAnyH_done (by kernel_rfl) ?_ _
        case' bn8_8 =>
          go_simp
          refine hK.out _ _ ?hSn8_14 (fun hHeld => ?hRn8_14)
          case hSn8_14 => ((try dsimp only); exact ⟨has1, Y0 _ inferInstance, Y1 _ inferInstance, Y2 _ inferInstance⟩)
          clear hK K
          try simp only [Act.put, zp1, zp2, zp3, zp4, zp5, zp6]
          refine wpAnyH_ready (rs := [1]) (by kernel_rfl) (by simp) ?_
          refine AllReadyH.cons rfl (fun K hK => ?_) AllReadyH.nil
          go_simp
          refine hK.out _ _ ?hSn8_15 (fun hHeld => ?hRn8_15)
          case hSn8_15 => ((try dsimp only); exact ⟨has1, Y0 _ inferInstance, Y1 _ inferInstance, Y2 _ inferInstance⟩)
          clear hK K
          try simp only [Act.put, zp1, zp2, zp3, zp4, zp5, zp6]
          refine wpAnyH_ready (rs := [8]) (by kernel_rfl) (by simp) ?_
          refine AllReadyH.cons rfl (fun K hK => ?_) AllReadyH.nil
          (refine ap_step (v := v) (cs := [.slice A2 e'.len d2, .int .i64 n', .int .i64 d']) (by rfl) _ _ _ (by rfl) (by rfl) (by rfl) (by rfl) (by simp [Value.oneCell']) (by omega) ?_; intro gg cap wa _ _ _ _ _)
          refine hK.out _ _ ?hSn8_16 (fun hHeld => ?hRn8_16)
          case hSn8_16 => ((try dsimp only); exact ⟨has1, Y0 _ inferInstance, Y1 _ inferInstance, Y2 _ inferInstance⟩)
          clear hK K
          try simp only [Act.put, zp1, zp2, zp3, zp4, zp5, zp6]
          refine wpAnyH_take (i := 9) (v := ?vn8_17) rfl (by kernel_rfl) (by kernel_rfl) (by kernel_rfl) (fun _ _ _ h => h) (Or.inl ⟨by rfl, ?hyn8_17⟩) (by assumption) ?hRn8_17
          case hyn8_17 => (intro w hSw; (try dsimp only at hSw); go_simp; (try with_reducible rfl))
          try simp only [Act.put, zp1, zp2, zp3, zp4, zp5, zp6]
          refine wpAnyH_ready (rs := [10]) (by kernel_rfl) (by simp) ?_
          refine AllReadyH.cons rfl (fun K hK => ?_) AllReadyH.nil
          go_simp
          refine hK.out _ _ ?hSn8_18 (fun hHeld => ?hRn8_18)
          case hSn8_18 => ((try dsimp only); exact ⟨has1, Y0 _ inferInstance, Y1 _ inferInstance, Y2 _ inferInstance⟩)
          clear hK K
          try simp only [Act.put, zp1, zp2, zp3, zp4, zp5, zp6]
          refine wpAnyH_done (by kernel_rfl) ?_ _
        all_goals
          go_wp2
          exact ⟨⟨x.len, k + 1, _, _, _, rfl, by go_num, by omega, by omega, by rw [Sur.len_snoc]; omega, inferInstance, Own.snoc inferInstance, TR.snoc (tr _ A2) in' id', HT, kp _ _ _, inferInstance, inferInstance⟩, by simp [intOf]; omega⟩
      · obtain rfl : k = y.len := by omega
        have HF := Lib.hid (HS.out.done (Nat.le_refl _) (Nat.le_refl _))
        clear HS
        obtain ⟨Av, cv, rfl⟩ := own_slice (inferInstance : Own wr v v6 _ 3 _ xs).h
        haveI : XDis X (.slice Av acc.len cv) := xdis_lowS hX
        go_wp2
        refine bodyPost_ret (v := .tuple #[.agg #[.slice Av acc.len cv], .bool true]) (by simp [results, Tryz.results48, go_sem]) rfl ?_
        rw [HF.out]
        exact ⟨Av, cv, rfl, sl_own X _ Av cv acc, ext w _⟩
theorem sum_any (x y : Sur) (X : Nat → Prop) (A A' : Option Addr) (c c' : Nat) (w : World) (hX : ∀ k, X k → k < w.heap.size) (sx : SSl X w x A c) (sy : SSl X w y A' c') (hx : x.All FOk) (hy : y.All FOk) (hl : x.len + y.len ≤ 1099511627776) :
    Calls Tryz.prog 48 #[.agg #[.slice A x.len c], .agg #[.slice A' y.len c']] w (RetSh X w (sumP x y)) := sum_ex x y X A A' c c' w hX sx sy (ExF.of hx) (ExF.of hy) hl
end Go.Proofs.YtonlfnbjbmgegaaGreat
