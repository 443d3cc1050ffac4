/-
  Walks, the reference's side: the negative; AddSurreals, ScaleSurreal.
-/
import Derived.Test.YtdcnmaklnciofaaLZA
import Derived.Test.YtdcnmaklnciofaaSProd
namespace Go.Proofs.Ytdcnmaklnciofaa
open Go.RowKit
set_option linter.unusedSimpArgs false
set_option linter.unusedVariables false

theorem xdis_low3 {X : Nat → Prop} {v : Value} {w lo hi : World} (hX : ∀ k, X k → k < w.heap.size) [a : OwR v lo hi] [b : LeB w lo] : XDis X v := ⟨fun g hg h => by have := hX g h; have := (a.h g hg).1; have := b.h; omega⟩
attribute [local go_sem high] has_cell has_frozen
set_option synthInstance.maxHeartbeats 2000000 in
set_option synthInstance.maxSize 4000 in
set_option maxHeartbeats 3200000 in
set_option maxRecDepth 100000 in
theorem suNeg_any (x : Sur) (X : Nat → Prop) (A : Option Addr) (c : Nat) (w : World) (hX : ∀ k, X k → k < w.heap.size) (sx : SSl X w x A c) (hl : x.len ≤ 1099511627776) :
    Calls Try.prog 43 #[.agg #[.slice A x.len c]] w (RetS X w (negP x)) := by
  have lx := sx.cap
  have lx' := sx.le
  unfold maxLen at lx
  haveI ix := Tr.arg sx
  clear sx
  go_enter Try.func43, Try.ntmps43
  go_wp2_with (first | ((with_reducible refine at_dst (N := 1) rfl ?_); refine ev_box (cs := #[.slice A x.len c]) (t := 26) rfl ?hr1 ?_; (case hr1 => first | (go_simp; done) | (go_simp; rfl)); intro g1 v1 _ _ _ _) | ((with_reducible refine at_dst (N := 2) rfl ?_); refine ev_box (cs := #[.slice none 0 0]) (t := 26) rfl ?hr2 ?_; (case hr2 => first | (go_simp; done) | (go_simp; rfl)); intro g2 v2 _ _ _ _) | ((with_reducible refine at_dst (N := 3) rfl ?_); refine ev_box (cs := #[.slice none 0 0]) (t := 26) rfl ?hr3 ?_; (case hr3 => first | (go_simp; done) | (go_simp; rfl)); intro g3 v3 _ _ _ _))
  go_loopw [10] (fun s wr => ∃ (i : Nat) (v : Value) (xs : List Value), s = .int .i64 i ∧ i ≤ x.len ∧ Has wr g3 (.cells #[v] 26 (0, 0)) ∧ Own wr v v3 65 3 (negP (x.take i)).len xs ∧ TR wr (XV w X) (negP (x.take i)) xs ∧ Kp v3 (XE g3) wr ∧ Tr wr A (XV w X) x c) (fun s _ => x.len - (intOf s).toNat)
  case atStart => exact ⟨0, .slice none 0 0, [], rfl, Nat.zero_le _, inferInstance, Own.nil _ _ _ _, TR.nil _ _, kp _ _ _, inferInstance⟩
  case round =>
    obtain ⟨i, v, xs, rfl, hi, _, _, _, _, ix4⟩ := hrel
    clear ix
    haveI := Own.rg wr v
    have hi0' : (0 : Int) ≤ (i : Int) := by omega
    have hln : (negP (x.take i)).len ≤ 1099511627776 := by rw [negP_len, Sur.len_take x i hi]; omega
    by_cases h1 : i < x.len
    · obtain ⟨b, o, e, n, d, A1, d1, rfl, hxk, f0, f1, f2, se, in_, id_, hXb, hbl⟩ := ix4.h.at_ h1
      haveI : Tr wr A1 _ e d1 := ⟨se⟩
      have hT : negP (x.take (i + 1)) = (negP (x.take i)).app (.cons e (negI n) d .nil) := by rw [x.take_succ i e n d _ hxk, negP_app]; rfl
      have HT := Lib.hid hT
      clear hT hxk se
      have h1' : (i : Int) < (x.len : Int) := by omega
      go_wp2_with (first | ((with_reducible refine at_dst (N := 5) rfl ?_); refine ev_box (cs := #[.slice none 0 0, .int .i64 0, .int .i64 0]) (t := 65) rfl ?hr5 ?_; (case hr5 => first | (go_simp; done) | (go_simp; rfl)); intro g5 v5 _ _ _ _))
      refine wp_region_held_drew (S := (fun w' => w'.cell? ⟨g5, 0, none⟩ = some (.slice A1 e.len d1) ∧ w'.cell? ⟨g5, 1, none⟩ = some (.int .i64 n) ∧ w'.cell? ⟨g5, 2, none⟩ = some (.int .i64 d))) (by kernel_rfl) ?hSn1_ (fun hHeld => ?hRn1_)
      case hSn1_ => (exact has3)
      refine wpAnyH_take (i := 0) (oi := _) (v := ?vn1_1) rfl (by kernel_rfl) (by kernel_rfl) (by kernel_rfl) (fun _ _ _ h => h) (Or.inl ⟨by rfl, ?hyn1_1⟩) (by assumption) ?hRn1_1
      case hyn1_1 => (intro w hSw; (try dsimp only at hSw); go_simp; (try with_reducible rfl))
      try simp only [Act.put, List.getElem_toArray, List.getElem_cons_zero, List.getElem_cons_succ, List.setIfInBounds_toArray, List.set_cons_zero, List.set_cons_succ]
      refine wpAnyH_take (i := 2) (oi := _) (v := ?vn1_2) rfl (by kernel_rfl) (by kernel_rfl) (by kernel_rfl) (fun _ _ _ h => h) (Or.inl ⟨by rfl, ?hyn1_2⟩) (by assumption) ?hRn1_2
      case hyn1_2 => (intro w hSw; (try dsimp only at hSw); go_simp; (try with_reducible rfl))
      try simp only [Act.put, List.getElem_toArray, List.getElem_cons_zero, List.getElem_cons_succ, List.setIfInBounds_toArray, List.set_cons_zero, List.set_cons_succ]
      refine wpAnyH_take (i := 3) (oi := _) (v := ?vn1_3) rfl (by kernel_rfl) (by kernel_rfl) (by kernel_rfl) (fun _ _ _ h => h) (Or.inl ⟨by rfl, ?hyn1_3⟩) (by assumption) ?hRn1_3
      case hyn1_3 => (intro w hSw; (try dsimp only at hSw); go_simp; (try with_reducible rfl))
      try simp only [Act.put, List.getElem_toArray, List.getElem_cons_zero, List.getElem_cons_succ, List.setIfInBounds_toArray, List.set_cons_zero, List.set_cons_succ]
      refine wpAnyH_take (i := 4) (oi := _) (v := ?vn1_4) rfl (by kernel_rfl) (by kernel_rfl) (by kernel_rfl) (fun _ _ _ h => h) (Or.inl ⟨by rfl, ?hyn1_4⟩) (by assumption) ?hRn1_4
      case hyn1_4 => (intro w hSw; (try dsimp only at hSw); go_simp; (try with_reducible rfl))
      try simp only [Act.put, List.getElem_toArray, List.getElem_cons_zero, List.getElem_cons_succ, List.setIfInBounds_toArray, List.set_cons_zero, List.set_cons_succ]
      refine wpAnyH_take (i := 5) (oi := _) (v := ?vn1_5) rfl (by kernel_rfl) (by kernel_rfl) (by kernel_rfl) (fun _ _ _ h => h) (Or.inl ⟨by rfl, ?hyn1_5⟩) (by assumption) ?hRn1_5
      case hyn1_5 => (intro w hSw; (try dsimp only at hSw); go_simp; (try with_reducible rfl))
      try simp only [Act.put, List.getElem_toArray, List.getElem_cons_zero, List.getElem_cons_succ, List.setIfInBounds_toArray, List.set_cons_zero, List.set_cons_succ]
      refine wpAnyH_ready (rs := [1, 6]) (by kernel_rfl) (by simp) ?_
      refine AllReadyH.cons (o := _) rfl (fun K hK => ?bn1_6) (AllReadyH.cons (o := _) rfl (fun K hK => ?bn1_7) (AllReadyH.nil))
      case' bn1_6 =>
        go_simp
        refine hK.out _ _ ?hSn1_8 (fun hHeld => ?hRn1_8)
        case hSn1_8 => ((try dsimp only); exact has3)
        clear hK K
        try simp only [Act.put, List.getElem_toArray, List.getElem_cons_zero, List.getElem_cons_succ, List.setIfInBounds_toArray, List.set_cons_zero, List.set_cons_succ]
        refine wpAnyH_ready (rs := [6]) (by kernel_rfl) (by simp) ?_
        refine AllReadyH.cons (o := _) rfl (fun K hK => ?_) AllReadyH.nil
        go_simp
        (go_at_call 97; refine (shNeg_any _ _ _).mono ?_; rintro e20 w20 ⟨rfl, hb⟩; haveI : Bel _ w20 := ⟨hb⟩; clear hb)
        go_wp2_with fail
        refine hK.out _ _ ?hSn1_9 (fun hHeld => ?hRn1_9)
        case hSn1_9 => ((try dsimp only); exact has3)
        clear hK K
        try simp only [Act.put, List.getElem_toArray, List.getElem_cons_zero, List.getElem_cons_succ, List.setIfInBounds_toArray, List.set_cons_zero, List.set_cons_succ]
        refine wpAnyH_take (i := 7) (oi := _) (v := ?vn1_10) rfl (by kernel_rfl) (by kernel_rfl) (by kernel_rfl) (fun _ _ _ h => h) (Or.inl ⟨by rfl, ?hyn1_10⟩) (by assumption) ?hRn1_10
        case hyn1_10 => (intro w hSw; (try dsimp only at hSw); go_simp; (try with_reducible rfl))
        try simp only [Act.put, List.getElem_toArray, List.getElem_cons_zero, List.getElem_cons_succ, List.setIfInBounds_toArray, List.set_cons_zero, List.set_cons_succ]
        refine wpAnyH_ready (rs := [8]) (by kernel_rfl) (by simp) ?_
        refine AllReadyH.cons (o := _) rfl (fun K hK => ?_) AllReadyH.nil
        go_simp
        refine hK.out _ _ ?hSn1_11 (fun hHeld => ?hRn1_11)
        case hSn1_11 => ((try dsimp only); exact has3)
        clear hK K
        try simp only [Act.put, List.getElem_toArray, List.getElem_cons_zero, List.getElem_cons_succ, List.setIfInBounds_toArray, List.set_cons_zero, List.set_cons_succ]
        refine wpAnyH_ready (rs := [9]) (by kernel_rfl) (by simp) ?_
        refine AllReadyH.cons (o := _) rfl (fun K hK => ?_) AllReadyH.nil
        (refine ap_step (v := v) (cs := [.slice A1 e.len d1, .int .i64 (negI n), .int .i64 d]) (by rfl) _ _ _ (by rfl) (by rfl) (by rfl) (by rfl) (by simp [Value.oneCell']) (by omega) ?_; intro gg cap wa _ _ _ _ _)
        refine hK.out _ _ ?hSn1_12 (fun hHeld => ?hRn1_12)
        case hSn1_12 => ((try dsimp only); exact has3)
        clear hK K
        try simp only [Act.put, List.getElem_toArray, List.getElem_cons_zero, List.getElem_cons_succ, List.setIfInBounds_toArray, List.set_cons_zero, List.set_cons_succ]
        refine wpAnyH_take (i := 10) (oi := _) (v := ?vn1_13) rfl (by kernel_rfl) (by kernel_rfl) (by kernel_rfl) (fun _ _ _ h => h) (Or.inl ⟨by rfl, ?hyn1_13⟩) (by assumption) ?hRn1_13
        case hyn1_13 => (intro w hSw; (try dsimp only at hSw); go_simp; (try with_reducible rfl))
        try simp only [Act.put, List.getElem_toArray, List.getElem_cons_zero, List.getElem_cons_succ, List.setIfInBounds_toArray, List.set_cons_zero, List.set_cons_succ]
        refine wpAnyH_ready (rs := [11]) (by kernel_rfl) (by simp) ?_
        refine AllReadyH.cons (o := _) rfl (fun K hK => ?_) AllReadyH.nil
        go_simp
        refine hK.out _ _ ?hSn1_14 (fun hHeld => ?hRn1_14)
        case hSn1_14 => ((try dsimp only); exact has3)
        clear hK K
        try simp only [Act.put, List.getElem_toArray, List.getElem_cons_zero, List.getElem_cons_succ, List.setIfInBounds_toArray, List.set_cons_zero, List.set_cons_succ]
        refine wpAnyH_done (by kernel_rfl) ?_ _
      case' bn1_7 =>
        go_simp
        (go_at_call 97; refine (shNeg_any _ _ _).mono ?_; rintro e20 w20 ⟨rfl, hb⟩; haveI : Bel _ w20 := ⟨hb⟩; clear hb)
        go_wp2_with fail
        refine hK.out _ _ ?hSn1_15 (fun hHeld => ?hRn1_15)
        case hSn1_15 => ((try dsimp only); exact has3)
        clear hK K
        try simp only [Act.put, List.getElem_toArray, List.getElem_cons_zero, List.getElem_cons_succ, List.setIfInBounds_toArray, List.set_cons_zero, List.set_cons_succ]
        refine wpAnyH_take (i := 7) (oi := _) (v := ?vn1_16) rfl (by kernel_rfl) (by kernel_rfl) (by kernel_rfl) (fun _ _ _ h => h) (Or.inl ⟨by rfl, ?hyn1_16⟩) (by assumption) ?hRn1_16
        case hyn1_16 => (intro w hSw; (try dsimp only at hSw); go_simp; (try with_reducible rfl))
        try simp only [Act.put, List.getElem_toArray, List.getElem_cons_zero, List.getElem_cons_succ, List.setIfInBounds_toArray, List.set_cons_zero, List.set_cons_succ]
        refine wpAnyH_ready (rs := [1, 8]) (by kernel_rfl) (by simp) ?_
        refine AllReadyH.cons (o := _) rfl (fun K hK => ?bn1_17) (AllReadyH.cons (o := _) rfl (fun K hK => ?bn1_18) (AllReadyH.nil))
        case' bn1_17 =>
          go_simp
          refine hK.out _ _ ?hSn1_19 (fun hHeld => ?hRn1_19)
          case hSn1_19 => ((try dsimp only); exact has3)
          clear hK K
          try simp only [Act.put, List.getElem_toArray, List.getElem_cons_zero, List.getElem_cons_succ, List.setIfInBounds_toArray, List.set_cons_zero, List.set_cons_succ]
          refine wpAnyH_ready (rs := [8]) (by kernel_rfl) (by simp) ?_
          refine AllReadyH.cons (o := _) rfl (fun K hK => ?_) AllReadyH.nil
          go_simp
          refine hK.out _ _ ?hSn1_20 (fun hHeld => ?hRn1_20)
          case hSn1_20 => ((try dsimp only); exact has3)
          clear hK K
          try simp only [Act.put, List.getElem_toArray, List.getElem_cons_zero, List.getElem_cons_succ, List.setIfInBounds_toArray, List.set_cons_zero, List.set_cons_succ]
          refine wpAnyH_ready (rs := [9]) (by kernel_rfl) (by simp) ?_
          refine AllReadyH.cons (o := _) rfl (fun K hK => ?_) AllReadyH.nil
          (refine ap_step (v := v) (cs := [.slice A1 e.len d1, .int .i64 (negI n), .int .i64 d]) (by rfl) _ _ _ (by rfl) (by rfl) (by rfl) (by rfl) (by simp [Value.oneCell']) (by omega) ?_; intro gg cap wa _ _ _ _ _)
          refine hK.out _ _ ?hSn1_21 (fun hHeld => ?hRn1_21)
          case hSn1_21 => ((try dsimp only); exact has3)
          clear hK K
          try simp only [Act.put, List.getElem_toArray, List.getElem_cons_zero, List.getElem_cons_succ, List.setIfInBounds_toArray, List.set_cons_zero, List.set_cons_succ]
          refine wpAnyH_take (i := 10) (oi := _) (v := ?vn1_22) rfl (by kernel_rfl) (by kernel_rfl) (by kernel_rfl) (fun _ _ _ h => h) (Or.inl ⟨by rfl, ?hyn1_22⟩) (by assumption) ?hRn1_22
          case hyn1_22 => (intro w hSw; (try dsimp only at hSw); go_simp; (try with_reducible rfl))
          try simp only [Act.put, List.getElem_toArray, List.getElem_cons_zero, List.getElem_cons_succ, List.setIfInBounds_toArray, List.set_cons_zero, List.set_cons_succ]
          refine wpAnyH_ready (rs := [11]) (by kernel_rfl) (by simp) ?_
          refine AllReadyH.cons (o := _) rfl (fun K hK => ?_) AllReadyH.nil
          go_simp
          refine hK.out _ _ ?hSn1_23 (fun hHeld => ?hRn1_23)
          case hSn1_23 => ((try dsimp only); exact has3)
          clear hK K
          try simp only [Act.put, List.getElem_toArray, List.getElem_cons_zero, List.getElem_cons_succ, List.setIfInBounds_toArray, List.set_cons_zero, List.set_cons_succ]
          refine wpAnyH_done (by kernel_rfl) ?_ _
        case' bn1_18 =>
          go_simp
          refine hK.out _ _ ?hSn1_24 (fun hHeld => ?hRn1_24)
          case hSn1_24 => ((try dsimp only); exact has3)
          clear hK K
          try simp only [Act.put, List.getElem_toArray, List.getElem_cons_zero, List.getElem_cons_succ, List.setIfInBounds_toArray, List.set_cons_zero, List.set_cons_succ]
          refine wpAnyH_ready (rs := [1]) (by kernel_rfl) (by simp) ?_
          refine AllReadyH.cons (o := _) rfl (fun K hK => ?_) AllReadyH.nil
          go_simp
          refine hK.out _ _ ?hSn1_25 (fun hHeld => ?hRn1_25)
          case hSn1_25 => ((try dsimp only); exact has3)
          clear hK K
          try simp only [Act.put, List.getElem_toArray, List.getElem_cons_zero, List.getElem_cons_succ, List.setIfInBounds_toArray, List.set_cons_zero, List.set_cons_succ]
          refine wpAnyH_ready (rs := [9]) (by kernel_rfl) (by simp) ?_
          refine AllReadyH.cons (o := _) rfl (fun K hK => ?_) AllReadyH.nil
          (refine ap_step (v := v) (cs := [.slice A1 e.len d1, .int .i64 (negI n), .int .i64 d]) (by rfl) _ _ _ (by rfl) (by rfl) (by rfl) (by rfl) (by simp [Value.oneCell']) (by omega) ?_; intro gg cap wa _ _ _ _ _)
          refine hK.out _ _ ?hSn1_26 (fun hHeld => ?hRn1_26)
          case hSn1_26 => ((try dsimp only); exact has3)
          clear hK K
          try simp only [Act.put, List.getElem_toArray, List.getElem_cons_zero, List.getElem_cons_succ, List.setIfInBounds_toArray, List.set_cons_zero, List.set_cons_succ]
          refine wpAnyH_take (i := 10) (oi := _) (v := ?vn1_27) rfl (by kernel_rfl) (by kernel_rfl) (by kernel_rfl) (fun _ _ _ h => h) (Or.inl ⟨by rfl, ?hyn1_27⟩) (by assumption) ?hRn1_27
          case hyn1_27 => (intro w hSw; (try dsimp only at hSw); go_simp; (try with_reducible rfl))
          try simp only [Act.put, List.getElem_toArray, List.getElem_cons_zero, List.getElem_cons_succ, List.setIfInBounds_toArray, List.set_cons_zero, List.set_cons_succ]
          refine wpAnyH_ready (rs := [11]) (by kernel_rfl) (by simp) ?_
          refine AllReadyH.cons (o := _) rfl (fun K hK => ?_) AllReadyH.nil
          go_simp
          refine hK.out _ _ ?hSn1_28 (fun hHeld => ?hRn1_28)
          case hSn1_28 => ((try dsimp only); exact has3)
          clear hK K
          try simp only [Act.put, List.getElem_toArray, List.getElem_cons_zero, List.getElem_cons_succ, List.setIfInBounds_toArray, List.set_cons_zero, List.set_cons_succ]
          refine wpAnyH_done (by kernel_rfl) ?_ _
      all_goals
        go_wp2
        exact ⟨⟨i + 1, _, _, by go_num, by omega, inferInstance, by rw [HT.out]; exact Own.snoc inferInstance, by rw [HT.out]; exact TR.snoc (tr _ A1) (negI_I64 n) id_, kp _ _ _, inferInstance⟩, by simp [intOf]; omega⟩
    · obtain rfl : i = x.len := by omega
      obtain ⟨Av, cv, rfl⟩ := own_slice (inferInstance : Own wr v v3 _ 3 _ xs).h
      go_wp2
      refine bodyPost_ret (v := .agg #[.slice Av (negP (x.take x.len)).len cv]) (by simp [results, Try.results43, go_sem]) rfl ?_
      haveI : XDis X (.slice Av (negP (x.take x.len)).len cv) := xdis_low3 hX
      have hs := sl_own X (World.setCell wr ⟨g2, 0, none⟩ (.slice Av (negP (x.take x.len)).len cv)) Av cv (negP (x.take x.len))
      have hb := ext w (World.setCell wr ⟨g2, 0, none⟩ (.slice Av (negP (x.take x.len)).len cv))
      rw [x.take_len] at hs hb ⊢
      exact ⟨Av, cv, rfl, hs, hb⟩

theorem sGood_one {a b : Int} (h : fracOk a b = true) : sGood (termP .nil a b) = true := by
  unfold termP
  split
  · exact sGood_nil
  · rename_i ha
    simp [sGood, sOk, formT, Sur.nodes, prevOk, h, ha]
set_option maxHeartbeats 1600000 in
set_option maxRecDepth 100000 in
theorem sAddSurreals_any (x y : Sur) (X Y : Nat → Prop) (A A' : Option Addr) (c c' : Nat) (w : World) (sx : SSl X w x A c) (sy : SSl Y w y A' c') :
    Calls Try.prog 10 #[.agg #[.slice A x.len c], .agg #[.slice A' y.len c']] w (RetFreshB w (addS x y)) := by
  by_cases hAA : A = A' ∧ False
  · exact hAA.2.elim
  haveI ix := Tr.arg sx
  haveI iy := Tr.arg sy
  cases gx : sGood x
  · have H := Lib.hid (show addS x y = none by simp [addS, gx])
    clear iy
    go_enter Try.func10, Try.ntmps10
    go_wp2_with (first | ((with_reducible refine at_dst (N := 2) rfl ?_); refine ev_box (cs := #[.slice A x.len c]) (t := 26) rfl ?hr2 ?_; (case hr2 => first | (go_simp; done) | (go_simp; rfl)); intro g2 v2 _ _ _ _) | ((with_reducible refine at_dst (N := 3) rfl ?_); refine ev_box (cs := #[.slice A' y.len c']) (t := 26) rfl ?hr3 ?_; (case hr3 => first | (go_simp; done) | (go_simp; rfl)); intro g3 v3 _ _ _ _) | ((with_reducible refine at_dst (N := 4) rfl ?_); refine ev_box (cs := #[.slice none 0 0]) (t := 26) rfl ?hr4 ?_; (case hr4 => first | (go_simp; done) | (go_simp; rfl)); intro g4 v4 _ _ _ _) | ((fail_if_success (have _q := w7)); go_at_call 41; refine (suGood_any x _ A _ _ (tr _ A)).mono ?_; rintro e7 w7 ⟨he, hb⟩; rw [gx] at he; subst he; haveI : Bel _ w7 := ⟨hb⟩; clear hb))
    refine bodyPost_ret (v := .tuple #[.agg #[.slice none 0 0], .bool false]) (by simp [results, Try.results10, go_sem]) rfl ?_
    rw [H.out]
    exact ⟨none, 0, rfl, SFresh.nil _ _, ext _ _⟩
  · cases gy : sGood y
    · have H := Lib.hid (show addS x y = none by simp [addS, gx, gy])
      go_enter Try.func10, Try.ntmps10
      go_wp2_with (first | ((with_reducible refine at_dst (N := 2) rfl ?_); refine ev_box (cs := #[.slice A x.len c]) (t := 26) rfl ?hr2 ?_; (case hr2 => first | (go_simp; done) | (go_simp; rfl)); intro g2 v2 _ _ _ _) | ((with_reducible refine at_dst (N := 3) rfl ?_); refine ev_box (cs := #[.slice A' y.len c']) (t := 26) rfl ?hr3 ?_; (case hr3 => first | (go_simp; done) | (go_simp; rfl)); intro g3 v3 _ _ _ _) | ((with_reducible refine at_dst (N := 4) rfl ?_); refine ev_box (cs := #[.slice none 0 0]) (t := 26) rfl ?hr4 ?_; (case hr4 => first | (go_simp; done) | (go_simp; rfl)); intro g4 v4 _ _ _ _) | ((fail_if_success (have _q := w7)); go_at_call 41; refine (suGood_any x _ A _ _ (tr _ A)).mono ?_; rintro e7 w7 ⟨he, hb⟩; rw [gx] at he; subst he; haveI : Bel _ w7 := ⟨hb⟩; clear hb) | ((fail_if_success (have _q := w11)); go_at_call 41; refine (suGood_any y _ A' _ _ (tr _ A')).mono ?_; rintro e11 w11 ⟨he, hb⟩; rw [gy] at he; subst he; haveI : Bel _ w11 := ⟨hb⟩; clear hb))
      refine bodyPost_ret (v := .tuple #[.agg #[.slice none 0 0], .bool false]) (by simp [results, Try.results10, go_sem]) rfl ?_
      rw [H.out]
      exact ⟨none, 0, rfl, SFresh.nil _ _, ext _ _⟩
    · have HE := Lib.hid (sumS_addS gx gy)
      have HLX := Lib.hid (sGood_len gx)
      have HLY := Lib.hid (sGood_len gy)
      have HLL : Hid (x.len + y.len ≤ 1099511627776) := by have := HLX.out.1; have := HLY.out.1; show _ ≤ _; omega
      go_enter Try.func10, Try.ntmps10
      go_wp2_with (first | ((with_reducible refine at_dst (N := 2) rfl ?_); refine ev_box (cs := #[.slice A x.len c]) (t := 26) rfl ?hr2 ?_; (case hr2 => first | (go_simp; done) | (go_simp; rfl)); intro g2 v2 _ _ _ _) | ((with_reducible refine at_dst (N := 3) rfl ?_); refine ev_box (cs := #[.slice A' y.len c']) (t := 26) rfl ?hr3 ?_; (case hr3 => first | (go_simp; done) | (go_simp; rfl)); intro g3 v3 _ _ _ _) | ((with_reducible refine at_dst (N := 4) rfl ?_); refine ev_box (cs := #[.slice none 0 0]) (t := 26) rfl ?hr4 ?_; (case hr4 => first | (go_simp; done) | (go_simp; rfl)); intro g4 v4 _ _ _ _) | ((fail_if_success (have _q := w7)); go_at_call 41; refine (suGood_any x _ A _ _ (tr _ A)).mono ?_; rintro e7 w7 ⟨he, hb⟩; rw [gx] at he; subst he; haveI : Bel _ w7 := ⟨hb⟩; clear hb) | ((fail_if_success (have _q := w11)); go_at_call 41; refine (suGood_any y _ A' _ _ (tr _ A')).mono ?_; rintro e11 w11 ⟨he, hb⟩; rw [gy] at he; subst he; haveI : Bel _ w11 := ⟨hb⟩; clear hb) | (go_at_call 48; refine (suSum_any x y _ _ A A' _ _ _ (tr _ A) (tr _ A') HLX.out.2.2 HLY.out.2.2 HLL.out).mono ?_; rintro e17 w17 ⟨A17, c17, he, hf, hb⟩; rw [HE.out] at he hf; subst he; haveI : Bel _ w17 := ⟨hb⟩; haveI := Fs.of hf; clear hf hb))
      refine bodyPost_ret (v := .tuple #[.agg #[.slice A17 ((addS x y).getD .nil).len c17], .bool (addS x y).isSome]) (by simp [results, Try.results10, go_sem]) rfl ?_
      exact ⟨A17, c17, rfl, fs _ A17 w, ext _ _⟩

set_option maxHeartbeats 1600000 in
set_option maxRecDepth 100000 in
theorem sScaleSurreal_any (x : Sur) (a b : Int) (X : Nat → Prop) (A : Option Addr) (c : Nat) (w : World) (sx : SSl X w x A c) :
    Calls Try.prog 16 #[.agg #[.slice A x.len c], .agg #[.int .i64 a, .int .i64 b]] w (RetFreshB w (scaleS x a b)) := by
  haveI ix := Tr.arg sx
  cases gx : sGood x
  · have H := Lib.hid (show scaleS x a b = none by simp [scaleS, gx])
    go_enter Try.func16, Try.ntmps16
    go_wp2_with (first | ((with_reducible refine at_dst (N := 2) rfl ?_); refine ev_box (cs := #[.slice A x.len c]) (t := 26) rfl ?hr2 ?_; (case hr2 => first | (go_simp; done) | (go_simp; rfl)); intro g2 v2 _ _ _ _) | ((with_reducible refine at_dst (N := 3) rfl ?_); refine ev_box (cs := #[.int .i64 a, .int .i64 b]) (t := 34) rfl ?hr3 ?_; (case hr3 => first | (go_simp; done) | (go_simp; rfl)); intro g3 v3 _ _ _ _) | ((with_reducible refine at_dst (N := 4) rfl ?_); refine ev_box (cs := #[.slice none 0 0]) (t := 26) rfl ?hr4 ?_; (case hr4 => first | (go_simp; done) | (go_simp; rfl)); intro g4 v4 _ _ _ _) | ((fail_if_success (have _q := w7)); go_at_call 41; refine (suGood_any x _ A _ _ (tr _ A)).mono ?_; rintro e7 w7 ⟨he, hb⟩; rw [gx] at he; subst he; haveI : Bel _ w7 := ⟨hb⟩; clear hb))
    refine bodyPost_ret (v := .tuple #[.agg #[.slice none 0 0], .bool false]) (by simp [results, Try.results16, go_sem]) rfl ?_
    rw [H.out]
    exact ⟨none, 0, rfl, SFresh.nil _ _, ext _ _⟩
  · cases gf : fracOk a b
    · have H := Lib.hid (show scaleS x a b = none by simp [scaleS, gx, gf])
      go_enter Try.func16, Try.ntmps16
      go_wp2_with (first | ((with_reducible refine at_dst (N := 2) rfl ?_); refine ev_box (cs := #[.slice A x.len c]) (t := 26) rfl ?hr2 ?_; (case hr2 => first | (go_simp; done) | (go_simp; rfl)); intro g2 v2 _ _ _ _) | ((with_reducible refine at_dst (N := 3) rfl ?_); refine ev_box (cs := #[.int .i64 a, .int .i64 b]) (t := 34) rfl ?hr3 ?_; (case hr3 => first | (go_simp; done) | (go_simp; rfl)); intro g3 v3 _ _ _ _) | ((with_reducible refine at_dst (N := 4) rfl ?_); refine ev_box (cs := #[.slice none 0 0]) (t := 26) rfl ?hr4 ?_; (case hr4 => first | (go_simp; done) | (go_simp; rfl)); intro g4 v4 _ _ _ _) | ((fail_if_success (have _q := w7)); go_at_call 41; refine (suGood_any x _ A _ _ (tr _ A)).mono ?_; rintro e7 w7 ⟨he, hb⟩; rw [gx] at he; subst he; haveI : Bel _ w7 := ⟨hb⟩; clear hb) | (go_at_call 54; refine (shGood_any _ _ _).mono ?_; rintro e11 w11 ⟨he, hb⟩; rw [gf] at he; subst he; haveI : Bel _ w11 := ⟨hb⟩; clear hb))
      refine bodyPost_ret (v := .tuple #[.agg #[.slice none 0 0], .bool false]) (by simp [results, Try.results16, go_sem]) rfl ?_
      rw [H.out]
      exact ⟨none, 0, rfl, SFresh.nil _ _, ext _ _⟩
    · have HE := Lib.hid (prodS_scale gx gf)
      have HGX := Lib.hid gx
      have HGF := Lib.hid gf
      go_enter Try.func16, Try.ntmps16
      go_wp2_with (first | ((with_reducible refine at_dst (N := 2) rfl ?_); refine ev_box (cs := #[.slice A x.len c]) (t := 26) rfl ?hr2 ?_; (case hr2 => first | (go_simp; done) | (go_simp; rfl)); intro g2 v2 _ _ _ _) | ((with_reducible refine at_dst (N := 3) rfl ?_); refine ev_box (cs := #[.int .i64 a, .int .i64 b]) (t := 34) rfl ?hr3 ?_; (case hr3 => first | (go_simp; done) | (go_simp; rfl)); intro g3 v3 _ _ _ _) | ((with_reducible refine at_dst (N := 4) rfl ?_); refine ev_box (cs := #[.slice none 0 0]) (t := 26) rfl ?hr4 ?_; (case hr4 => first | (go_simp; done) | (go_simp; rfl)); intro g4 v4 _ _ _ _) | ((fail_if_success (have _q := w7)); go_at_call 41; refine (suGood_any x _ A _ _ (tr _ A)).mono ?_; rintro e7 w7 ⟨he, hb⟩; rw [gx] at he; subst he; haveI : Bel _ w7 := ⟨hb⟩; clear hb) | (go_at_call 54; refine (shGood_any _ _ _).mono ?_; rintro e11 w11 ⟨he, hb⟩; rw [gf] at he; subst he; haveI : Bel _ w11 := ⟨hb⟩; clear hb))
      refine wp_region_held_drew (S := (fun w' => w'.cell? ⟨g2, 0, none⟩ = some (.slice A x.len c) ∧ w'.cell? ⟨g3, 0, none⟩ = some (.int .i64 a) ∧ w'.cell? ⟨g3, 1, none⟩ = some (.int .i64 b))) (by kernel_rfl) ?hSn2_ (fun hHeld => ?hRn2_)
      case hSn2_ => (exact ⟨has1, has2.1, has2.2⟩)
      refine wpAnyH_take (i := 0) (oi := _) (v := ?vn2_1) rfl (by kernel_rfl) (by kernel_rfl) (by kernel_rfl) (fun _ _ _ h => h) (Or.inl ⟨by rfl, ?hyn2_1⟩) (by assumption) ?hRn2_1
      case hyn2_1 => (intro w hSw; (try dsimp only at hSw); go_simp; (try with_reducible rfl))
      try simp only [Act.put, List.getElem_toArray, List.getElem_cons_zero, List.getElem_cons_succ, List.setIfInBounds_toArray, List.set_cons_zero, List.set_cons_succ]
      refine wpAnyH_take (i := 1) (oi := _) (v := ?vn2_2) rfl (by kernel_rfl) (by kernel_rfl) (by kernel_rfl) (fun _ _ _ h => h) (Or.inl ⟨by rfl, ?hyn2_2⟩) (by assumption) ?hRn2_2
      case hyn2_2 => (intro w hSw; (try dsimp only at hSw); go_simp; (try with_reducible rfl))
      try simp only [Act.put, List.getElem_toArray, List.getElem_cons_zero, List.getElem_cons_succ, List.setIfInBounds_toArray, List.set_cons_zero, List.set_cons_succ]
      refine wpAnyH_ready (rs := [2]) (by kernel_rfl) (by simp) ?_
      refine AllReadyH.cons (o := _) rfl (fun K hK => ?_) AllReadyH.nil
      go_simp
      ((go_at_call 56; refine (suReal_any a b (XL _) _ (fun k hk => hk) (fracOk_I64 HGF.out).1 (fracOk_I64 HGF.out).2).mono ?_; rintro e17 w17 ⟨A17, c17, rfl, hs, hb⟩; haveI : Bel _ w17 := ⟨hb⟩; haveI := Tr.arg hs; clear hs hb))
      go_wp2_with fail
      refine hK.out _ _ ?hSn2_3 (fun hHeld => ?hRn2_3)
      case hSn2_3 => ((try dsimp only); exact ⟨has1, has2.1, has2.2⟩)
      clear hK K
      try simp only [Act.put, List.getElem_toArray, List.getElem_cons_zero, List.getElem_cons_succ, List.setIfInBounds_toArray, List.set_cons_zero, List.set_cons_succ]
      refine wpAnyH_ready (rs := [3]) (by kernel_rfl) (by simp) ?_
      refine AllReadyH.cons (o := _) rfl (fun K hK => ?_) AllReadyH.nil
      go_simp
      ((go_at_call 55; refine (suProduct_any x (termP .nil a b) _ _ A A17 _ _ _ (tr _ A) (tr _ A17) HGX.out (sGood_one HGF.out)).mono ?_; rintro e18 w18 ⟨A18, c18, he, hf, hb⟩; rw [HE.out] at he hf; subst he; haveI : Bel _ w18 := ⟨hb⟩; haveI := Fs.of hf; clear hf hb))
      go_wp2_with fail
      refine hK.out _ _ ?hSn2_4 (fun hHeld => ?hRn2_4)
      case hSn2_4 => ((try dsimp only); exact ⟨has1, has2.1, has2.2⟩)
      clear hK K
      try simp only [Act.put, List.getElem_toArray, List.getElem_cons_zero, List.getElem_cons_succ, List.setIfInBounds_toArray, List.set_cons_zero, List.set_cons_succ]
      refine wpAnyH_take (i := 4) (oi := _) (v := ?vn2_5) rfl (by kernel_rfl) (by kernel_rfl) (by kernel_rfl) (fun _ _ _ h => h) (Or.inl ⟨by rfl, ?hyn2_5⟩) (by assumption) ?hRn2_5
      case hyn2_5 => (intro w hSw; (try dsimp only at hSw); go_simp; (try with_reducible rfl))
      try simp only [Act.put, List.getElem_toArray, List.getElem_cons_zero, List.getElem_cons_succ, List.setIfInBounds_toArray, List.set_cons_zero, List.set_cons_succ]
      refine wpAnyH_take (i := 5) (oi := _) (v := ?vn2_6) rfl (by kernel_rfl) (by kernel_rfl) (by kernel_rfl) (fun _ _ _ h => h) (Or.inl ⟨by rfl, ?hyn2_6⟩) (by assumption) ?hRn2_6
      case hyn2_6 => (intro w hSw; (try dsimp only at hSw); go_simp; (try with_reducible rfl))
      try simp only [Act.put, List.getElem_toArray, List.getElem_cons_zero, List.getElem_cons_succ, List.setIfInBounds_toArray, List.set_cons_zero, List.set_cons_succ]
      refine wpAnyH_ready (rs := [6]) (by kernel_rfl) (by simp) ?_
      refine AllReadyH.cons (o := _) rfl (fun K hK => ?_) AllReadyH.nil
      go_simp
      refine hK.out _ _ ?hSn2_7 (fun hHeld => ?hRn2_7)
      case hSn2_7 => ((try dsimp only); exact ⟨has1, has2.1, has2.2⟩)
      clear hK K
      try simp only [Act.put, List.getElem_toArray, List.getElem_cons_zero, List.getElem_cons_succ, List.setIfInBounds_toArray, List.set_cons_zero, List.set_cons_succ]
      refine wpAnyH_take (i := 7) (oi := _) (v := ?vn2_8) rfl (by kernel_rfl) (by kernel_rfl) (by kernel_rfl) (fun _ _ _ h => h) (Or.inl ⟨by rfl, ?hyn2_8⟩) (by assumption) ?hRn2_8
      case hyn2_8 => (intro w hSw; (try dsimp only at hSw); go_simp; (try with_reducible rfl))
      try simp only [Act.put, List.getElem_toArray, List.getElem_cons_zero, List.getElem_cons_succ, List.setIfInBounds_toArray, List.set_cons_zero, List.set_cons_succ]
      refine wpAnyH_done (by kernel_rfl) ?_ _
      go_wp2
      refine bodyPost_ret (v := .tuple #[.agg #[.slice A18 ((scaleS x a b).getD .nil).len c18], .bool (scaleS x a b).isSome]) (by simp [results, Try.results16, go_sem]) rfl ?_
      exact ⟨A18, c18, rfl, fs _ A18 w, ext _ _⟩
end Go.Proofs.Ytdcnmaklnciofaa
