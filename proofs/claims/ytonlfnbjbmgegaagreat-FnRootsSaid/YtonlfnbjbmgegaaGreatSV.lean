/-
  The value of a word of signs: the walk among the numbers.
  Dyadic fractions: plain.
  The value of a word of signs.
  Draws of fractions.
  Draws of coefficients.
  Draws of surreal numbers.
-/
import Derived.Test.YtonlfnbjbmgegaaGreatBG
import Derived.Test.YtonlfnbjbmgegaaGreatBF
import Derived.Test.YtonlfnbjbmgegaaGreatSPut
import Derived.Deep.CutBlock
namespace Go.Proofs.YtonlfnbjbmgegaaGreat
open Go.RowKit
open List renaming getElem_toArray → zp1, getElem_cons_zero → zp2, getElem_cons_succ → zp3, setIfInBounds_toArray → zp4, set_cons_zero → zp5, set_cons_succ → zp6
set_option linter.unusedSimpArgs false
set_option linter.unusedVariables false

/-- bounds below which sums and products of fractions fit -/
def WB (n d : Int) : Prop := -1073741824 ≤ n ∧ n ≤ 1073741824 ∧ 1 ≤ d ∧ d ≤ 1073741824
theorem mul_bd30 {a b : Int} (ha : -1073741824 ≤ a ∧ a ≤ 1073741824) (hb : -1073741824 ≤ b ∧ b ≤ 1073741824) : -1152921504606846976 ≤ a * b ∧ a * b ≤ 1152921504606846976 := by
  have h : (a * b).natAbs ≤ 1073741824 * 1073741824 := by
    rw [Int.natAbs_mul]
    exact Nat.mul_le_mul (by omega) (by omega)
  omega
theorem FOk.wb {n d : Int} (h : FOk n d) : WB n d := by have := fracOk_iff.1 h; unfold WB; omega

set_option maxHeartbeats 400000 in
theorem shAdd_wide (n d n' d' : Int) (h : WB n d) (h' : WB n' d') (w : World) :
    Calls Tryz.prog 114 #[.agg #[.int .i64 n, .int .i64 d], .agg #[.int .i64 n', .int .i64 d']] w fun e w' => e = .returned (.agg #[.int .i64 (adN n d n' d'), .int .i64 (adD n d n' d')]) ∧ Below w.heap.size w w' := by
  unfold WB at h h'
  have hne := mul_ne0 h.2.2.1 h'.2.2.1
  have bnd1 := mul_bd30 (a := n) (b := d') (by omega) (by omega)
  have wnd1 : IntKind.i64.wrap (n * d') = n * d' := IntWalk.i64_in _ (by omega)
  have bn1d := mul_bd30 (a := n') (b := d) (by omega) (by omega)
  have wn1d : IntKind.i64.wrap (n' * d) = n' * d := IntWalk.i64_in _ (by omega)
  have bdd1 := mul_bd30 (a := d) (b := d') (by omega) (by omega)
  have wdd1 : IntKind.i64.wrap (d * d') = d * d' := IntWalk.i64_in _ (by omega)
  have s1 : IntKind.i64.wrap (n * d' + n' * d) = n * d' + n' * d := IntWalk.i64_in _ (by omega)
  have HNE := Lib.hid hne
  clear hne
  have k0 := (((Blk.new w 68 #[.int .i64 n, .int .i64 d]).alloc (.cells #[.int .i64 n', .int .i64 d'] 68)).alloc (.cells #[.int .i64 0, .int .i64 0] 68))
  have k1 := ((Blk.new' (g := w.heap.size + 1) (w.alloc (.cells #[.int .i64 n, .int .i64 d] 68)) 68 #[.int .i64 n', .int .i64 d'] (by simp)).alloc (.cells #[.int .i64 0, .int .i64 0] 68))
  have k2 := (Blk.new' (g := w.heap.size + 1 + 1) ((w.alloc (.cells #[.int .i64 n, .int .i64 d] 68)).alloc (.cells #[.int .i64 n', .int .i64 d'] 68)) 68 #[.int .i64 0, .int .i64 0] (by simp))
  have hB0 : Below w.heap.size w (((w.alloc (.cells #[.int .i64 n, .int .i64 d] 68)).alloc (.cells #[.int .i64 n', .int .i64 d'] 68)).alloc (.cells #[.int .i64 0, .int .i64 0] 68)) := by go_grown
  go_enter Tryz.func114, Tryz.ntmps114
  go_wp2_with fail
  refine (shMake_any _ _ (by omega) (by omega) HNE.out _).mono ?_
  rintro e1 w1 ⟨rfl, hb1⟩
  have hB1 := Below.call hB0 (by go_size) hb1
  obtain ⟨q0, q1, _, _⟩ := (k2.call hb1).c2
  go_wp2
  refine bodyPost_ret (v := .agg #[.int .i64 (adN n d n' d'), .int .i64 (adD n d n' d')]) (by simp [results, Tryz.results114, go_sem, q0, q1, adN, adD]) rfl ?_
  exact ⟨rfl, by go_grown⟩

set_option maxHeartbeats 400000 in
theorem shMul_wide (n d n' d' : Int) (h : WB n d) (h' : WB n' d') (w : World) :
    Calls Tryz.prog 116 #[.agg #[.int .i64 n, .int .i64 d], .agg #[.int .i64 n', .int .i64 d']] w fun e w' => e = .returned (.agg #[.int .i64 (muN n d n' d'), .int .i64 (muD n d n' d')]) ∧ Below w.heap.size w w' := by
  unfold WB at h h'
  have hne := mul_ne0 h.2.2.1 h'.2.2.1
  have bnd1 := mul_bd30 (a := n) (b := n') (by omega) (by omega)
  have wnd1 : IntKind.i64.wrap (n * n') = n * n' := IntWalk.i64_in _ (by omega)
  have bdd1 := mul_bd30 (a := d) (b := d') (by omega) (by omega)
  have wdd1 : IntKind.i64.wrap (d * d') = d * d' := IntWalk.i64_in _ (by omega)
  have HNE := Lib.hid hne
  clear hne
  have k0 := (((Blk.new w 68 #[.int .i64 n, .int .i64 d]).alloc (.cells #[.int .i64 n', .int .i64 d'] 68)).alloc (.cells #[.int .i64 0, .int .i64 0] 68))
  have k1 := ((Blk.new' (g := w.heap.size + 1) (w.alloc (.cells #[.int .i64 n, .int .i64 d] 68)) 68 #[.int .i64 n', .int .i64 d'] (by simp)).alloc (.cells #[.int .i64 0, .int .i64 0] 68))
  have k2 := (Blk.new' (g := w.heap.size + 1 + 1) ((w.alloc (.cells #[.int .i64 n, .int .i64 d] 68)).alloc (.cells #[.int .i64 n', .int .i64 d'] 68)) 68 #[.int .i64 0, .int .i64 0] (by simp))
  have hB0 : Below w.heap.size w (((w.alloc (.cells #[.int .i64 n, .int .i64 d] 68)).alloc (.cells #[.int .i64 n', .int .i64 d'] 68)).alloc (.cells #[.int .i64 0, .int .i64 0] 68)) := by go_grown
  go_enter Tryz.func116, Tryz.ntmps116
  go_wp2_with fail
  refine (shMake_any _ _ (by omega) (by omega) HNE.out _).mono ?_
  rintro e1 w1 ⟨rfl, hb1⟩
  have hB1 := Below.call hB0 (by go_size) hb1
  obtain ⟨q0, q1, _, _⟩ := (k2.call hb1).c2
  go_wp2
  refine bodyPost_ret (v := .agg #[.int .i64 (muN n d n' d'), .int .i64 (muD n d n' d')]) (by simp [results, Tryz.results116, go_sem, q0, q1, muN, muD]) rfl ?_
  exact ⟨rfl, by go_grown⟩

/-- a walk -/
structure Wk where
  (an ad ln ld hn hd : Int)
  (bl bh : Bool)
def Wk.cells (s : Wk) : Array Value := #[.int .i64 s.an, .int .i64 s.ad, .int .i64 s.ln, .int .i64 s.ld, .int .i64 s.hn, .int .i64 s.hd, .bool s.bl, .bool s.bh]
def turnP (p : Bool) (s : Wk) : Wk := if p = true then { s with ln := s.an, ld := s.ad, bl := true } else { s with hn := s.an, hd := s.ad, bh := true }
def goP (p : Bool) (s : Wk) : Wk :=
  if s.bl = true ∧ s.bh = true then { s with an := muN (adN s.ln s.ld s.hn s.hd) (adD s.ln s.ld s.hn s.hd) 1 2, ad := muD (adN s.ln s.ld s.hn s.hd) (adD s.ln s.ld s.hn s.hd) 1 2 }
  else if p = true then { s with an := adN s.an s.ad 1 1, ad := adD s.an s.ad 1 1 }
  else { s with an := adN s.an s.ad (-1) 1, ad := adD s.an s.ad (-1) 1 }
def stepP (p : Bool) (s : Wk) : Wk := goP p (turnP p s)

attribute [local go_sem high] has_cell has_frozen
instance (priority := low) Has.anyset {W : World} {g i : Nat} {u : Value} {cs : Array Value} {t : TypeId} [b : Has W g (.cells cs t (0, 0))] : Has (W.setCell ⟨g, i, none⟩ u) g (.cells (cs.setIfInBounds i u) t (0, 0)) := ⟨Has.put⟩
theorem wb1 : WB 1 1 := by simp [WB]
theorem wbm : WB (-1) 1 := by simp [WB]
set_option maxHeartbeats 1600000 in
set_option maxRecDepth 100000 in
theorem step_any (p : Bool) (an ad ln ld hn hd : Int) (bl bh : Bool) (w : World) (ha : WB an ad) (hl : bl = true → WB ln ld) (hh : bh = true → WB hn hd)
    (hm1 : p = true → bh = true → WB (adN an ad hn hd) (adD an ad hn hd)) (hm2 : p = false → bl = true → WB (adN ln ld an ad) (adD ln ld an ad)) :
    Calls Tryz.prog 141 #[.agg (Wk.cells ⟨an, ad, ln, ld, hn, hd, bl, bh⟩), .bool p] w fun e w' => e = .returned (.agg (stepP p ⟨an, ad, ln, ld, hn, hd, bl, bh⟩).cells) ∧ Below w.heap.size w w' := by
  unfold Wk.cells
  dsimp only
  cases p
  · clear hm1
    cases bl
    · go_enter Tryz.func141, Tryz.ntmps141
      go_wp2_with (first | ((with_reducible refine at_dst (N := 2) rfl ?_); refine ev_box (cs := #[.int .i64 an, .int .i64 ad, .int .i64 ln, .int .i64 ld, .int .i64 hn, .int .i64 hd, .bool false, .bool bh]) (t := 137) rfl ?hr2 ?_; (case hr2 => first | (go_simp; done) | (go_simp; rfl)); intro g2 v2 _ _ _ _) | ((with_reducible refine at_dst (N := 4) rfl ?_); refine ev_box (cs := #[.int .i64 0, .int .i64 0, .int .i64 0, .int .i64 0, .int .i64 0, .int .i64 0, .bool false, .bool false]) (t := 137) rfl ?hr4 ?_; (case hr4 => first | (go_simp; done) | (go_simp; rfl)); intro g4 v4 _ _ _ _) | ((with_reducible refine at_dst (N := 5) rfl ?_); refine ev_box (cs := #[.int .i64 0, .int .i64 0]) (t := 68) rfl ?hr5 ?_; (case hr5 => first | (go_simp; done) | (go_simp; rfl)); intro g5 v5 _ _ _ _))
      refine wp_region_held_drew (S := (fun _ => True)) (by kernel_rfl) ?hSn1_ (fun hHeld => ?hRn1_)
      case hSn1_ => (all_goals exact trivial)
      refine wpAnyH_take (i := 0) (v := ?vn1_1) rfl (by kernel_rfl) (by kernel_rfl) (by kernel_rfl) (fun _ _ _ h => h) (Or.inl ⟨by rfl, ?hyn1_1⟩) (by assumption) ?hRn1_1
      case hyn1_1 => (intro w hSw; (try dsimp only at hSw); go_simp; (try with_reducible rfl))
      try simp only [Act.put, zp1, zp2, zp3, zp4, zp5, zp6]
      refine wpAnyH_ready (rs := [1, 2]) (by kernel_rfl) (by simp) ?_
      refine AllReadyH.cons rfl (fun K hK => ?bn1_2) (AllReadyH.cons rfl (fun K hK => ?bn1_3) (AllReadyH.nil))
      case' bn1_2 =>
        go_simp
        refine hK.out _ _ ?hSn1_4 (fun hHeld => ?hRn1_4)
        case hSn1_4 => ((try dsimp only); all_goals exact trivial)
        clear hK K
        try simp only [Act.put, zp1, zp2, zp3, zp4, zp5, zp6]
        refine wpAnyH_ready (rs := [2]) (by kernel_rfl) (by simp) ?_
        refine AllReadyH.cons rfl (fun K hK => ?_) AllReadyH.nil
        go_simp
        ((go_at_call 78; refine (shInt_any _ _).mono ?_; rintro e w40 ⟨rfl, hb⟩; haveI : Bel _ w40 := ⟨hb⟩; clear hb))
        go_wp2_with fail
        refine hK.out _ _ ?hSn1_5 (fun hHeld => ?hRn1_5)
        case hSn1_5 => ((try dsimp only); all_goals exact trivial)
        clear hK K
        try simp only [Act.put, zp1, zp2, zp3, zp4, zp5, zp6]
        refine wpAnyH_ready (rs := [3]) (by kernel_rfl) (by simp) ?_
        refine AllReadyH.cons rfl (fun K hK => ?_) AllReadyH.nil
        go_simp
        ((go_at_call 114; refine (shAdd_wide _ _ _ _ ha wbm _).mono ?_; rintro e w41 ⟨rfl, hb⟩; haveI : Bel _ w41 := ⟨hb⟩; clear hb))
        go_wp2_with fail
        refine hK.out _ _ ?hSn1_6 (fun hHeld => ?hRn1_6)
        case hSn1_6 => ((try dsimp only); all_goals exact trivial)
        clear hK K
        try simp only [Act.put, zp1, zp2, zp3, zp4, zp5, zp6]
        refine wpAnyH_take (i := 4) (v := ?vn1_7) rfl (by kernel_rfl) (by kernel_rfl) (by kernel_rfl) (fun _ _ _ h => h) (Or.inl ⟨by rfl, ?hyn1_7⟩) (by assumption) ?hRn1_7
        case hyn1_7 => (intro w hSw; (try dsimp only at hSw); go_simp; (try with_reducible rfl))
        try simp only [Act.put, zp1, zp2, zp3, zp4, zp5, zp6]
        refine wpAnyH_ready (rs := [5]) (by kernel_rfl) (by simp) ?_
        refine AllReadyH.cons rfl (fun K hK => ?_) AllReadyH.nil
        go_simp
        refine hK.out _ _ ?hSn1_8 (fun hHeld => ?hRn1_8)
        case hSn1_8 => ((try dsimp only); all_goals exact trivial)
        clear hK K
        try simp only [Act.put, zp1, zp2, zp3, zp4, zp5, zp6]
        refine wpAnyH_done (by kernel_rfl) ?_ _
      case' bn1_3 =>
        go_simp
        ((go_at_call 78; refine (shInt_any _ _).mono ?_; rintro e w40 ⟨rfl, hb⟩; haveI : Bel _ w40 := ⟨hb⟩; clear hb))
        go_wp2_with fail
        refine hK.out _ _ ?hSn1_9 (fun hHeld => ?hRn1_9)
        case hSn1_9 => ((try dsimp only); all_goals exact trivial)
        clear hK K
        try simp only [Act.put, zp1, zp2, zp3, zp4, zp5, zp6]
        refine wpAnyH_ready (rs := [1]) (by kernel_rfl) (by simp) ?_
        refine AllReadyH.cons rfl (fun K hK => ?_) AllReadyH.nil
        go_simp
        refine hK.out _ _ ?hSn1_10 (fun hHeld => ?hRn1_10)
        case hSn1_10 => ((try dsimp only); all_goals exact trivial)
        clear hK K
        try simp only [Act.put, zp1, zp2, zp3, zp4, zp5, zp6]
        refine wpAnyH_ready (rs := [3]) (by kernel_rfl) (by simp) ?_
        refine AllReadyH.cons rfl (fun K hK => ?_) AllReadyH.nil
        go_simp
        ((go_at_call 114; refine (shAdd_wide _ _ _ _ ha wbm _).mono ?_; rintro e w41 ⟨rfl, hb⟩; haveI : Bel _ w41 := ⟨hb⟩; clear hb))
        go_wp2_with fail
        refine hK.out _ _ ?hSn1_11 (fun hHeld => ?hRn1_11)
        case hSn1_11 => ((try dsimp only); all_goals exact trivial)
        clear hK K
        try simp only [Act.put, zp1, zp2, zp3, zp4, zp5, zp6]
        refine wpAnyH_take (i := 4) (v := ?vn1_12) rfl (by kernel_rfl) (by kernel_rfl) (by kernel_rfl) (fun _ _ _ h => h) (Or.inl ⟨by rfl, ?hyn1_12⟩) (by assumption) ?hRn1_12
        case hyn1_12 => (intro w hSw; (try dsimp only at hSw); go_simp; (try with_reducible rfl))
        try simp only [Act.put, zp1, zp2, zp3, zp4, zp5, zp6]
        refine wpAnyH_ready (rs := [5]) (by kernel_rfl) (by simp) ?_
        refine AllReadyH.cons rfl (fun K hK => ?_) AllReadyH.nil
        go_simp
        refine hK.out _ _ ?hSn1_13 (fun hHeld => ?hRn1_13)
        case hSn1_13 => ((try dsimp only); all_goals exact trivial)
        clear hK K
        try simp only [Act.put, zp1, zp2, zp3, zp4, zp5, zp6]
        refine wpAnyH_done (by kernel_rfl) ?_ _
      all_goals
        go_wp2
        refine bodyPost_ret (v := .agg (stepP false ⟨an, ad, ln, ld, hn, hd, false, bh⟩).cells) (by simp [results, Tryz.results141, go_sem, stepP, goP, turnP, Wk.cells]) rfl ?_
        exact ⟨rfl, ext _ _⟩
    · go_enter Tryz.func141, Tryz.ntmps141
      have hX := hm2 rfl rfl
      have hL := hl rfl
      have hM := ha
      go_wp2_with (first | ((with_reducible refine at_dst (N := 2) rfl ?_); refine ev_box (cs := #[.int .i64 an, .int .i64 ad, .int .i64 ln, .int .i64 ld, .int .i64 hn, .int .i64 hd, .bool true, .bool bh]) (t := 137) rfl ?hr2 ?_; (case hr2 => first | (go_simp; done) | (go_simp; rfl)); intro g2 v2 _ _ _ _) | ((with_reducible refine at_dst (N := 4) rfl ?_); refine ev_box (cs := #[.int .i64 0, .int .i64 0, .int .i64 0, .int .i64 0, .int .i64 0, .int .i64 0, .bool false, .bool false]) (t := 137) rfl ?hr4 ?_; (case hr4 => first | (go_simp; done) | (go_simp; rfl)); intro g4 v4 _ _ _ _) | ((with_reducible refine at_dst (N := 5) rfl ?_); refine ev_box (cs := #[.int .i64 0, .int .i64 0]) (t := 68) rfl ?hr5 ?_; (case hr5 => first | (go_simp; done) | (go_simp; rfl)); intro g5 v5 _ _ _ _))
      refine wp_region_held_drew (S := (fun w' => w'.cell? ⟨g2, 2, none⟩ = some (.int .i64 (ln, ld).1) ∧ w'.cell? ⟨g2, 3, none⟩ = some (.int .i64 (ln, ld).2) ∧ w'.cell? ⟨g2, 4, none⟩ = some (.int .i64 (an, ad).1) ∧ w'.cell? ⟨g2, 5, none⟩ = some (.int .i64 (an, ad).2) ∧ w'.cell? ⟨g5, 0, none⟩ = some (.int .i64 1) ∧ w'.cell? ⟨g5, 1, none⟩ = some (.int .i64 2))) (by kernel_rfl) ?hSn2_ (fun hHeld => ?hRn2_)
      case hSn2_ => (refine ⟨?_, ?_, ?_, ?_, ?_, ?_⟩ <;> exact has_cell.trans rfl)
      refine wpAnyH_take (i := 0) (v := ?vn2_1) rfl (by kernel_rfl) (by kernel_rfl) (by kernel_rfl) (fun _ _ _ h => h) (Or.inl ⟨by rfl, ?hyn2_1⟩) (by assumption) ?hRn2_1
      case hyn2_1 => (intro w hSw; (try dsimp only at hSw); go_simp; (try with_reducible rfl))
      try simp only [Act.put, zp1, zp2, zp3, zp4, zp5, zp6]
      refine wpAnyH_take (i := 1) (v := ?vn2_2) rfl (by kernel_rfl) (by kernel_rfl) (by kernel_rfl) (fun _ _ _ h => h) (Or.inl ⟨by rfl, ?hyn2_2⟩) (by assumption) ?hRn2_2
      case hyn2_2 => (intro w hSw; (try dsimp only at hSw); go_simp; (try with_reducible rfl))
      try simp only [Act.put, zp1, zp2, zp3, zp4, zp5, zp6]
      refine wpAnyH_take (i := 2) (v := ?vn2_3) rfl (by kernel_rfl) (by kernel_rfl) (by kernel_rfl) (fun _ _ _ h => h) (Or.inl ⟨by rfl, ?hyn2_3⟩) (by assumption) ?hRn2_3
      case hyn2_3 => (intro w hSw; (try dsimp only at hSw); go_simp; (try with_reducible rfl))
      try simp only [Act.put, zp1, zp2, zp3, zp4, zp5, zp6]
      refine wpAnyH_take (i := 3) (v := ?vn2_4) rfl (by kernel_rfl) (by kernel_rfl) (by kernel_rfl) (fun _ _ _ h => h) (Or.inl ⟨by rfl, ?hyn2_4⟩) (by assumption) ?hRn2_4
      case hyn2_4 => (intro w hSw; (try dsimp only at hSw); go_simp; (try with_reducible rfl))
      try simp only [Act.put, zp1, zp2, zp3, zp4, zp5, zp6]
      refine wpAnyH_take (i := 5) (v := ?vn2_5) rfl (by kernel_rfl) (by kernel_rfl) (by kernel_rfl) (fun _ _ _ h => h) (Or.inl ⟨by rfl, ?hyn2_5⟩) (by assumption) ?hRn2_5
      case hyn2_5 => (intro w hSw; (try dsimp only at hSw); go_simp; (try with_reducible rfl))
      try simp only [Act.put, zp1, zp2, zp3, zp4, zp5, zp6]
      refine wpAnyH_ready (rs := [4]) (by kernel_rfl) (by simp) ?_
      refine AllReadyH.cons rfl (fun K hK => ?_) AllReadyH.nil
      go_simp
      ((go_at_call 114; refine (shAdd_wide _ _ _ _ hL hM _).mono ?_; rintro e w41 ⟨rfl, hb⟩; haveI : Bel _ w41 := ⟨hb⟩; clear hb))
      go_wp2_with fail
      refine hK.out _ _ ?hSn2_6 (fun hHeld => ?hRn2_6)
      case hSn2_6 => ((try dsimp only); refine ⟨?_, ?_, ?_, ?_, ?_, ?_⟩ <;> exact has_cell.trans rfl)
      clear hK K
      try simp only [Act.put, zp1, zp2, zp3, zp4, zp5, zp6]
      refine wpAnyH_ready (rs := [6]) (by kernel_rfl) (by simp) ?_
      refine AllReadyH.cons rfl (fun K hK => ?_) AllReadyH.nil
      go_simp
      ((go_at_call 116; refine (shMul_wide _ _ _ _ hX (by unfold WB; omega) _).mono ?_; rintro e w34 ⟨rfl, hb⟩; haveI : Bel _ w34 := ⟨hb⟩; clear hb))
      go_wp2_with fail
      refine hK.out _ _ ?hSn2_7 (fun hHeld => ?hRn2_7)
      case hSn2_7 => ((try dsimp only); refine ⟨?_, ?_, ?_, ?_, ?_, ?_⟩ <;> exact has_cell.trans rfl)
      clear hK K
      try simp only [Act.put, zp1, zp2, zp3, zp4, zp5, zp6]
      refine wpAnyH_take (i := 7) (v := ?vn2_8) rfl (by kernel_rfl) (by kernel_rfl) (by kernel_rfl) (fun _ _ _ h => h) (Or.inl ⟨by rfl, ?hyn2_8⟩) (by assumption) ?hRn2_8
      case hyn2_8 => (intro w hSw; (try dsimp only at hSw); go_simp; (try with_reducible rfl))
      try simp only [Act.put, zp1, zp2, zp3, zp4, zp5, zp6]
      refine wpAnyH_ready (rs := [8]) (by kernel_rfl) (by simp) ?_
      refine AllReadyH.cons rfl (fun K hK => ?_) AllReadyH.nil
      go_simp
      refine hK.out _ _ ?hSn2_9 (fun hHeld => ?hRn2_9)
      case hSn2_9 => ((try dsimp only); refine ⟨?_, ?_, ?_, ?_, ?_, ?_⟩ <;> exact has_cell.trans rfl)
      clear hK K
      try simp only [Act.put, zp1, zp2, zp3, zp4, zp5, zp6]
      refine wpAnyH_done (by kernel_rfl) ?_ _
      all_goals
        go_wp2
        refine bodyPost_ret (v := .agg (stepP false ⟨an, ad, ln, ld, hn, hd, true, bh⟩).cells) (by simp [results, Tryz.results141, go_sem, stepP, goP, turnP, Wk.cells]) rfl ?_
        exact ⟨rfl, ext _ _⟩
  · clear hm2
    cases bh
    · go_enter Tryz.func141, Tryz.ntmps141
      go_wp2_with (first | ((with_reducible refine at_dst (N := 2) rfl ?_); refine ev_box (cs := #[.int .i64 an, .int .i64 ad, .int .i64 ln, .int .i64 ld, .int .i64 hn, .int .i64 hd, .bool bl, .bool false]) (t := 137) rfl ?hr2 ?_; (case hr2 => first | (go_simp; done) | (go_simp; rfl)); intro g2 v2 _ _ _ _) | ((with_reducible refine at_dst (N := 4) rfl ?_); refine ev_box (cs := #[.int .i64 0, .int .i64 0, .int .i64 0, .int .i64 0, .int .i64 0, .int .i64 0, .bool false, .bool false]) (t := 137) rfl ?hr4 ?_; (case hr4 => first | (go_simp; done) | (go_simp; rfl)); intro g4 v4 _ _ _ _) | ((with_reducible refine at_dst (N := 5) rfl ?_); refine ev_box (cs := #[.int .i64 0, .int .i64 0]) (t := 68) rfl ?hr5 ?_; (case hr5 => first | (go_simp; done) | (go_simp; rfl)); intro g5 v5 _ _ _ _))
      refine wp_region_held_drew (S := (fun _ => True)) (by kernel_rfl) ?hSn3_ (fun hHeld => ?hRn3_)
      case hSn3_ => (all_goals exact trivial)
      refine wpAnyH_take (i := 0) (v := ?vn3_1) rfl (by kernel_rfl) (by kernel_rfl) (by kernel_rfl) (fun _ _ _ h => h) (Or.inl ⟨by rfl, ?hyn3_1⟩) (by assumption) ?hRn3_1
      case hyn3_1 => (intro w hSw; (try dsimp only at hSw); go_simp; (try with_reducible rfl))
      try simp only [Act.put, zp1, zp2, zp3, zp4, zp5, zp6]
      refine wpAnyH_ready (rs := [1, 2]) (by kernel_rfl) (by simp) ?_
      refine AllReadyH.cons rfl (fun K hK => ?bn3_2) (AllReadyH.cons rfl (fun K hK => ?bn3_3) (AllReadyH.nil))
      case' bn3_2 =>
        go_simp
        refine hK.out _ _ ?hSn3_4 (fun hHeld => ?hRn3_4)
        case hSn3_4 => ((try dsimp only); all_goals exact trivial)
        clear hK K
        try simp only [Act.put, zp1, zp2, zp3, zp4, zp5, zp6]
        refine wpAnyH_ready (rs := [2]) (by kernel_rfl) (by simp) ?_
        refine AllReadyH.cons rfl (fun K hK => ?_) AllReadyH.nil
        go_simp
        ((go_at_call 78; refine (shInt_any _ _).mono ?_; rintro e w40 ⟨rfl, hb⟩; haveI : Bel _ w40 := ⟨hb⟩; clear hb))
        go_wp2_with fail
        refine hK.out _ _ ?hSn3_5 (fun hHeld => ?hRn3_5)
        case hSn3_5 => ((try dsimp only); all_goals exact trivial)
        clear hK K
        try simp only [Act.put, zp1, zp2, zp3, zp4, zp5, zp6]
        refine wpAnyH_ready (rs := [3]) (by kernel_rfl) (by simp) ?_
        refine AllReadyH.cons rfl (fun K hK => ?_) AllReadyH.nil
        go_simp
        ((go_at_call 114; refine (shAdd_wide _ _ _ _ ha wb1 _).mono ?_; rintro e w41 ⟨rfl, hb⟩; haveI : Bel _ w41 := ⟨hb⟩; clear hb))
        go_wp2_with fail
        refine hK.out _ _ ?hSn3_6 (fun hHeld => ?hRn3_6)
        case hSn3_6 => ((try dsimp only); all_goals exact trivial)
        clear hK K
        try simp only [Act.put, zp1, zp2, zp3, zp4, zp5, zp6]
        refine wpAnyH_take (i := 4) (v := ?vn3_7) rfl (by kernel_rfl) (by kernel_rfl) (by kernel_rfl) (fun _ _ _ h => h) (Or.inl ⟨by rfl, ?hyn3_7⟩) (by assumption) ?hRn3_7
        case hyn3_7 => (intro w hSw; (try dsimp only at hSw); go_simp; (try with_reducible rfl))
        try simp only [Act.put, zp1, zp2, zp3, zp4, zp5, zp6]
        refine wpAnyH_ready (rs := [5]) (by kernel_rfl) (by simp) ?_
        refine AllReadyH.cons rfl (fun K hK => ?_) AllReadyH.nil
        go_simp
        refine hK.out _ _ ?hSn3_8 (fun hHeld => ?hRn3_8)
        case hSn3_8 => ((try dsimp only); all_goals exact trivial)
        clear hK K
        try simp only [Act.put, zp1, zp2, zp3, zp4, zp5, zp6]
        refine wpAnyH_done (by kernel_rfl) ?_ _
      case' bn3_3 =>
        go_simp
        ((go_at_call 78; refine (shInt_any _ _).mono ?_; rintro e w40 ⟨rfl, hb⟩; haveI : Bel _ w40 := ⟨hb⟩; clear hb))
        go_wp2_with fail
        refine hK.out _ _ ?hSn3_9 (fun hHeld => ?hRn3_9)
        case hSn3_9 => ((try dsimp only); all_goals exact trivial)
        clear hK K
        try simp only [Act.put, zp1, zp2, zp3, zp4, zp5, zp6]
        refine wpAnyH_ready (rs := [1]) (by kernel_rfl) (by simp) ?_
        refine AllReadyH.cons rfl (fun K hK => ?_) AllReadyH.nil
        go_simp
        refine hK.out _ _ ?hSn3_10 (fun hHeld => ?hRn3_10)
        case hSn3_10 => ((try dsimp only); all_goals exact trivial)
        clear hK K
        try simp only [Act.put, zp1, zp2, zp3, zp4, zp5, zp6]
        refine wpAnyH_ready (rs := [3]) (by kernel_rfl) (by simp) ?_
        refine AllReadyH.cons rfl (fun K hK => ?_) AllReadyH.nil
        go_simp
        ((go_at_call 114; refine (shAdd_wide _ _ _ _ ha wb1 _).mono ?_; rintro e w41 ⟨rfl, hb⟩; haveI : Bel _ w41 := ⟨hb⟩; clear hb))
        go_wp2_with fail
        refine hK.out _ _ ?hSn3_11 (fun hHeld => ?hRn3_11)
        case hSn3_11 => ((try dsimp only); all_goals exact trivial)
        clear hK K
        try simp only [Act.put, zp1, zp2, zp3, zp4, zp5, zp6]
        refine wpAnyH_take (i := 4) (v := ?vn3_12) rfl (by kernel_rfl) (by kernel_rfl) (by kernel_rfl) (fun _ _ _ h => h) (Or.inl ⟨by rfl, ?hyn3_12⟩) (by assumption) ?hRn3_12
        case hyn3_12 => (intro w hSw; (try dsimp only at hSw); go_simp; (try with_reducible rfl))
        try simp only [Act.put, zp1, zp2, zp3, zp4, zp5, zp6]
        refine wpAnyH_ready (rs := [5]) (by kernel_rfl) (by simp) ?_
        refine AllReadyH.cons rfl (fun K hK => ?_) AllReadyH.nil
        go_simp
        refine hK.out _ _ ?hSn3_13 (fun hHeld => ?hRn3_13)
        case hSn3_13 => ((try dsimp only); all_goals exact trivial)
        clear hK K
        try simp only [Act.put, zp1, zp2, zp3, zp4, zp5, zp6]
        refine wpAnyH_done (by kernel_rfl) ?_ _
      all_goals
        go_wp2
        refine bodyPost_ret (v := .agg (stepP true ⟨an, ad, ln, ld, hn, hd, bl, false⟩).cells) (by simp [results, Tryz.results141, go_sem, stepP, goP, turnP, Wk.cells]) rfl ?_
        exact ⟨rfl, ext _ _⟩
    · go_enter Tryz.func141, Tryz.ntmps141
      have hX := hm1 rfl rfl
      have hL := ha
      have hM := hh rfl
      go_wp2_with (first | ((with_reducible refine at_dst (N := 2) rfl ?_); refine ev_box (cs := #[.int .i64 an, .int .i64 ad, .int .i64 ln, .int .i64 ld, .int .i64 hn, .int .i64 hd, .bool bl, .bool true]) (t := 137) rfl ?hr2 ?_; (case hr2 => first | (go_simp; done) | (go_simp; rfl)); intro g2 v2 _ _ _ _) | ((with_reducible refine at_dst (N := 4) rfl ?_); refine ev_box (cs := #[.int .i64 0, .int .i64 0, .int .i64 0, .int .i64 0, .int .i64 0, .int .i64 0, .bool false, .bool false]) (t := 137) rfl ?hr4 ?_; (case hr4 => first | (go_simp; done) | (go_simp; rfl)); intro g4 v4 _ _ _ _) | ((with_reducible refine at_dst (N := 5) rfl ?_); refine ev_box (cs := #[.int .i64 0, .int .i64 0]) (t := 68) rfl ?hr5 ?_; (case hr5 => first | (go_simp; done) | (go_simp; rfl)); intro g5 v5 _ _ _ _))
      refine wp_region_held_drew (S := (fun w' => w'.cell? ⟨g2, 2, none⟩ = some (.int .i64 (an, ad).1) ∧ w'.cell? ⟨g2, 3, none⟩ = some (.int .i64 (an, ad).2) ∧ w'.cell? ⟨g2, 4, none⟩ = some (.int .i64 (hn, hd).1) ∧ w'.cell? ⟨g2, 5, none⟩ = some (.int .i64 (hn, hd).2) ∧ w'.cell? ⟨g5, 0, none⟩ = some (.int .i64 1) ∧ w'.cell? ⟨g5, 1, none⟩ = some (.int .i64 2))) (by kernel_rfl) ?hSn4_ (fun hHeld => ?hRn4_)
      case hSn4_ => (refine ⟨?_, ?_, ?_, ?_, ?_, ?_⟩ <;> exact has_cell.trans rfl)
      refine wpAnyH_take (i := 0) (v := ?vn4_1) rfl (by kernel_rfl) (by kernel_rfl) (by kernel_rfl) (fun _ _ _ h => h) (Or.inl ⟨by rfl, ?hyn4_1⟩) (by assumption) ?hRn4_1
      case hyn4_1 => (intro w hSw; (try dsimp only at hSw); go_simp; (try with_reducible rfl))
      try simp only [Act.put, zp1, zp2, zp3, zp4, zp5, zp6]
      refine wpAnyH_take (i := 1) (v := ?vn4_2) rfl (by kernel_rfl) (by kernel_rfl) (by kernel_rfl) (fun _ _ _ h => h) (Or.inl ⟨by rfl, ?hyn4_2⟩) (by assumption) ?hRn4_2
      case hyn4_2 => (intro w hSw; (try dsimp only at hSw); go_simp; (try with_reducible rfl))
      try simp only [Act.put, zp1, zp2, zp3, zp4, zp5, zp6]
      refine wpAnyH_take (i := 2) (v := ?vn4_3) rfl (by kernel_rfl) (by kernel_rfl) (by kernel_rfl) (fun _ _ _ h => h) (Or.inl ⟨by rfl, ?hyn4_3⟩) (by assumption) ?hRn4_3
      case hyn4_3 => (intro w hSw; (try dsimp only at hSw); go_simp; (try with_reducible rfl))
      try simp only [Act.put, zp1, zp2, zp3, zp4, zp5, zp6]
      refine wpAnyH_take (i := 3) (v := ?vn4_4) rfl (by kernel_rfl) (by kernel_rfl) (by kernel_rfl) (fun _ _ _ h => h) (Or.inl ⟨by rfl, ?hyn4_4⟩) (by assumption) ?hRn4_4
      case hyn4_4 => (intro w hSw; (try dsimp only at hSw); go_simp; (try with_reducible rfl))
      try simp only [Act.put, zp1, zp2, zp3, zp4, zp5, zp6]
      refine wpAnyH_take (i := 5) (v := ?vn4_5) rfl (by kernel_rfl) (by kernel_rfl) (by kernel_rfl) (fun _ _ _ h => h) (Or.inl ⟨by rfl, ?hyn4_5⟩) (by assumption) ?hRn4_5
      case hyn4_5 => (intro w hSw; (try dsimp only at hSw); go_simp; (try with_reducible rfl))
      try simp only [Act.put, zp1, zp2, zp3, zp4, zp5, zp6]
      refine wpAnyH_ready (rs := [4]) (by kernel_rfl) (by simp) ?_
      refine AllReadyH.cons rfl (fun K hK => ?_) AllReadyH.nil
      go_simp
      ((go_at_call 114; refine (shAdd_wide _ _ _ _ hL hM _).mono ?_; rintro e w41 ⟨rfl, hb⟩; haveI : Bel _ w41 := ⟨hb⟩; clear hb))
      go_wp2_with fail
      refine hK.out _ _ ?hSn4_6 (fun hHeld => ?hRn4_6)
      case hSn4_6 => ((try dsimp only); refine ⟨?_, ?_, ?_, ?_, ?_, ?_⟩ <;> exact has_cell.trans rfl)
      clear hK K
      try simp only [Act.put, zp1, zp2, zp3, zp4, zp5, zp6]
      refine wpAnyH_ready (rs := [6]) (by kernel_rfl) (by simp) ?_
      refine AllReadyH.cons rfl (fun K hK => ?_) AllReadyH.nil
      go_simp
      ((go_at_call 116; refine (shMul_wide _ _ _ _ hX (by unfold WB; omega) _).mono ?_; rintro e w34 ⟨rfl, hb⟩; haveI : Bel _ w34 := ⟨hb⟩; clear hb))
      go_wp2_with fail
      refine hK.out _ _ ?hSn4_7 (fun hHeld => ?hRn4_7)
      case hSn4_7 => ((try dsimp only); refine ⟨?_, ?_, ?_, ?_, ?_, ?_⟩ <;> exact has_cell.trans rfl)
      clear hK K
      try simp only [Act.put, zp1, zp2, zp3, zp4, zp5, zp6]
      refine wpAnyH_take (i := 7) (v := ?vn4_8) rfl (by kernel_rfl) (by kernel_rfl) (by kernel_rfl) (fun _ _ _ h => h) (Or.inl ⟨by rfl, ?hyn4_8⟩) (by assumption) ?hRn4_8
      case hyn4_8 => (intro w hSw; (try dsimp only at hSw); go_simp; (try with_reducible rfl))
      try simp only [Act.put, zp1, zp2, zp3, zp4, zp5, zp6]
      refine wpAnyH_ready (rs := [8]) (by kernel_rfl) (by simp) ?_
      refine AllReadyH.cons rfl (fun K hK => ?_) AllReadyH.nil
      go_simp
      refine hK.out _ _ ?hSn4_9 (fun hHeld => ?hRn4_9)
      case hSn4_9 => ((try dsimp only); refine ⟨?_, ?_, ?_, ?_, ?_, ?_⟩ <;> exact has_cell.trans rfl)
      clear hK K
      try simp only [Act.put, zp1, zp2, zp3, zp4, zp5, zp6]
      refine wpAnyH_done (by kernel_rfl) ?_ _
      all_goals
        go_wp2
        refine bodyPost_ret (v := .agg (stepP true ⟨an, ad, ln, ld, hn, hd, bl, true⟩).cells) (by simp [results, Tryz.results141, go_sem, stepP, goP, turnP, Wk.cells]) rfl ?_
        exact ⟨rfl, ext _ _⟩
end Go.Proofs.YtonlfnbjbmgegaaGreat

namespace Go.Proofs.YtonlfnbjbmgegaaGreat
open Go.RowKit
set_option linter.unusedSimpArgs false
set_option linter.unusedVariables false

/-- in lowest terms, a whole number of parts of 2^k, at most m in size -/
def DY (k m : Nat) (n d : Int) : Prop := ∃ A : Int, n * ((2 ^ k : Nat) : Int) = A * d ∧ 0 < d ∧ Int.gcd n d = 1 ∧ A ≤ (m : Int) * ((2 ^ k : Nat) : Int) ∧ -((m : Int) * ((2 ^ k : Nat) : Int)) ≤ A
theorem DY.bd {k m : Nat} {n d : Int} (h : DY k m n d) : 1 ≤ d ∧ d ≤ ((2 ^ k : Nat) : Int) ∧ n ≤ m * d ∧ -(m * d) ≤ n := by
  obtain ⟨A, h1, h2, h3, h4, h5⟩ := h
  have hp : 0 < 2 ^ k := Nat.pow_pos (by omega)
  generalize hu : ((2 ^ k : Nat) : Int) = U at *
  have hU : 0 < U := by omega
  have hd : d ∣ U := by
    have h : d ∣ n * U := ⟨A, by rw [h1, Int.mul_comm]⟩
    have h := Int.natAbs_dvd_natAbs.2 h
    rw [Int.natAbs_mul] at h
    exact Int.natAbs_dvd_natAbs.1 (Nat.Coprime.dvd_of_dvd_mul_left (show Nat.gcd d.natAbs n.natAbs = 1 from by rw [Nat.gcd_comm]; exact h3) h)
  have hle := Int.le_of_dvd hU hd
  refine ⟨by omega, hle, ?_, ?_⟩
  · apply Int.le_of_mul_le_mul_right (a := U) ?_ hU
    have : A * d ≤ (m * U) * d := Int.mul_le_mul_of_nonneg_right h4 (by omega)
    calc n * U = A * d := h1
      _ ≤ (m * U) * d := this
      _ = m * d * U := by rw [Int.mul_assoc, Int.mul_comm U, ← Int.mul_assoc]
  · apply Int.le_of_mul_le_mul_right (a := U) ?_ hU
    have : -(m * U) * d ≤ A * d := Int.mul_le_mul_of_nonneg_right h5 (by omega)
    calc -(↑m * d) * U = -(m * U) * d := by rw [Int.neg_mul, Int.neg_mul, Int.mul_assoc, Int.mul_comm d, ← Int.mul_assoc]
      _ ≤ A * d := this
      _ = n * U := h1.symm
theorem DY.mk {k m : Nat} {N D A : Int} (hD : 0 < D) (h : N * ((2 ^ k : Nat) : Int) = A * D) (h1 : A ≤ (m : Int) * ((2 ^ k : Nat) : Int)) (h2 : -((m : Int) * ((2 ^ k : Nat) : Int)) ≤ A) : DY k m (mkN N D) (mkD N D) := by
  obtain ⟨c1, c2, c3⟩ := mk_cross N D hD
  refine ⟨A, ?_, c2, c3, h1, h2⟩
  apply Int.eq_of_mul_eq_mul_right (a := D) (by omega)
  generalize ((2 ^ k : Nat) : Int) = U at *
  calc mkN N D * U * D = (mkN N D * D) * U := by rw [Int.mul_assoc, Int.mul_comm U, ← Int.mul_assoc]
    _ = (N * mkD N D) * U := by rw [c1]
    _ = (N * U) * mkD N D := by rw [Int.mul_assoc, Int.mul_comm (mkD N D), ← Int.mul_assoc]
    _ = (A * D) * mkD N D := by rw [h]
    _ = A * mkD N D * D := by rw [Int.mul_assoc, Int.mul_comm D, ← Int.mul_assoc]
theorem DY.up {k m : Nat} {n d : Int} (h : DY k m n d) : DY (k + 1) (m + 1) n d := by
  obtain ⟨A, h1, h2, h3, h4, h5⟩ := h
  have hp : ((2 ^ (k + 1) : Nat) : Int) = 2 * ((2 ^ k : Nat) : Int) := by rw [Nat.pow_succ]; omega
  have h0 : (0 : Int) ≤ ((2 ^ k : Nat) : Int) := Int.natCast_nonneg _
  refine ⟨2 * A, ?_, h2, h3, ?_, ?_⟩
  all_goals
    rw [hp]
    generalize ((2 ^ k : Nat) : Int) = U at *
    push_cast
    grind
/-- a whole step -/
theorem DY.one {k m : Nat} {n d : Int} (s : Int) (hs : s = 1 ∨ s = -1) (h : DY k m n d) : DY k (m + 1) (adN n d s 1) (adD n d s 1) := by
  obtain ⟨A, h1, h2, h3, h4, h5⟩ := h
  have h0 : (0 : Int) ≤ ((2 ^ k : Nat) : Int) := Int.natCast_nonneg _
  unfold adN adD
  refine DY.mk (A := A + s * ((2 ^ k : Nat) : Int)) (by omega) ?_ ?_ ?_
  all_goals
    generalize ((2 ^ k : Nat) : Int) = U at *
    push_cast
    rcases hs with rfl | rfl <;> grind
/-- the middle of two -/
theorem DY.add {k m : Nat} {n d n' d' : Int} (h : DY k m n d) (h' : DY k m n' d') : DY k (m + m) (adN n d n' d') (adD n d n' d') := by
  obtain ⟨A, h1, h2, h3, h4, h5⟩ := h
  obtain ⟨B, g1, g2, g3, g4, g5⟩ := h'
  have h0 : (0 : Int) ≤ ((2 ^ k : Nat) : Int) := Int.natCast_nonneg _
  unfold adN adD
  refine DY.mk (A := A + B) (Int.mul_pos h2 g2) ?_ ?_ ?_
  all_goals
    generalize ((2 ^ k : Nat) : Int) = U at *
    push_cast
    grind
theorem DY.half {k m : Nat} {n d : Int} (h : DY k (m + m) n d) : DY (k + 1) m (muN n d 1 2) (muD n d 1 2) := by
  obtain ⟨A, h1, h2, h3, h4, h5⟩ := h
  have hp : ((2 ^ (k + 1) : Nat) : Int) = 2 * ((2 ^ k : Nat) : Int) := by rw [Nat.pow_succ]; omega
  unfold muN muD
  refine DY.mk (A := A) (by omega) ?_ ?_ ?_
  all_goals
    rw [hp]
    generalize ((2 ^ k : Nat) : Int) = U at *
    push_cast at *
    grind
theorem DY.up' {k m : Nat} {n d : Int} (h : DY k m n d) : DY k (m + 1) n d := by
  obtain ⟨A, h1, h2, h3, h4, h5⟩ := h
  have h0 : (0 : Int) ≤ ((2 ^ k : Nat) : Int) := Int.natCast_nonneg _
  refine ⟨A, h1, h2, h3, ?_, ?_⟩
  all_goals
    generalize ((2 ^ k : Nat) : Int) = U at *
    push_cast
    grind
theorem DY.up1 {k m : Nat} {n d : Int} (h : DY k m n d) : DY (k + 1) m n d := by
  obtain ⟨A, h1, h2, h3, h4, h5⟩ := h
  have hp : ((2 ^ (k + 1) : Nat) : Int) = 2 * ((2 ^ k : Nat) : Int) := by rw [Nat.pow_succ]; omega
  refine ⟨2 * A, ?_, h2, h3, ?_, ?_⟩
  all_goals
    rw [hp]
    generalize ((2 ^ k : Nat) : Int) = U at *
    grind
end Go.Proofs.YtonlfnbjbmgegaaGreat

namespace Go.Proofs.YtonlfnbjbmgegaaGreat
open Go.RowKit
open List renaming getElem_toArray → zp1, getElem_cons_zero → zp2, getElem_cons_succ → zp3, setIfInBounds_toArray → zp4, set_cons_zero → zp5, set_cons_succ → zp6
set_option linter.unusedSimpArgs false
set_option linter.unusedVariables false

theorem DY.wb {k m : Nat} {n d : Int} (h : DY k m n d) (hk : k ≤ 20) (hm : m ≤ 40) : WB n d := by
  obtain ⟨h1, h2, h3, h4⟩ := h.bd
  have hp : 2 ^ k ≤ 2 ^ 20 := Nat.pow_le_pow_right (by omega) hk
  have hp' : ((2 ^ k : Nat) : Int) ≤ 1048576 := by omega
  have h5 : (m : Int) * d ≤ 40 * d := Int.mul_le_mul_of_nonneg_right (by omega) (by omega)
  unfold WB
  omega
theorem DY.f {k m : Nat} {n d : Int} (h : DY k m n d) (hk : k ≤ 5) (hm : m ≤ 5) : FOk n d := by
  obtain ⟨h1, h2, h3, h4⟩ := h.bd
  have hg : Int.gcd n d = 1 := h.choose_spec.2.2.1
  have hp : 2 ^ k ≤ 2 ^ 5 := Nat.pow_le_pow_right (by omega) hk
  have hp' : ((2 ^ k : Nat) : Int) ≤ 32 := by omega
  have h5 : (m : Int) * d ≤ 5 * d := Int.mul_le_mul_of_nonneg_right (by omega) (by omega)
  exact fracOk_iff.2 ⟨by omega, by omega, by omega, by omega, hg⟩

def WkOk (i : Nat) (s : Wk) : Prop := DY i i s.an s.ad ∧ (s.bl = true → DY i i s.ln s.ld) ∧ (s.bh = true → DY i i s.hn s.hd)
theorem WkOk.step {i : Nat} {s : Wk} (p : Bool) (h : WkOk i s) : WkOk (i + 1) (stepP p s) := by
  obtain ⟨h1, h2, h3⟩ := h
  unfold stepP turnP goP WkOk
  cases p
  · simp only [Bool.false_eq_true, if_false]
    split
    · rename_i hb
      exact ⟨((h2 hb.1).add h1).half.up', fun hl => (h2 hl).up, fun _ => h1.up⟩
    · exact ⟨(DY.one (-1) (.inr rfl) h1).up1, fun hl => (h2 hl).up, fun _ => h1.up⟩
  · simp only [if_true]
    split
    · rename_i hb
      exact ⟨(h1.add (h3 hb.2)).half.up', fun _ => h1.up, fun hl => (h3 hl).up⟩
    · exact ⟨(DY.one 1 (.inl rfl) h1).up1, fun _ => h1.up, fun hl => (h3 hl).up⟩

attribute [local go_sem high] has_cell has_frozen
set_option maxHeartbeats 1600000 in
theorem shStart_any (w : World) :
    Calls Tryz.prog 140 #[] w fun e w' => e = .returned (.agg (Wk.cells ⟨0, 1, 0, 0, 0, 0, false, false⟩)) ∧ Below w.heap.size w w' := by
  go_enter Tryz.func140, Tryz.ntmps140
  go_wp2_with (first | ((with_reducible refine at_dst (N := 0) rfl ?_); refine ev_box (cs := #[.int .i64 0, .int .i64 0, .int .i64 0, .int .i64 0, .int .i64 0, .int .i64 0, .bool false, .bool false]) (t := 137) rfl ?hr0 ?_; (case hr0 => first | (go_simp; done) | (go_simp; rfl)); intro g0 v0 _ _ _ _) | (go_at_call 78; refine (shInt_any _ _).mono ?_; rintro e w1 ⟨rfl, hb⟩; haveI : Bel _ w1 := ⟨hb⟩; clear hb))
  refine bodyPost_ret (v := .agg (Wk.cells ⟨0, 1, 0, 0, 0, 0, false, false⟩)) (by simp [results, Tryz.results140, go_sem, Wk.cells]) rfl ?_
  exact ⟨rfl, ext _ _⟩

theorem step_ok (p : Bool) (an ad ln ld hn hd : Int) (bl bh : Bool) (i : Nat) (w : World) (hi : i < 20) (hok : WkOk i ⟨an, ad, ln, ld, hn, hd, bl, bh⟩) :
    Calls Tryz.prog 141 #[.agg #[.int .i64 an, .int .i64 ad, .int .i64 ln, .int .i64 ld, .int .i64 hn, .int .i64 hd, .bool bl, .bool bh], .bool p] w fun e w' => ∃ (an ad ln ld hn hd : Int) (bl bh : Bool),
      e = .returned (.agg #[.int .i64 an, .int .i64 ad, .int .i64 ln, .int .i64 ld, .int .i64 hn, .int .i64 hd, .bool bl, .bool bh]) ∧ WkOk (i + 1) ⟨an, ad, ln, ld, hn, hd, bl, bh⟩ ∧ Below w.heap.size w w' := by
  have hst := hok.step p
  obtain ⟨o1, o2, o3⟩ := hok
  refine (step_any p an ad ln ld hn hd bl bh w (o1.wb (by omega) (by omega)) (fun h => (o2 h).wb (by omega) (by omega)) (fun h => (o3 h).wb (by omega) (by omega)) (fun _ h => (o1.add (o3 h)).wb (by omega) (by omega)) (fun _ h => ((o2 h).add o1).wb (by omega) (by omega))).mono ?_
  rintro e w' ⟨rfl, hb⟩
  generalize stepP p ⟨an, ad, ln, ld, hn, hd, bl, bh⟩ = s' at *
  obtain ⟨an, ad, ln, ld, hn, hd, bl, bh⟩ := s'
  exact ⟨_, _, _, _, _, _, _, _, rfl, hst, hb⟩
set_option maxHeartbeats 1600000 in
set_option maxRecDepth 100000 in
theorem shValue_any (u : ByteArray) (w : World) (hu : u.size ≤ 20) :
    Calls Tryz.prog 120 #[.string u] w fun e w' => ∃ n d, e = .returned (.agg #[.int .i64 n, .int .i64 d]) ∧ DY u.size u.size n d ∧ Below w.heap.size w w' := by
  go_enter Tryz.func120, Tryz.ntmps120
  go_wp2_with (first | ((with_reducible refine at_dst (N := 2) rfl ?_); refine ev_box (cs := #[.int .i64 0, .int .i64 0]) (t := 68) rfl ?hr2 ?_; (case hr2 => first | (go_simp; done) | (go_simp; rfl)); intro g2 v2 _ _ _ _) | ((with_reducible refine at_dst (N := 3) rfl ?_); refine ev_box (cs := #[.int .i64 0, .int .i64 0, .int .i64 0, .int .i64 0, .int .i64 0, .int .i64 0, .bool false, .bool false]) (t := 137) rfl ?hr3 ?_; (case hr3 => first | (go_simp; done) | (go_simp; rfl)); intro g3 v3 _ _ _ _) | (go_at_call 140; refine (shStart_any _).mono ?_; rintro e w5 ⟨rfl, hb⟩; haveI : Bel _ w5 := ⟨hb⟩; clear hb; unfold Wk.cells))
  go_loopw [4] (fun t wr => ∃ (i : Nat) (an ad ln ld hn hd : Int) (bl bh : Bool), t = .int .i64 i ∧ i ≤ u.size ∧ Has wr g3 (.cells #[.int .i64 an, .int .i64 ad, .int .i64 ln, .int .i64 ld, .int .i64 hn, .int .i64 hd, .bool bl, .bool bh] 137 (0, 0)) ∧ WkOk i ⟨an, ad, ln, ld, hn, hd, bl, bh⟩ ∧ Kp v3 (XE g3) wr) (fun t _ => u.size - (intOf t).toNat)
  case atStart =>
    exact ⟨0, 0, 1, 0, 0, 0, 0, false, false, rfl, by omega, inferInstance, ⟨⟨0, by simp, by simp, by decide, by simp, by simp⟩, by simp, by simp⟩, kp _ _ _⟩
  case round =>
    obtain ⟨i, an, ad, ln, ld, hn, hd, bl, bh, rfl, hi, _, hok, _⟩ := hrel
    by_cases hlt : i < u.size
    · go_wp2
      refine wp_region_held_drew (S := (fun _ => True)) (by kernel_rfl) ?hSn1_ (fun hHeld => ?hRn1_)
      case hSn1_ => (all_goals exact trivial)
      refine wpAnyH_take (i := 1) (v := ?vn1_1) rfl (by kernel_rfl) (by kernel_rfl) (by kernel_rfl) (fun _ _ _ h => h) (Or.inl ⟨by rfl, ?hyn1_1⟩) (by assumption) ?hRn1_1
      case hyn1_1 => (intro w hSw; (try dsimp only at hSw); go_simp; (try with_reducible rfl))
      try simp only [Act.put, zp1, zp2, zp3, zp4, zp5, zp6]
      refine wpAnyH_take (i := 2) (v := ?vn1_2) rfl (by kernel_rfl) (by kernel_rfl) (by kernel_rfl) (fun _ _ _ h => h) (Or.inl ⟨by rfl, ?hyn1_2⟩) (by assumption) ?hRn1_2
      case hyn1_2 => (intro w hSw; (try dsimp only at hSw); go_simp; (try with_reducible rfl))
      try simp only [Act.put, zp1, zp2, zp3, zp4, zp5, zp6]
      refine wpAnyH_take (i := 3) (v := ?vn1_3) rfl (by kernel_rfl) (by kernel_rfl) (by kernel_rfl) (fun _ _ _ h => h) (Or.inl ⟨by rfl, ?hyn1_3⟩) (by assumption) ?hRn1_3
      case hyn1_3 => (intro w hSw; (try dsimp only at hSw); go_simp; (try with_reducible rfl))
      try simp only [Act.put, zp1, zp2, zp3, zp4, zp5, zp6]
      refine wpAnyH_take (i := 4) (v := ?vn1_4) rfl (by kernel_rfl) (by kernel_rfl) (by kernel_rfl) (fun _ _ _ h => h) (Or.inl ⟨by rfl, ?hyn1_4⟩) (by assumption) ?hRn1_4
      case hyn1_4 => (intro w hSw; (try dsimp only at hSw); go_simp; (try with_reducible rfl))
      try simp only [Act.put, zp1, zp2, zp3, zp4, zp5, zp6]
      refine wpAnyH_ready (rs := [0]) (by kernel_rfl) (by simp) ?_
      refine AllReadyH.cons rfl (fun K hK => ?_) AllReadyH.nil
      go_simp
      refine hK.out _ _ ?hSn1_5 (fun hHeld => ?hRn1_5)
      case hSn1_5 => ((try dsimp only); all_goals exact trivial)
      clear hK K
      try simp only [Act.put, zp1, zp2, zp3, zp4, zp5, zp6]
      refine wpAnyH_ready (rs := [5]) (by kernel_rfl) (by simp) ?_
      refine AllReadyH.cons rfl (fun K hK => ?_) AllReadyH.nil
      go_simp
      ((go_at_call 141; refine (step_ok _ an ad ln ld hn hd bl bh i _ (by omega) hok).mono ?_; rintro e w17 ⟨an1, ad1, ln1, ld1, hn1, hd1, bl1, bh1, rfl, hok1, hb⟩; haveI : Bel _ w17 := ⟨hb⟩; clear hb))
      go_wp2_with fail
      refine hK.out _ _ ?hSn1_6 (fun hHeld => ?hRn1_6)
      case hSn1_6 => ((try dsimp only); all_goals exact trivial)
      clear hK K
      try simp only [Act.put, zp1, zp2, zp3, zp4, zp5, zp6]
      refine wpAnyH_ready (rs := [6]) (by kernel_rfl) (by simp) ?_
      refine AllReadyH.cons rfl (fun K hK => ?_) AllReadyH.nil
      go_simp
      refine hK.out _ _ ?hSn1_7 (fun hHeld => ?hRn1_7)
      case hSn1_7 => ((try dsimp only); all_goals exact trivial)
      clear hK K
      try simp only [Act.put, zp1, zp2, zp3, zp4, zp5, zp6]
      refine wpAnyH_done (by kernel_rfl) ?_ _
      all_goals
        go_wp2
        exact ⟨⟨i + 1, an1, ad1, ln1, ld1, hn1, hd1, bl1, bh1, by go_num, by omega, inferInstance, hok1, kp _ _ _⟩, by simp [intOf]; omega⟩
    · go_wp2
      have he : i = u.size := by omega
      refine bodyPost_ret (v := .agg #[.int .i64 an, .int .i64 ad]) (by simp [results, Tryz.results120, go_sem]) rfl ?_
      exact ⟨an, ad, rfl, he ▸ hok.1, ext _ _⟩
end Go.Proofs.YtonlfnbjbmgegaaGreat

namespace Go.Proofs.YtonlfnbjbmgegaaGreat
open Go.RowKit
set_option linter.unusedSimpArgs false
set_option linter.unusedVariables false

theorem mk_I64 {n d : Int} (hn : -1000000000 ≤ n ∧ n ≤ 1000000000) (hd : -1000000000 ≤ d ∧ d ≤ 1000000000) : I64 (mkN n d) ∧ I64 (mkD n d) := by
  have a1 := natAbs_tdiv_le n (gsign n d)
  have a2 := natAbs_tdiv_le d (gsign n d)
  unfold mkN mkD I64
  omega
theorem WB.i64 {n d : Int} (h : WB n d) : I64 n ∧ I64 d := by unfold WB at h; unfold I64; omega

attribute [local go_sem high] has_cell has_frozen
set_option maxHeartbeats 3200000 in
set_option maxRecDepth 100000 in
theorem cfraction_any (g : Nat) (k : Int) (w : World) [hc : Cur w g k] (hk : k ≤ 140737488355328) :
    Calls Tryz.prog 79 #[.pointer (some ⟨g, 0, none⟩)] w fun e w' => ∃ n d : Int, e = .returned (.agg #[.int .i64 n, .int .i64 d]) ∧ I64 n ∧ I64 d ∧ Drew w g (k + 3000) w' := by
  go_enter Tryz.func79, Tryz.ntmps79
  go_wp2_with (first | ((with_reducible refine at_dst (N := 2) rfl ?_); refine ev_box (cs := #[.int .i64 0, .int .i64 0]) (t := 68) rfl ?hr2 ?_; (case hr2 => first | (go_simp; done) | (go_simp; rfl)); intro g2 v2 _ _ _ _) | ((fail_if_success (have _q := r4)); go_at_call 70; refine (pick_any _ g _ _ (by omega) (by omega)).mono ?_; rintro e4 w4 ⟨r4, rfl, ha4, hb4, h1, h2⟩; haveI := h1; haveI := h2; clear h1 h2) | ((fail_if_success (have _q := r8)); go_at_call 70; refine (pick_any _ g _ _ (by omega) (by omega)).mono ?_; rintro e8 w8 ⟨r8, rfl, ha8, hb8, h1, h2⟩; haveI := h1; haveI := h2; clear h1 h2) | ((fail_if_success (have _q := r11)); go_at_call 70; refine (pick_any _ g _ _ (by omega) (by omega)).mono ?_; rintro e11 w11 ⟨r11, rfl, ha11, hb11, h1, h2⟩; haveI := h1; haveI := h2; clear h1 h2) | ((fail_if_success (have _q := w13)); go_at_call 69; refine (shMake_any _ _ (by omega) (by omega) (by omega) _).mono ?_; rintro e13 w13 ⟨rfl, hb⟩; haveI : Bel _ w13 := ⟨hb⟩; clear hb) | ((fail_if_success (have _q := w19)); go_at_call 78; refine (shInt_any _ _).mono ?_; rintro e19 w19 ⟨rfl, hb⟩; haveI : Bel _ w19 := ⟨hb⟩; clear hb) | ((fail_if_success (have _q := r41)); go_at_call 24; (with_reducible refine (among_any (fun j => 0 ≤ j ∧ j ≤ 20) _ 4 _ g _ _ (by omega) (by omega) (fun W hW => by haveI := hW; exact ListOk.of (by simp [I64]) rfl)).mono ?_); rintro e41 w41 ⟨r41, rfl, hp41, h1, h2⟩; haveI := h1; haveI := h2; clear h1 h2) | ((fail_if_success (have _q := r24)); go_at_call 24; refine (among_any (I64) _ 8 _ g _ _ (by omega) (by omega) (fun W hW => by haveI := hW; exact ListOk.of (by simp [I64]) rfl)).mono ?_; rintro e24 w24 ⟨r24, rfl, hp24, h1, h2⟩; haveI := h1; haveI := h2; clear h1 h2) | ((fail_if_success (have _q := r27)); go_at_call 24; refine (among_any (I64) _ 8 _ g _ _ (by omega) (by omega) (fun W hW => by haveI := hW; exact ListOk.of (by simp [I64]) rfl)).mono ?_; rintro e27 w27 ⟨r27, rfl, hp27, h1, h2⟩; haveI := h1; haveI := h2; clear h1 h2) | ((fail_if_success (have _q := r42)); go_at_call 121; refine (word_any _ g _ _ (by omega) (by omega)).mono ?_; rintro e42 w42 ⟨r42, rfl, hp42, h1, h2⟩; haveI := h1; haveI := h2; clear h1 h2) | ((fail_if_success (have _q := w43)); go_at_call 120; refine (shValue_any _ _ (by omega)).mono ?_; rintro e43 w43 ⟨n43, d43, rfl, hd43, hb⟩; haveI : Bel _ w43 := ⟨hb⟩; clear hb))
  · obtain ⟨i1, i2⟩ := mk_I64 (n := r8 - 20) (d := 1 + r11) (by omega) (by omega)
    refine bodyPost_ret (v := .agg #[.int .i64 (mkN (r8 - 20) (1 + r11)), .int .i64 (mkD (r8 - 20) (1 + r11))]) (by simp [results, Tryz.results79, go_sem]) rfl ?_
    exact ⟨_, _, rfl, i1, i2, drew _ _ _ (by omega)⟩
  · refine bodyPost_ret (v := .agg #[.int .i64 (r8 - 4), .int .i64 1]) (by simp [results, Tryz.results79, go_sem]) rfl ?_
    exact ⟨_, _, rfl, by unfold I64; omega, by unfold I64; omega, drew _ _ _ (by omega)⟩
  · refine bodyPost_ret (v := .agg #[.int .i64 r24, .int .i64 r27]) (by simp [results, Tryz.results79, go_sem]) rfl ?_
    exact ⟨_, _, rfl, hp24, hp27, drew _ _ _ (by omega)⟩
  · obtain ⟨i1, i2⟩ := mk_I64 (n := r8 - 1000) (d := 1 + r11) (by omega) (by omega)
    refine bodyPost_ret (v := .agg #[.int .i64 (mkN (r8 - 1000) (1 + r11)), .int .i64 (mkD (r8 - 1000) (1 + r11))]) (by simp [results, Tryz.results79, go_sem]) rfl ?_
    exact ⟨_, _, rfl, i1, i2, drew _ _ _ (by omega)⟩
  · obtain ⟨i1, i2⟩ := (hd43.wb (by omega) (by omega)).i64
    refine bodyPost_ret (v := .agg #[.int .i64 n43, .int .i64 d43]) (by simp [results, Tryz.results79, go_sem]) rfl ?_
    exact ⟨_, _, rfl, i1, i2, drew _ _ _ (by omega)⟩

set_option maxHeartbeats 1600000 in
theorem good_any (g : Nat) (k : Int) (w : World) [hc : Cur w g k] (hk : k ≤ 140737488355328) :
    Calls Tryz.prog 137 #[.pointer (some ⟨g, 0, none⟩)] w fun e w' => ∃ n d : Int, e = .returned (.agg #[.int .i64 n, .int .i64 d]) ∧ FOk n d ∧ Drew w g (k + 3000) w' := by
  go_enter Tryz.func137, Tryz.ntmps137
  go_wp2_with (first | ((with_reducible refine at_dst (N := 2) rfl ?_); refine ev_box (cs := #[.int .i64 0, .int .i64 0]) (t := 68) rfl ?hr2 ?_; (case hr2 => first | (go_simp; done) | (go_simp; rfl)); intro g2 v2 _ _ _ _) | ((with_reducible refine at_dst (N := 3) rfl ?_); refine ev_box (cs := #[.int .i64 0, .int .i64 0]) (t := 68) rfl ?hr3 ?_; (case hr3 => first | (go_simp; done) | (go_simp; rfl)); intro g3 v3 _ _ _ _) |
    (go_at_call 79; refine (cfraction_any g _ _ (by omega)).mono ?_; rintro e w5 ⟨n, d, rfl, hn, hd, h1, h2⟩; haveI := h1; haveI := h2; clear h1 h2) |
    (go_at_call 115; refine (shGood_any _ _ _).mono ?_; rintro e w7 ⟨rfl, hb⟩; haveI : Bel _ w7 := ⟨hb⟩; clear hb))
  · rename_i hf
    refine bodyPost_ret (v := .agg #[.int .i64 1, .int .i64 2]) (by simp [results, Tryz.results137, go_sem]) rfl ?_
    exact ⟨_, _, rfl, by show fracOk 1 2 = true; decide, drew _ _ _ (by omega)⟩
  · rename_i hf
    refine bodyPost_ret (v := .agg #[.int .i64 n, .int .i64 d]) (by simp [results, Tryz.results137, go_sem]) rfl ?_
    exact ⟨_, _, rfl, by show fracOk n d = true; simpa using hf, drew _ _ _ (by omega)⟩
end Go.Proofs.YtonlfnbjbmgegaaGreat

namespace Go.Proofs.YtonlfnbjbmgegaaGreat
open Go.RowKit
set_option linter.unusedSimpArgs false
set_option linter.unusedVariables false

theorem gok_pm {j : Int} (h : j = 1 ∨ j = -1) : GOk j 1 := by
  rcases h with rfl | rfl
  · exact ⟨show fracOk 1 1 = true by decide, by omega⟩
  · exact ⟨show fracOk (-1) 1 = true by decide, by omega⟩
attribute [local go_sem high] has_cell has_frozen
set_option maxHeartbeats 3200000 in
set_option maxRecDepth 100000 in
theorem coef_any (b : Bool) (g : Nat) (k : Int) (w : World) [hc : Cur w g k] (hk : k ≤ 70368744177664) :
    Calls Tryz.prog 117 #[.pointer (some ⟨g, 0, none⟩), .bool b] w fun e w' => ∃ n d : Int, e = .returned (.agg #[.int .i64 n, .int .i64 d]) ∧ GOk n d ∧ Drew w g (k + 10000) w' := by
  go_enter Tryz.func117, Tryz.ntmps117
  go_wp2_with (first | ((with_reducible refine at_dst (N := 4) rfl ?_); refine ev_box (cs := #[.int .i64 0, .int .i64 0]) (t := 68) rfl ?hr4 ?_; (case hr4 => first | (go_simp; done) | (go_simp; rfl)); intro g4 v4 _ _ _ _) | ((with_reducible refine at_dst (N := 5) rfl ?_); refine ev_box (cs := #[.int .i64 0, .int .i64 0]) (t := 68) rfl ?hr5 ?_; (case hr5 => first | (go_simp; done) | (go_simp; rfl)); intro g5 v5 _ _ _ _) | (go_at_call 137; refine (good_any g _ _ (by omega)).mono ?_; rintro e w7 ⟨n, d, rfl, hf, h1, h2⟩; haveI := h1; haveI := h2; clear h1 h2) | ((fail_if_success (have _q := r11)); go_at_call 25; refine (one_any _ g _ _ (by omega) (by omega)).mono ?_; rintro e11 w11 ⟨r11, rfl, h1, h2⟩; haveI := h1; haveI := h2; clear h1 h2) | ((fail_if_success (have _q := r16)); go_at_call 24; (with_reducible refine (among_any (fun j => 2 ≤ j ∧ j ≤ 5) _ 3 _ g _ _ (by omega) (by omega) (fun W hW => by haveI := hW; exact ListOk.of (by simp) rfl)).mono ?_); rintro e16 w16 ⟨r16, rfl, hp16, h1, h2⟩; haveI := h1; haveI := h2; clear h1 h2) | ((fail_if_success (have _q := r24)); go_at_call 24; (with_reducible refine (among_any (fun j => j = 1 ∨ j = -1) _ 2 _ g _ _ (by omega) (by omega) (fun W hW => by haveI := hW; exact ListOk.of (by simp) rfl)).mono ?_); rintro e24 w24 ⟨r24, rfl, hp24, h1, h2⟩; haveI := h1; haveI := h2; clear h1 h2) | ((fail_if_success (have _q := r17)); go_at_call 121; refine (word_any _ g _ _ (by omega) (by omega)).mono ?_; rintro e17 w17 ⟨r17, rfl, hp17, h1, h2⟩; haveI := h1; haveI := h2; clear h1 h2) | ((fail_if_success (have _q := w18)); go_at_call 120; refine (shValue_any _ _ (by omega)).mono ?_; rintro e18 w18 ⟨n18, d18, rfl, hd18, hb⟩; haveI : Bel _ w18 := ⟨hb⟩; clear hb) | ((fail_if_success (have _q := w25)); go_at_call 78; refine (shInt_any _ _).mono ?_; rintro e25 w25 ⟨rfl, hb⟩; haveI : Bel _ w25 := ⟨hb⟩; clear hb))
  all_goals first
    | (refine bodyPost_ret (v := .agg #[.int .i64 r24, .int .i64 1]) (by simp [results, Tryz.results117, go_sem]) rfl ?_; exact ⟨_, _, rfl, gok_pm hp24, drew _ _ _ (by omega)⟩)
    | (refine bodyPost_ret (v := .agg #[.int .i64 n18, .int .i64 d18]) (by simp [results, Tryz.results117, go_sem]) rfl ?_; exact ⟨_, _, rfl, ⟨hd18.f (by omega) (by omega), ne_of_beq_false (by assumption)⟩, drew _ _ _ (by omega)⟩)
    | (refine bodyPost_ret (v := .agg #[.int .i64 n, .int .i64 d]) (by simp [results, Tryz.results117, go_sem]) rfl ?_; exact ⟨_, _, rfl, ⟨hf, ne_of_beq_false (by assumption)⟩, drew _ _ _ (by omega)⟩)
end Go.Proofs.YtonlfnbjbmgegaaGreat

namespace Go.Proofs.YtonlfnbjbmgegaaGreat
open Go.RowKit
open List renaming getElem_toArray → zp1, getElem_cons_zero → zp2, getElem_cons_succ → zp3, setIfInBounds_toArray → zp4, set_cons_zero → zp5, set_cons_succ → zp6
set_option linter.unusedSimpArgs false
set_option linter.unusedVariables false

theorem fok_small {j : Int} (h : -1000 ≤ j ∧ j ≤ 1000) : FOk j 1 := fracOk_iff.2 ⟨by omega, by omega, by omega, by omega, by simp⟩
attribute [local go_sem high] has_cell has_frozen
set_option synthInstance.maxHeartbeats 2000000 in
set_option synthInstance.maxSize 4000 in
set_option maxHeartbeats 6400000 in
set_option maxRecDepth 100000 in
theorem surreal_step (dp : Nat) (hdp : dp ≤ 100) (K : Int) (hK : 0 ≤ K)
    (ih : ∀ dq, dp = dq + 1 → ∀ (q : Int) (b : Bool) (g : Nat) (k : Int) (w : World) [hc : Cur w g k], q = dq → k + K ≤ 70368744177664 →
      Calls Tryz.prog 74 #[.pointer (some ⟨g, 0, none⟩), .int .i64 q, .bool b] w fun e w' => ∃ (x : Sur) (A : Option Addr) (c : Nat), e = .returned (.agg #[.slice A x.len c]) ∧ Ro w' A w w' x c ∧ x.All FOk ∧ x.len ≤ 3 ∧ Drew w g (k + K) w')
    (b : Bool) (g : Nat) (k : Int) (w : World) [hc : Cur w g k] (hk : k + 100000 + 4 * K ≤ 70368744177664) :
    Calls Tryz.prog 74 #[.pointer (some ⟨g, 0, none⟩), .int .i64 dp, .bool b] w fun e w' => ∃ (x : Sur) (A : Option Addr) (c : Nat), e = .returned (.agg #[.slice A x.len c]) ∧ Ro w' A w w' x c ∧ x.All FOk ∧ x.len ≤ 3 ∧ Drew w g (k + (100000 + 4 * K)) w' := by
  go_enter Tryz.func74, Tryz.ntmps74
  go_wp2_with (first | ((with_reducible refine at_dst (N := 6) rfl ?_); refine ev_box (cs := #[.slice none 0 0]) (t := 26) rfl ?hr6 ?_; (case hr6 => first | (go_simp; done) | (go_simp; rfl)); intro g6 v6 _ _ _ _) | ((with_reducible refine at_dst (N := 7) rfl ?_); refine ev_box (cs := #[.slice none 0 0]) (t := 26) rfl ?hr7 ?_; (case hr7 => first | (go_simp; done) | (go_simp; rfl)); intro g7 v7 _ _ _ _) | ((fail_if_success (have _q := r15)); go_at_call 24; (with_reducible refine (among_any (fun j => 0 ≤ j ∧ j ≤ 3) _ 6 _ g _ _ (by omega) (by omega) (fun W hW => by haveI := hW; exact ListOk.of (by simp) rfl)).mono ?_); rintro e15 w15 ⟨r15, rfl, hp15, h1, h2⟩; haveI := h1; haveI := h2; clear h1 h2))
  go_loopw [8] (fun s wr => ∃ (m : Nat) (out : Sur) (Ao : Option Addr) (co : Nat), s = .int .i64 m ∧ out.len + m ≤ 3 ∧ out.All FOk ∧ Has wr g7 (.cells #[.slice Ao out.len co] 26 (0, 0)) ∧ Ro wr Ao v7 wr out co ∧ Kp v7 (XU (XE g) (XE g7)) wr ∧ Cur wr g (k + 100000 + 4 * K - (30000 + K) * m)) (fun s _ => (intOf s).toNat)
  case atStart =>
    exact ⟨r15.toNat, .nil, none, 0, by go_num, by simp [Sur.len]; omega, trivial, inferInstance, Ro.nil _ _ _, kp _ _ _, Cur.le inferInstance (by have : (30000 + K) * (r15.toNat : Int) ≤ (30000 + K) * 3 := Int.mul_le_mul_of_nonneg_left (by omega) (by omega); omega)⟩
  case round =>
    obtain ⟨m, out, Ao, co, rfl, hm, hao, _, _, _, hcr⟩ := hrel
    haveI := hcr
    by_cases hm0 : m = 0
    · subst hm0
      go_wp2
      refine bodyPost_ret (v := .agg #[.slice Ao out.len co]) (by simp [results, Tryz.results74, go_sem]) rfl ?_
      exact ⟨out, Ao, co, rfl, Ro.lp, hao, by omega, drew _ _ _ (by omega)⟩
    · have hm1 : (1 : Int) ≤ m := by omega
      have hp1 : k + 100000 + 4 * K - (30000 + K) * (m : Int) + 30000 + K ≤ k + 100000 + 4 * K := by
        have : (30000 + K) * 1 ≤ (30000 + K) * (m : Int) := Int.mul_le_mul_of_nonneg_left hm1 (by omega)
        omega
      have hp2 : k + 100000 + 4 * K - (30000 + K) * (m : Int) + 30000 + K = k + 100000 + 4 * K - (30000 + K) * ((m - 1 : Nat) : Int) := by
        rw [show ((m - 1 : Nat) : Int) = (m : Int) - 1 by omega, Int.mul_sub]; omega
      generalize k + 100000 + 4 * K - (30000 + K) * (m : Int) = p0 at *
      go_upto_block 2 with (first | ((with_reducible refine at_dst (N := 9) rfl ?_); refine ev_box (cs := #[.slice none 0 0]) (t := 26) rfl ?hr9 ?_; (case hr9 => first | (go_simp; done) | (go_simp; rfl)); intro g9 v9 _ _ _ _) | ((fail_if_success (have _q := n22)); go_at_call 117; refine (coef_any _ g _ _ (by omega)).mono ?_; rintro e22 w22 ⟨n22, d22, rfl, hf22, h1, h2⟩; haveI := h1; haveI := h2; clear h1 h2) | ((fail_if_success (have _q := A23)); go_at_call 68; refine (suReal_any _ _ (XL _) _ (fun k hk => hk) (fracOk_I64 hf22.1).1 (fracOk_I64 hf22.1).2).mono ?_; rintro e23 w23 ⟨A23, c23, rfl, hs, hb⟩; haveI : Bel _ w23 := ⟨hb⟩; haveI := Tr.arg hs; clear hs hb))
      go_cut [] (fun wx => ∃ (ex : Sur) (Ae : Option Addr) (ce : Nat), Has wx g9 (.cells #[.slice Ae ex.len ce] 26 (0, 0)) ∧ Tr wx Ae (XV wx (XL v7)) ex ce ∧ ex.All FOk ∧ Kp wr (XE g) wx ∧ Cur wx g (p0 + 15000 + K))
      case first =>
        go_wp2_with (first | ((fail_if_success (have _q := r29)); go_at_call 25; refine (one_any _ g _ _ (by omega) (by omega)).mono ?_; rintro e29 w29 ⟨r29, rfl, h1, h2⟩; haveI := h1; haveI := h2; clear h1 h2) | ((fail_if_success (have _q := r38)); go_at_call 25; refine (one_any _ g _ _ (by omega) (by omega)).mono ?_; rintro e38 w38 ⟨r38, rfl, h1, h2⟩; haveI := h1; haveI := h2; clear h1 h2) | ((fail_if_success (have _q := r42)); go_at_call 25; refine (one_any _ g _ _ (by omega) (by omega)).mono ?_; rintro e42 w42 ⟨r42, rfl, h1, h2⟩; haveI := h1; haveI := h2; clear h1 h2) | ((fail_if_success (have _q := A35)); go_at_call 74; obtain ⟨dq, rfl⟩ : ∃ dq, dp = dq + 1 := ⟨dp - 1, by omega⟩; refine (ih dq rfl _ _ g _ _ (by first | omega | (unfold wrap64; omega)) (by omega)).mono ?_; rintro e35 w35 ⟨x35, A35, c35, rfl, h0, hx35, hl35, h1, h2⟩; haveI := h0; haveI := h1; haveI := h2; clear h0 h1 h2) | ((fail_if_success (have _q := r45)); go_at_call 24; (with_reducible refine (among_any (fun j => j = 1 ∨ j = -1 ∨ j = 2 ∨ j = -2) _ 4 _ g _ _ (by omega) (by omega) (fun W hW => by haveI := hW; exact ListOk.of (by simp) rfl)).mono ?_); rintro e45 w45 ⟨r45, rfl, hp45, h1, h2⟩; haveI := h1; haveI := h2; clear h1 h2) | ((fail_if_success (have _q := A46)); go_at_call 77; refine (suInt_any _ (XL _) _ (fun k hk => hk) (by unfold I64; omega)).mono ?_; rintro e46 w46 ⟨A46, c46, rfl, hs, hb⟩; haveI : Bel _ w46 := ⟨hb⟩; haveI := Tr.arg hs; clear hs hb))
        all_goals go_meet
        all_goals first
          | exact ⟨x35, A35, c35, inferInstance, Tr.lp (XL v7), hx35, kp _ _ _, Cur.le inferInstance (by omega)⟩
          | exact ⟨termP .nil r45 1, A46, c46, inferInstance, Tr.lp (XL v7), (termP_all (z := .nil) trivial (fok_small (by omega))).1, kp _ _ _, Cur.le inferInstance (by omega)⟩
          | exact ⟨.nil, none, 0, inferInstance, ⟨SSl.nil _ _⟩, trivial, kp _ _ _, Cur.le inferInstance (by omega)⟩
          | exact ⟨termP .nil n22 d22, A23, c23, inferInstance, Tr.lp (XL v7), (termP_all (z := .nil) trivial hf22.1).1, kp _ _ _, Cur.le inferInstance (by omega)⟩
      case rest =>
        rename World => wx
        obtain ⟨ex, Ae, ce, _, _, hae, _, hcx⟩ := hcut
        haveI := hcx
        haveI : Ro wx Ao v7 wx out co := Ro.lp
        go_wp2
        go_cut [10, 11] (fun s10 s11 wx' => ∃ (z : Sur) (ok : Bool) (g10 : Nat) (Az : Option Addr) (cz : Nat), s11 = .bool ok ∧ s10 = .pointer (some ⟨g10, 0, none⟩) ∧ Has wx' g10 (.cells #[.slice Az z.len cz] 26 (0, 0)) ∧ Ro wx' Az v7 wx' z cz ∧ z.All FOk ∧ z.len ≤ out.len + 1 ∧ Kp wx (XE g) wx' ∧ Cur wx' g (p0 + 27000 + K) ∧ GeB wx g10)
        case first =>
          refine wp_region_held_drew (S := (fun w' => w'.cell? ⟨g7, 0, none⟩ = some (.slice Ao out.len co) ∧ w'.cell? ⟨g9, 0, none⟩ = some (.slice Ae ex.len ce))) (by kernel_rfl) ?hSn1_ (fun hHeld => ?hRn1_)
          case hSn1_ => (exact ⟨has1, has1⟩)
          refine wpAnyH_take (i := 0) (v := ?vn1_1) rfl (by kernel_rfl) (by kernel_rfl) (by kernel_rfl) (fun _ _ _ h => h) (Or.inl ⟨by rfl, ?hyn1_1⟩) (by assumption) ?hRn1_1
          case hyn1_1 => (intro w hSw; (try dsimp only at hSw); go_simp; (try with_reducible rfl))
          try simp only [Act.put, zp1, zp2, zp3, zp4, zp5, zp6]
          refine wpAnyH_take (i := 1) (v := ?vn1_2) rfl (by kernel_rfl) (by kernel_rfl) (by kernel_rfl) (fun _ _ _ h => h) (Or.inl ⟨by rfl, ?hyn1_2⟩) (by assumption) ?hRn1_2
          case hyn1_2 => (intro w hSw; (try dsimp only at hSw); go_simp; (try with_reducible rfl))
          try simp only [Act.put, zp1, zp2, zp3, zp4, zp5, zp6]
          refine wpAnyH_take (i := 2) (v := ?vn1_3) rfl (by kernel_rfl) (by kernel_rfl) (by kernel_rfl) (fun _ _ _ h => h) (Or.inl ⟨by rfl, ?hyn1_3⟩) (by assumption) ?hRn1_3
          case hyn1_3 => (intro w hSw; (try dsimp only at hSw); go_simp; (try with_reducible rfl))
          try simp only [Act.put, zp1, zp2, zp3, zp4, zp5, zp6]
          refine wpAnyH_take (i := 3) (v := ?vn1_4) rfl (by kernel_rfl) (by kernel_rfl) (by kernel_rfl) (fun _ _ _ h => h) (Or.inl ⟨by rfl, ?hyn1_4⟩) (by assumption) ?hRn1_4
          case hyn1_4 => (intro w hSw; (try dsimp only at hSw); go_simp; (try with_reducible rfl))
          try simp only [Act.put, zp1, zp2, zp3, zp4, zp5, zp6]
          refine wpAnyH_ready (rs := [4, 10]) (by kernel_rfl) (by simp) ?_
          refine AllReadyH.cons rfl (fun K hK => ?bn1_5) (AllReadyH.cons rfl (fun K hK => ?bn1_6) (AllReadyH.nil))
          case' bn1_5 =>
            go_simp
            (((fail_if_success (have _q := n52)); go_at_call 117; refine (coef_any _ g _ _ (by omega)).mono ?_; rintro e52 w52 ⟨n52, d52, rfl, hf52, h1, h2⟩; haveI := h1; haveI := h2; clear h1 h2))
            go_wp2_with fail
            refine hK.out _ _ ?hSn1_7 (fun hHeld => ?hRn1_7)
            case hSn1_7 => ((try dsimp only); exact ⟨has1, has1⟩)
            clear hK K
            try simp only [Act.put, zp1, zp2, zp3, zp4, zp5, zp6]
            refine wpAnyH_take (i := 5) (v := ?vn1_8) rfl (by kernel_rfl) (by kernel_rfl) (by kernel_rfl) (fun _ _ _ h => h) (Or.inl ⟨by rfl, ?hyn1_8⟩) (by assumption) ?hRn1_8
            case hyn1_8 => (intro w hSw; (try dsimp only at hSw); go_simp; (try with_reducible rfl))
            try simp only [Act.put, zp1, zp2, zp3, zp4, zp5, zp6]
            refine wpAnyH_ready (rs := [6, 10]) (by kernel_rfl) (by simp) ?_
            refine AllReadyH.cons rfl (fun K hK => ?bn1_9) (AllReadyH.cons rfl (fun K hK => ?bn1_10) (AllReadyH.nil))
            case' bn1_9 =>
              go_simp
              ((go_at_call 71; refine (suPut_own out ex n52 d52 (XV wx (XL v7)) Ao Ae _ _ _ (trx (XV wx (XL v7)) _ Ao) (trx (XV wx (XL v7)) _ Ae) hao hae hf52.1 (by omega)).mono ?_; rintro e54 w54 ⟨A54, c54, xs54, rfl, hs, ht, hb⟩; haveI : Bel _ w54 := ⟨hb⟩; haveI := Own.of hs; haveI := Own.rg w54 (.slice A54 ((putP ex n52 d52 out).getD .nil).len c54); haveI := TR.of (X := XV wx (XL v7)) ht.unlow; clear hs ht hb))
              go_wp2_with fail
              refine hK.out _ _ ?hSn1_11 (fun hHeld => ?hRn1_11)
              case hSn1_11 => ((try dsimp only); exact ⟨has1, has1⟩)
              clear hK K
              try simp only [Act.put, zp1, zp2, zp3, zp4, zp5, zp6]
              refine wpAnyH_take (i := 7) (v := ?vn1_12) rfl (by kernel_rfl) (by kernel_rfl) (by kernel_rfl) (fun _ _ _ h => h) (Or.inl ⟨by rfl, ?hyn1_12⟩) (by assumption) ?hRn1_12
              case hyn1_12 => (intro w hSw; (try dsimp only at hSw); go_simp; (try with_reducible rfl))
              try simp only [Act.put, zp1, zp2, zp3, zp4, zp5, zp6]
              refine wpAnyH_take (i := 8) (v := ?vn1_13) rfl (by kernel_rfl) (by kernel_rfl) (by kernel_rfl) (fun _ _ _ h => h) (Or.inl ⟨by rfl, ?hyn1_13⟩) (by assumption) ?hRn1_13
              case hyn1_13 => (intro w hSw; (try dsimp only at hSw); go_simp; (try with_reducible rfl))
              try simp only [Act.put, zp1, zp2, zp3, zp4, zp5, zp6]
              refine wpAnyH_take (i := 9) (v := ?vn1_14) rfl (by kernel_rfl) (by kernel_rfl) (by kernel_rfl) (fun _ _ _ h => h) (Or.inl ⟨by rfl, ?hyn1_14⟩) (by assumption) ?hRn1_14
              case hyn1_14 => (intro w hSw; (try dsimp only at hSw); go_simp; (try with_reducible rfl))
              try simp only [Act.put, zp1, zp2, zp3, zp4, zp5, zp6]
              refine wpAnyH_ready (rs := [10]) (by kernel_rfl) (by simp) ?_
              refine AllReadyH.cons rfl (fun K hK => ?_) AllReadyH.nil
              go_simp
              refine hK.out _ _ ?hSn1_15 (fun hHeld => ?hRn1_15)
              case hSn1_15 => ((try dsimp only); exact ⟨has1, has1⟩)
              clear hK K
              try simp only [Act.put, zp1, zp2, zp3, zp4, zp5, zp6]
              refine wpAnyH_ready (rs := [11]) (by kernel_rfl) (by simp) ?_
              refine AllReadyH.cons rfl (fun K hK => ?_) AllReadyH.nil
              go_simp
              refine hK.out _ _ ?hSn1_16 (fun hHeld => ?hRn1_16)
              case hSn1_16 => ((try dsimp only); exact ⟨has1, has1⟩)
              clear hK K
              try simp only [Act.put, zp1, zp2, zp3, zp4, zp5, zp6]
              refine wpAnyH_take (i := 12) (v := ?vn1_17) rfl (by kernel_rfl) (by kernel_rfl) (by kernel_rfl) (fun _ _ _ h => h) (Or.inl ⟨by rfl, ?hyn1_17⟩) (by assumption) ?hRn1_17
              case hyn1_17 => (intro w hSw; (try dsimp only at hSw); go_simp; (try with_reducible rfl))
              try simp only [Act.put, zp1, zp2, zp3, zp4, zp5, zp6]
              refine wpAnyH_done (by kernel_rfl) ?_ _
            case' bn1_10 =>
              go_simp
              refine hK.out _ _ ?hSn1_18 (fun hHeld => ?hRn1_18)
              case hSn1_18 => ((try dsimp only); exact ⟨has1, has1⟩)
              clear hK K
              try simp only [Act.put, zp1, zp2, zp3, zp4, zp5, zp6]
              refine wpAnyH_ready (rs := [6]) (by kernel_rfl) (by simp) ?_
              refine AllReadyH.cons rfl (fun K hK => ?_) AllReadyH.nil
              go_simp
              ((go_at_call 71; refine (suPut_own out ex n52 d52 (XV wx (XL v7)) Ao Ae _ _ _ (trx (XV wx (XL v7)) _ Ao) (trx (XV wx (XL v7)) _ Ae) hao hae hf52.1 (by omega)).mono ?_; rintro e54 w54 ⟨A54, c54, xs54, rfl, hs, ht, hb⟩; haveI : Bel _ w54 := ⟨hb⟩; haveI := Own.of hs; haveI := Own.rg w54 (.slice A54 ((putP ex n52 d52 out).getD .nil).len c54); haveI := TR.of (X := XV wx (XL v7)) ht.unlow; clear hs ht hb))
              go_wp2_with fail
              refine hK.out _ _ ?hSn1_19 (fun hHeld => ?hRn1_19)
              case hSn1_19 => ((try dsimp only); exact ⟨has1, has1⟩)
              clear hK K
              try simp only [Act.put, zp1, zp2, zp3, zp4, zp5, zp6]
              refine wpAnyH_take (i := 7) (v := ?vn1_20) rfl (by kernel_rfl) (by kernel_rfl) (by kernel_rfl) (fun _ _ _ h => h) (Or.inl ⟨by rfl, ?hyn1_20⟩) (by assumption) ?hRn1_20
              case hyn1_20 => (intro w hSw; (try dsimp only at hSw); go_simp; (try with_reducible rfl))
              try simp only [Act.put, zp1, zp2, zp3, zp4, zp5, zp6]
              refine wpAnyH_take (i := 8) (v := ?vn1_21) rfl (by kernel_rfl) (by kernel_rfl) (by kernel_rfl) (fun _ _ _ h => h) (Or.inl ⟨by rfl, ?hyn1_21⟩) (by assumption) ?hRn1_21
              case hyn1_21 => (intro w hSw; (try dsimp only at hSw); go_simp; (try with_reducible rfl))
              try simp only [Act.put, zp1, zp2, zp3, zp4, zp5, zp6]
              refine wpAnyH_take (i := 9) (v := ?vn1_22) rfl (by kernel_rfl) (by kernel_rfl) (by kernel_rfl) (fun _ _ _ h => h) (Or.inl ⟨by rfl, ?hyn1_22⟩) (by assumption) ?hRn1_22
              case hyn1_22 => (intro w hSw; (try dsimp only at hSw); go_simp; (try with_reducible rfl))
              try simp only [Act.put, zp1, zp2, zp3, zp4, zp5, zp6]
              refine wpAnyH_ready (rs := [11]) (by kernel_rfl) (by simp) ?_
              refine AllReadyH.cons rfl (fun K hK => ?_) AllReadyH.nil
              go_simp
              refine hK.out _ _ ?hSn1_23 (fun hHeld => ?hRn1_23)
              case hSn1_23 => ((try dsimp only); exact ⟨has1, has1⟩)
              clear hK K
              try simp only [Act.put, zp1, zp2, zp3, zp4, zp5, zp6]
              refine wpAnyH_take (i := 12) (v := ?vn1_24) rfl (by kernel_rfl) (by kernel_rfl) (by kernel_rfl) (fun _ _ _ h => h) (Or.inl ⟨by rfl, ?hyn1_24⟩) (by assumption) ?hRn1_24
              case hyn1_24 => (intro w hSw; (try dsimp only at hSw); go_simp; (try with_reducible rfl))
              try simp only [Act.put, zp1, zp2, zp3, zp4, zp5, zp6]
              refine wpAnyH_done (by kernel_rfl) ?_ _
          case' bn1_6 =>
            go_simp
            refine hK.out _ _ ?hSn1_25 (fun hHeld => ?hRn1_25)
            case hSn1_25 => ((try dsimp only); exact ⟨has1, has1⟩)
            clear hK K
            try simp only [Act.put, zp1, zp2, zp3, zp4, zp5, zp6]
            refine wpAnyH_ready (rs := [4]) (by kernel_rfl) (by simp) ?_
            refine AllReadyH.cons rfl (fun K hK => ?_) AllReadyH.nil
            go_simp
            (((fail_if_success (have _q := n52)); go_at_call 117; refine (coef_any _ g _ _ (by omega)).mono ?_; rintro e52 w52 ⟨n52, d52, rfl, hf52, h1, h2⟩; haveI := h1; haveI := h2; clear h1 h2))
            go_wp2_with fail
            refine hK.out _ _ ?hSn1_26 (fun hHeld => ?hRn1_26)
            case hSn1_26 => ((try dsimp only); exact ⟨has1, has1⟩)
            clear hK K
            try simp only [Act.put, zp1, zp2, zp3, zp4, zp5, zp6]
            refine wpAnyH_take (i := 5) (v := ?vn1_27) rfl (by kernel_rfl) (by kernel_rfl) (by kernel_rfl) (fun _ _ _ h => h) (Or.inl ⟨by rfl, ?hyn1_27⟩) (by assumption) ?hRn1_27
            case hyn1_27 => (intro w hSw; (try dsimp only at hSw); go_simp; (try with_reducible rfl))
            try simp only [Act.put, zp1, zp2, zp3, zp4, zp5, zp6]
            refine wpAnyH_ready (rs := [6]) (by kernel_rfl) (by simp) ?_
            refine AllReadyH.cons rfl (fun K hK => ?_) AllReadyH.nil
            go_simp
            ((go_at_call 71; refine (suPut_own out ex n52 d52 (XV wx (XL v7)) Ao Ae _ _ _ (trx (XV wx (XL v7)) _ Ao) (trx (XV wx (XL v7)) _ Ae) hao hae hf52.1 (by omega)).mono ?_; rintro e54 w54 ⟨A54, c54, xs54, rfl, hs, ht, hb⟩; haveI : Bel _ w54 := ⟨hb⟩; haveI := Own.of hs; haveI := Own.rg w54 (.slice A54 ((putP ex n52 d52 out).getD .nil).len c54); haveI := TR.of (X := XV wx (XL v7)) ht.unlow; clear hs ht hb))
            go_wp2_with fail
            refine hK.out _ _ ?hSn1_28 (fun hHeld => ?hRn1_28)
            case hSn1_28 => ((try dsimp only); exact ⟨has1, has1⟩)
            clear hK K
            try simp only [Act.put, zp1, zp2, zp3, zp4, zp5, zp6]
            refine wpAnyH_take (i := 7) (v := ?vn1_29) rfl (by kernel_rfl) (by kernel_rfl) (by kernel_rfl) (fun _ _ _ h => h) (Or.inl ⟨by rfl, ?hyn1_29⟩) (by assumption) ?hRn1_29
            case hyn1_29 => (intro w hSw; (try dsimp only at hSw); go_simp; (try with_reducible rfl))
            try simp only [Act.put, zp1, zp2, zp3, zp4, zp5, zp6]
            refine wpAnyH_take (i := 8) (v := ?vn1_30) rfl (by kernel_rfl) (by kernel_rfl) (by kernel_rfl) (fun _ _ _ h => h) (Or.inl ⟨by rfl, ?hyn1_30⟩) (by assumption) ?hRn1_30
            case hyn1_30 => (intro w hSw; (try dsimp only at hSw); go_simp; (try with_reducible rfl))
            try simp only [Act.put, zp1, zp2, zp3, zp4, zp5, zp6]
            refine wpAnyH_take (i := 9) (v := ?vn1_31) rfl (by kernel_rfl) (by kernel_rfl) (by kernel_rfl) (fun _ _ _ h => h) (Or.inl ⟨by rfl, ?hyn1_31⟩) (by assumption) ?hRn1_31
            case hyn1_31 => (intro w hSw; (try dsimp only at hSw); go_simp; (try with_reducible rfl))
            try simp only [Act.put, zp1, zp2, zp3, zp4, zp5, zp6]
            refine wpAnyH_ready (rs := [11]) (by kernel_rfl) (by simp) ?_
            refine AllReadyH.cons rfl (fun K hK => ?_) AllReadyH.nil
            go_simp
            refine hK.out _ _ ?hSn1_32 (fun hHeld => ?hRn1_32)
            case hSn1_32 => ((try dsimp only); exact ⟨has1, has1⟩)
            clear hK K
            try simp only [Act.put, zp1, zp2, zp3, zp4, zp5, zp6]
            refine wpAnyH_take (i := 12) (v := ?vn1_33) rfl (by kernel_rfl) (by kernel_rfl) (by kernel_rfl) (fun _ _ _ h => h) (Or.inl ⟨by rfl, ?hyn1_33⟩) (by assumption) ?hRn1_33
            case hyn1_33 => (intro w hSw; (try dsimp only at hSw); go_simp; (try with_reducible rfl))
            try simp only [Act.put, zp1, zp2, zp3, zp4, zp5, zp6]
            refine wpAnyH_done (by kernel_rfl) ?_ _
          all_goals
            go_wp2
            go_meet
            have hz : ((putP ex n52 d52 out).getD .nil).All FOk ∧ ((putP ex n52 d52 out).getD .nil).len ≤ out.len + 1 := by
              rcases hq : putP ex n52 d52 out with _ | z
              · exact ⟨trivial, by simp [Sur.len]⟩
              · exact putP_all hae hf52.1 hao hq
            exact ⟨_, _, _, A54, c54, rfl, rfl, inferInstance, Ro.made v7 wx, hz.1, hz.2, kp _ _ _, Cur.le inferInstance (by omega), inferInstance⟩
        case rest =>
          rename World => wy
          obtain ⟨z, ok, g10, Az, cz, rfl, rfl, _, _, haz, hlz, _, hcy, _⟩ := hcut
          haveI := hcy
          cases ok
          · go_wp2
            exact ⟨⟨m - 1, out, Ao, co, by go_num, by omega, hao, inferInstance, Ro.lp, kp _ _ _, Cur.le inferInstance (by omega)⟩, by simp [intOf]; omega⟩
          · go_wp2
            exact ⟨⟨m - 1, z, Az, cz, by go_num, by omega, haz, inferInstance, Ro.lp, kp _ _ _, Cur.le inferInstance (by omega)⟩, by simp [intOf]; omega⟩

/-- the places that a drawn number takes at most -/
def cS : Nat → Int
  | 0 => 100000
  | d + 1 => 100000 + 4 * cS d
theorem cS_pos : ∀ d, 0 ≤ cS d
  | 0 => by simp [cS]
  | d + 1 => by have := cS_pos d; simp only [cS]; omega
theorem surreal_any (dp : Nat) (hdp : dp ≤ 100) : ∀ (q : Int) (b : Bool) (g : Nat) (k : Int) (w : World) [hc : Cur w g k], q = dp → k + cS dp ≤ 70368744177664 →
    Calls Tryz.prog 74 #[.pointer (some ⟨g, 0, none⟩), .int .i64 q, .bool b] w fun e w' => ∃ (x : Sur) (A : Option Addr) (c : Nat), e = .returned (.agg #[.slice A x.len c]) ∧ Ro w' A w w' x c ∧ x.All FOk ∧ x.len ≤ 3 ∧ Drew w g (k + cS dp) w' := by
  induction dp with
  | zero =>
    rintro q b g k w hc rfl hk
    exact surreal_step 0 hdp 0 (by omega) (fun dq h => by omega) b g k w (by simp only [cS] at hk; omega)
  | succ dp ih =>
    rintro q b g k w hc rfl hk
    have hp := cS_pos dp
    exact surreal_step (dp + 1) hdp (cS dp) hp (fun dq h => by cases h; exact ih (by omega)) b g k w (by simp only [cS] at hk; omega)
end Go.Proofs.YtonlfnbjbmgegaaGreat
