/-
  The value of a word of signs: the walk among the numbers.
-/
import Derived.Test.YtdcnmaklnciofaaLZD
import Derived.Test.YtdcnmaklnciofaaSAlgFn
namespace Go.Proofs.Ytdcnmaklnciofaa
open Go.RowKit
set_option linter.unusedSimpArgs false
set_option linter.unusedVariables false

/-- bounds below which sums and products of fractions fit -/
def WB (n d : Int) : Prop := -1073741824 ≤ n ∧ n ≤ 1073741824 ∧ 1 ≤ d ∧ d ≤ 1073741824
theorem mul_bd30 {a b : Int} (ha : -1073741824 ≤ a ∧ a ≤ 1073741824) (hb : -1073741824 ≤ b ∧ b ≤ 1073741824) : -1152921504606846976 ≤ a * b ∧ a * b ≤ 1152921504606846976 := by
  have h : (a * b).natAbs ≤ 1073741824 * 1073741824 := by
    rw [Int.natAbs_mul]
    exact Nat.mul_le_mul (by omega) (by omega)
  omega
theorem FOk.wb {n d : Int} (h : FOk n d) : WB n d := by have := fracOk_iff.1 h; unfold WB; omega

set_option maxHeartbeats 400000 in
theorem shAdd_wide (n d n' d' : Int) (h : WB n d) (h' : WB n' d') (w : World) :
    Calls Try.prog 126 #[.agg #[.int .i64 n, .int .i64 d], .agg #[.int .i64 n', .int .i64 d']] w fun e w' => e = .returned (.agg #[.int .i64 (adN n d n' d'), .int .i64 (adD n d n' d')]) ∧ Below w.heap.size w w' := by
  unfold WB at h h'
  have hne := mul_ne0 h.2.2.1 h'.2.2.1
  have bnd1 := mul_bd30 (a := n) (b := d') (by omega) (by omega)
  have wnd1 : IntKind.i64.wrap (n * d') = n * d' := IntWalk.i64_in _ (by omega)
  have bn1d := mul_bd30 (a := n') (b := d) (by omega) (by omega)
  have wn1d : IntKind.i64.wrap (n' * d) = n' * d := IntWalk.i64_in _ (by omega)
  have bdd1 := mul_bd30 (a := d) (b := d') (by omega) (by omega)
  have wdd1 : IntKind.i64.wrap (d * d') = d * d' := IntWalk.i64_in _ (by omega)
  have s1 : IntKind.i64.wrap (n * d' + n' * d) = n * d' + n' * d := IntWalk.i64_in _ (by omega)
  have HNE := Lib.hid hne
  clear hne
  have k0 := (((Blk.new w 34 #[.int .i64 n, .int .i64 d]).alloc (.cells #[.int .i64 n', .int .i64 d'] 34)).alloc (.cells #[.int .i64 0, .int .i64 0] 34))
  have k1 := ((Blk.new' (g := w.heap.size + 1) (w.alloc (.cells #[.int .i64 n, .int .i64 d] 34)) 34 #[.int .i64 n', .int .i64 d'] (by simp)).alloc (.cells #[.int .i64 0, .int .i64 0] 34))
  have k2 := (Blk.new' (g := w.heap.size + 1 + 1) ((w.alloc (.cells #[.int .i64 n, .int .i64 d] 34)).alloc (.cells #[.int .i64 n', .int .i64 d'] 34)) 34 #[.int .i64 0, .int .i64 0] (by simp))
  have hB0 : Below w.heap.size w (((w.alloc (.cells #[.int .i64 n, .int .i64 d] 34)).alloc (.cells #[.int .i64 n', .int .i64 d'] 34)).alloc (.cells #[.int .i64 0, .int .i64 0] 34)) := by go_grown
  go_enter Try.func126, Try.ntmps126
  go_wp2_with fail
  refine (shMake_any _ _ (by omega) (by omega) HNE.out _).mono ?_
  rintro e1 w1 ⟨rfl, hb1⟩
  have hB1 := Below.call hB0 (by go_size) hb1
  obtain ⟨q0, q1, _, _⟩ := (k2.call hb1).c2
  go_wp2
  refine bodyPost_ret (v := .agg #[.int .i64 (adN n d n' d'), .int .i64 (adD n d n' d')]) (by simp [results, Try.results126, go_sem, q0, q1, adN, adD]) rfl ?_
  exact ⟨rfl, by go_grown⟩

set_option maxHeartbeats 400000 in
theorem shMul_wide (n d n' d' : Int) (h : WB n d) (h' : WB n' d') (w : World) :
    Calls Try.prog 134 #[.agg #[.int .i64 n, .int .i64 d], .agg #[.int .i64 n', .int .i64 d']] w fun e w' => e = .returned (.agg #[.int .i64 (muN n d n' d'), .int .i64 (muD n d n' d')]) ∧ Below w.heap.size w w' := by
  unfold WB at h h'
  have hne := mul_ne0 h.2.2.1 h'.2.2.1
  have bnd1 := mul_bd30 (a := n) (b := n') (by omega) (by omega)
  have wnd1 : IntKind.i64.wrap (n * n') = n * n' := IntWalk.i64_in _ (by omega)
  have bdd1 := mul_bd30 (a := d) (b := d') (by omega) (by omega)
  have wdd1 : IntKind.i64.wrap (d * d') = d * d' := IntWalk.i64_in _ (by omega)
  have HNE := Lib.hid hne
  clear hne
  have k0 := (((Blk.new w 34 #[.int .i64 n, .int .i64 d]).alloc (.cells #[.int .i64 n', .int .i64 d'] 34)).alloc (.cells #[.int .i64 0, .int .i64 0] 34))
  have k1 := ((Blk.new' (g := w.heap.size + 1) (w.alloc (.cells #[.int .i64 n, .int .i64 d] 34)) 34 #[.int .i64 n', .int .i64 d'] (by simp)).alloc (.cells #[.int .i64 0, .int .i64 0] 34))
  have k2 := (Blk.new' (g := w.heap.size + 1 + 1) ((w.alloc (.cells #[.int .i64 n, .int .i64 d] 34)).alloc (.cells #[.int .i64 n', .int .i64 d'] 34)) 34 #[.int .i64 0, .int .i64 0] (by simp))
  have hB0 : Below w.heap.size w (((w.alloc (.cells #[.int .i64 n, .int .i64 d] 34)).alloc (.cells #[.int .i64 n', .int .i64 d'] 34)).alloc (.cells #[.int .i64 0, .int .i64 0] 34)) := by go_grown
  go_enter Try.func134, Try.ntmps134
  go_wp2_with fail
  refine (shMake_any _ _ (by omega) (by omega) HNE.out _).mono ?_
  rintro e1 w1 ⟨rfl, hb1⟩
  have hB1 := Below.call hB0 (by go_size) hb1
  obtain ⟨q0, q1, _, _⟩ := (k2.call hb1).c2
  go_wp2
  refine bodyPost_ret (v := .agg #[.int .i64 (muN n d n' d'), .int .i64 (muD n d n' d')]) (by simp [results, Try.results134, go_sem, q0, q1, muN, muD]) rfl ?_
  exact ⟨rfl, by go_grown⟩

/-- a walk -/
structure Wk where
  (an ad ln ld hn hd : Int)
  (bl bh : Bool)
def Wk.cells (s : Wk) : Array Value := #[.int .i64 s.an, .int .i64 s.ad, .int .i64 s.ln, .int .i64 s.ld, .int .i64 s.hn, .int .i64 s.hd, .bool s.bl, .bool s.bh]
def turnP (p : Bool) (s : Wk) : Wk := if p = true then { s with ln := s.an, ld := s.ad, bl := true } else { s with hn := s.an, hd := s.ad, bh := true }
def goP (p : Bool) (s : Wk) : Wk :=
  if s.bl = true ∧ s.bh = true then { s with an := muN (adN s.ln s.ld s.hn s.hd) (adD s.ln s.ld s.hn s.hd) 1 2, ad := muD (adN s.ln s.ld s.hn s.hd) (adD s.ln s.ld s.hn s.hd) 1 2 }
  else if p = true then { s with an := adN s.an s.ad 1 1, ad := adD s.an s.ad 1 1 }
  else { s with an := adN s.an s.ad (-1) 1, ad := adD s.an s.ad (-1) 1 }
def stepP (p : Bool) (s : Wk) : Wk := goP p (turnP p s)

attribute [local go_sem high] has_cell has_frozen
instance (priority := low) Has.anyset {W : World} {g i : Nat} {u : Value} {cs : Array Value} {t : TypeId} [b : Has W g (.cells cs t (0, 0))] : Has (W.setCell ⟨g, i, none⟩ u) g (.cells (cs.setIfInBounds i u) t (0, 0)) := ⟨Has.put⟩
theorem wb1 : WB 1 1 := by simp [WB]
theorem wbm : WB (-1) 1 := by simp [WB]
set_option maxHeartbeats 1600000 in
set_option maxRecDepth 100000 in
theorem step_any (p : Bool) (an ad ln ld hn hd : Int) (bl bh : Bool) (w : World) (ha : WB an ad) (hl : bl = true → WB ln ld) (hh : bh = true → WB hn hd)
    (hm1 : p = true → bh = true → WB (adN an ad hn hd) (adD an ad hn hd)) (hm2 : p = false → bl = true → WB (adN ln ld an ad) (adD ln ld an ad)) :
    Calls Try.prog 130 #[.agg (Wk.cells ⟨an, ad, ln, ld, hn, hd, bl, bh⟩), .bool p] w fun e w' => e = .returned (.agg (stepP p ⟨an, ad, ln, ld, hn, hd, bl, bh⟩).cells) ∧ Below w.heap.size w w' := by
  unfold Wk.cells
  dsimp only
  cases p
  · clear hm1
    cases bl
    · go_enter Try.func130, Try.ntmps130
      go_wp2_with (first | ((with_reducible refine at_dst (N := 2) rfl ?_); refine ev_box (cs := #[.int .i64 an, .int .i64 ad, .int .i64 ln, .int .i64 ld, .int .i64 hn, .int .i64 hd, .bool false, .bool bh]) (t := 121) rfl ?hr2 ?_; (case hr2 => first | (go_simp; done) | (go_simp; rfl)); intro g2 v2 _ _ _ _) | ((with_reducible refine at_dst (N := 4) rfl ?_); refine ev_box (cs := #[.int .i64 0, .int .i64 0, .int .i64 0, .int .i64 0, .int .i64 0, .int .i64 0, .bool false, .bool false]) (t := 121) rfl ?hr4 ?_; (case hr4 => first | (go_simp; done) | (go_simp; rfl)); intro g4 v4 _ _ _ _) | ((with_reducible refine at_dst (N := 5) rfl ?_); refine ev_box (cs := #[.int .i64 0, .int .i64 0]) (t := 34) rfl ?hr5 ?_; (case hr5 => first | (go_simp; done) | (go_simp; rfl)); intro g5 v5 _ _ _ _))
      refine wp_region_held_drew (S := (fun _ => True)) (by kernel_rfl) ?hSn1_ (fun hHeld => ?hRn1_)
      case hSn1_ => (all_goals exact trivial)
      refine wpAnyH_take (i := 0) (oi := _) (v := ?vn1_1) rfl (by kernel_rfl) (by kernel_rfl) (by kernel_rfl) (fun _ _ _ h => h) (Or.inl ⟨by rfl, ?hyn1_1⟩) (by assumption) ?hRn1_1
      case hyn1_1 => (intro w hSw; (try dsimp only at hSw); go_simp; (try with_reducible rfl))
      try simp only [Act.put, List.getElem_toArray, List.getElem_cons_zero, List.getElem_cons_succ, List.setIfInBounds_toArray, List.set_cons_zero, List.set_cons_succ]
      refine wpAnyH_ready (rs := [1, 2]) (by kernel_rfl) (by simp) ?_
      refine AllReadyH.cons (o := _) rfl (fun K hK => ?bn1_2) (AllReadyH.cons (o := _) rfl (fun K hK => ?bn1_3) (AllReadyH.nil))
      case' bn1_2 =>
        go_simp
        refine hK.out _ _ ?hSn1_4 (fun hHeld => ?hRn1_4)
        case hSn1_4 => ((try dsimp only); all_goals exact trivial)
        clear hK K
        try simp only [Act.put, List.getElem_toArray, List.getElem_cons_zero, List.getElem_cons_succ, List.setIfInBounds_toArray, List.set_cons_zero, List.set_cons_succ]
        refine wpAnyH_ready (rs := [2]) (by kernel_rfl) (by simp) ?_
        refine AllReadyH.cons (o := _) rfl (fun K hK => ?_) AllReadyH.nil
        go_simp
        ((go_at_call 92; refine (shInt_any _ _).mono ?_; rintro e w40 ⟨rfl, hb⟩; haveI : Bel _ w40 := ⟨hb⟩; clear hb))
        go_wp2_with fail
        refine hK.out _ _ ?hSn1_5 (fun hHeld => ?hRn1_5)
        case hSn1_5 => ((try dsimp only); all_goals exact trivial)
        clear hK K
        try simp only [Act.put, List.getElem_toArray, List.getElem_cons_zero, List.getElem_cons_succ, List.setIfInBounds_toArray, List.set_cons_zero, List.set_cons_succ]
        refine wpAnyH_ready (rs := [3]) (by kernel_rfl) (by simp) ?_
        refine AllReadyH.cons (o := _) rfl (fun K hK => ?_) AllReadyH.nil
        go_simp
        ((go_at_call 126; refine (shAdd_wide _ _ _ _ ha wbm _).mono ?_; rintro e w41 ⟨rfl, hb⟩; haveI : Bel _ w41 := ⟨hb⟩; clear hb))
        go_wp2_with fail
        refine hK.out _ _ ?hSn1_6 (fun hHeld => ?hRn1_6)
        case hSn1_6 => ((try dsimp only); all_goals exact trivial)
        clear hK K
        try simp only [Act.put, List.getElem_toArray, List.getElem_cons_zero, List.getElem_cons_succ, List.setIfInBounds_toArray, List.set_cons_zero, List.set_cons_succ]
        refine wpAnyH_take (i := 4) (oi := _) (v := ?vn1_7) rfl (by kernel_rfl) (by kernel_rfl) (by kernel_rfl) (fun _ _ _ h => h) (Or.inl ⟨by rfl, ?hyn1_7⟩) (by assumption) ?hRn1_7
        case hyn1_7 => (intro w hSw; (try dsimp only at hSw); go_simp; (try with_reducible rfl))
        try simp only [Act.put, List.getElem_toArray, List.getElem_cons_zero, List.getElem_cons_succ, List.setIfInBounds_toArray, List.set_cons_zero, List.set_cons_succ]
        refine wpAnyH_ready (rs := [5]) (by kernel_rfl) (by simp) ?_
        refine AllReadyH.cons (o := _) rfl (fun K hK => ?_) AllReadyH.nil
        go_simp
        refine hK.out _ _ ?hSn1_8 (fun hHeld => ?hRn1_8)
        case hSn1_8 => ((try dsimp only); all_goals exact trivial)
        clear hK K
        try simp only [Act.put, List.getElem_toArray, List.getElem_cons_zero, List.getElem_cons_succ, List.setIfInBounds_toArray, List.set_cons_zero, List.set_cons_succ]
        refine wpAnyH_done (by kernel_rfl) ?_ _
      case' bn1_3 =>
        go_simp
        ((go_at_call 92; refine (shInt_any _ _).mono ?_; rintro e w40 ⟨rfl, hb⟩; haveI : Bel _ w40 := ⟨hb⟩; clear hb))
        go_wp2_with fail
        refine hK.out _ _ ?hSn1_9 (fun hHeld => ?hRn1_9)
        case hSn1_9 => ((try dsimp only); all_goals exact trivial)
        clear hK K
        try simp only [Act.put, List.getElem_toArray, List.getElem_cons_zero, List.getElem_cons_succ, List.setIfInBounds_toArray, List.set_cons_zero, List.set_cons_succ]
        refine wpAnyH_ready (rs := [1]) (by kernel_rfl) (by simp) ?_
        refine AllReadyH.cons (o := _) rfl (fun K hK => ?_) AllReadyH.nil
        go_simp
        refine hK.out _ _ ?hSn1_10 (fun hHeld => ?hRn1_10)
        case hSn1_10 => ((try dsimp only); all_goals exact trivial)
        clear hK K
        try simp only [Act.put, List.getElem_toArray, List.getElem_cons_zero, List.getElem_cons_succ, List.setIfInBounds_toArray, List.set_cons_zero, List.set_cons_succ]
        refine wpAnyH_ready (rs := [3]) (by kernel_rfl) (by simp) ?_
        refine AllReadyH.cons (o := _) rfl (fun K hK => ?_) AllReadyH.nil
        go_simp
        ((go_at_call 126; refine (shAdd_wide _ _ _ _ ha wbm _).mono ?_; rintro e w41 ⟨rfl, hb⟩; haveI : Bel _ w41 := ⟨hb⟩; clear hb))
        go_wp2_with fail
        refine hK.out _ _ ?hSn1_11 (fun hHeld => ?hRn1_11)
        case hSn1_11 => ((try dsimp only); all_goals exact trivial)
        clear hK K
        try simp only [Act.put, List.getElem_toArray, List.getElem_cons_zero, List.getElem_cons_succ, List.setIfInBounds_toArray, List.set_cons_zero, List.set_cons_succ]
        refine wpAnyH_take (i := 4) (oi := _) (v := ?vn1_12) rfl (by kernel_rfl) (by kernel_rfl) (by kernel_rfl) (fun _ _ _ h => h) (Or.inl ⟨by rfl, ?hyn1_12⟩) (by assumption) ?hRn1_12
        case hyn1_12 => (intro w hSw; (try dsimp only at hSw); go_simp; (try with_reducible rfl))
        try simp only [Act.put, List.getElem_toArray, List.getElem_cons_zero, List.getElem_cons_succ, List.setIfInBounds_toArray, List.set_cons_zero, List.set_cons_succ]
        refine wpAnyH_ready (rs := [5]) (by kernel_rfl) (by simp) ?_
        refine AllReadyH.cons (o := _) rfl (fun K hK => ?_) AllReadyH.nil
        go_simp
        refine hK.out _ _ ?hSn1_13 (fun hHeld => ?hRn1_13)
        case hSn1_13 => ((try dsimp only); all_goals exact trivial)
        clear hK K
        try simp only [Act.put, List.getElem_toArray, List.getElem_cons_zero, List.getElem_cons_succ, List.setIfInBounds_toArray, List.set_cons_zero, List.set_cons_succ]
        refine wpAnyH_done (by kernel_rfl) ?_ _
      all_goals
        go_wp2
        refine bodyPost_ret (v := .agg (stepP false ⟨an, ad, ln, ld, hn, hd, false, bh⟩).cells) (by simp [results, Try.results130, go_sem, stepP, goP, turnP, Wk.cells]) rfl ?_
        exact ⟨rfl, ext _ _⟩
    · go_enter Try.func130, Try.ntmps130
      have hX := hm2 rfl rfl
      have hL := hl rfl
      have hM := ha
      go_wp2_with (first | ((with_reducible refine at_dst (N := 2) rfl ?_); refine ev_box (cs := #[.int .i64 an, .int .i64 ad, .int .i64 ln, .int .i64 ld, .int .i64 hn, .int .i64 hd, .bool true, .bool bh]) (t := 121) rfl ?hr2 ?_; (case hr2 => first | (go_simp; done) | (go_simp; rfl)); intro g2 v2 _ _ _ _) | ((with_reducible refine at_dst (N := 4) rfl ?_); refine ev_box (cs := #[.int .i64 0, .int .i64 0, .int .i64 0, .int .i64 0, .int .i64 0, .int .i64 0, .bool false, .bool false]) (t := 121) rfl ?hr4 ?_; (case hr4 => first | (go_simp; done) | (go_simp; rfl)); intro g4 v4 _ _ _ _) | ((with_reducible refine at_dst (N := 5) rfl ?_); refine ev_box (cs := #[.int .i64 0, .int .i64 0]) (t := 34) rfl ?hr5 ?_; (case hr5 => first | (go_simp; done) | (go_simp; rfl)); intro g5 v5 _ _ _ _))
      refine wp_region_held_drew (S := (fun w' => w'.cell? ⟨g2, 2, none⟩ = some (.int .i64 (ln, ld).1) ∧ w'.cell? ⟨g2, 3, none⟩ = some (.int .i64 (ln, ld).2) ∧ w'.cell? ⟨g2, 4, none⟩ = some (.int .i64 (an, ad).1) ∧ w'.cell? ⟨g2, 5, none⟩ = some (.int .i64 (an, ad).2) ∧ w'.cell? ⟨g5, 0, none⟩ = some (.int .i64 1) ∧ w'.cell? ⟨g5, 1, none⟩ = some (.int .i64 2))) (by kernel_rfl) ?hSn2_ (fun hHeld => ?hRn2_)
      case hSn2_ => (refine ⟨?_, ?_, ?_, ?_, ?_, ?_⟩ <;> exact has_cell.trans rfl)
      refine wpAnyH_take (i := 0) (oi := _) (v := ?vn2_1) rfl (by kernel_rfl) (by kernel_rfl) (by kernel_rfl) (fun _ _ _ h => h) (Or.inl ⟨by rfl, ?hyn2_1⟩) (by assumption) ?hRn2_1
      case hyn2_1 => (intro w hSw; (try dsimp only at hSw); go_simp; (try with_reducible rfl))
      try simp only [Act.put, List.getElem_toArray, List.getElem_cons_zero, List.getElem_cons_succ, List.setIfInBounds_toArray, List.set_cons_zero, List.set_cons_succ]
      refine wpAnyH_take (i := 1) (oi := _) (v := ?vn2_2) rfl (by kernel_rfl) (by kernel_rfl) (by kernel_rfl) (fun _ _ _ h => h) (Or.inl ⟨by rfl, ?hyn2_2⟩) (by assumption) ?hRn2_2
      case hyn2_2 => (intro w hSw; (try dsimp only at hSw); go_simp; (try with_reducible rfl))
      try simp only [Act.put, List.getElem_toArray, List.getElem_cons_zero, List.getElem_cons_succ, List.setIfInBounds_toArray, List.set_cons_zero, List.set_cons_succ]
      refine wpAnyH_take (i := 2) (oi := _) (v := ?vn2_3) rfl (by kernel_rfl) (by kernel_rfl) (by kernel_rfl) (fun _ _ _ h => h) (Or.inl ⟨by rfl, ?hyn2_3⟩) (by assumption) ?hRn2_3
      case hyn2_3 => (intro w hSw; (try dsimp only at hSw); go_simp; (try with_reducible rfl))
      try simp only [Act.put, List.getElem_toArray, List.getElem_cons_zero, List.getElem_cons_succ, List.setIfInBounds_toArray, List.set_cons_zero, List.set_cons_succ]
      refine wpAnyH_take (i := 3) (oi := _) (v := ?vn2_4) rfl (by kernel_rfl) (by kernel_rfl) (by kernel_rfl) (fun _ _ _ h => h) (Or.inl ⟨by rfl, ?hyn2_4⟩) (by assumption) ?hRn2_4
      case hyn2_4 => (intro w hSw; (try dsimp only at hSw); go_simp; (try with_reducible rfl))
      try simp only [Act.put, List.getElem_toArray, List.getElem_cons_zero, List.getElem_cons_succ, List.setIfInBounds_toArray, List.set_cons_zero, List.set_cons_succ]
      refine wpAnyH_take (i := 5) (oi := _) (v := ?vn2_5) rfl (by kernel_rfl) (by kernel_rfl) (by kernel_rfl) (fun _ _ _ h => h) (Or.inl ⟨by rfl, ?hyn2_5⟩) (by assumption) ?hRn2_5
      case hyn2_5 => (intro w hSw; (try dsimp only at hSw); go_simp; (try with_reducible rfl))
      try simp only [Act.put, List.getElem_toArray, List.getElem_cons_zero, List.getElem_cons_succ, List.setIfInBounds_toArray, List.set_cons_zero, List.set_cons_succ]
      refine wpAnyH_ready (rs := [4]) (by kernel_rfl) (by simp) ?_
      refine AllReadyH.cons (o := _) rfl (fun K hK => ?_) AllReadyH.nil
      go_simp
      ((go_at_call 126; refine (shAdd_wide _ _ _ _ hL hM _).mono ?_; rintro e w41 ⟨rfl, hb⟩; haveI : Bel _ w41 := ⟨hb⟩; clear hb))
      go_wp2_with fail
      refine hK.out _ _ ?hSn2_6 (fun hHeld => ?hRn2_6)
      case hSn2_6 => ((try dsimp only); refine ⟨?_, ?_, ?_, ?_, ?_, ?_⟩ <;> exact has_cell.trans rfl)
      clear hK K
      try simp only [Act.put, List.getElem_toArray, List.getElem_cons_zero, List.getElem_cons_succ, List.setIfInBounds_toArray, List.set_cons_zero, List.set_cons_succ]
      refine wpAnyH_ready (rs := [6]) (by kernel_rfl) (by simp) ?_
      refine AllReadyH.cons (o := _) rfl (fun K hK => ?_) AllReadyH.nil
      go_simp
      ((go_at_call 134; refine (shMul_wide _ _ _ _ hX (by unfold WB; omega) _).mono ?_; rintro e w34 ⟨rfl, hb⟩; haveI : Bel _ w34 := ⟨hb⟩; clear hb))
      go_wp2_with fail
      refine hK.out _ _ ?hSn2_7 (fun hHeld => ?hRn2_7)
      case hSn2_7 => ((try dsimp only); refine ⟨?_, ?_, ?_, ?_, ?_, ?_⟩ <;> exact has_cell.trans rfl)
      clear hK K
      try simp only [Act.put, List.getElem_toArray, List.getElem_cons_zero, List.getElem_cons_succ, List.setIfInBounds_toArray, List.set_cons_zero, List.set_cons_succ]
      refine wpAnyH_take (i := 7) (oi := _) (v := ?vn2_8) rfl (by kernel_rfl) (by kernel_rfl) (by kernel_rfl) (fun _ _ _ h => h) (Or.inl ⟨by rfl, ?hyn2_8⟩) (by assumption) ?hRn2_8
      case hyn2_8 => (intro w hSw; (try dsimp only at hSw); go_simp; (try with_reducible rfl))
      try simp only [Act.put, List.getElem_toArray, List.getElem_cons_zero, List.getElem_cons_succ, List.setIfInBounds_toArray, List.set_cons_zero, List.set_cons_succ]
      refine wpAnyH_ready (rs := [8]) (by kernel_rfl) (by simp) ?_
      refine AllReadyH.cons (o := _) rfl (fun K hK => ?_) AllReadyH.nil
      go_simp
      refine hK.out _ _ ?hSn2_9 (fun hHeld => ?hRn2_9)
      case hSn2_9 => ((try dsimp only); refine ⟨?_, ?_, ?_, ?_, ?_, ?_⟩ <;> exact has_cell.trans rfl)
      clear hK K
      try simp only [Act.put, List.getElem_toArray, List.getElem_cons_zero, List.getElem_cons_succ, List.setIfInBounds_toArray, List.set_cons_zero, List.set_cons_succ]
      refine wpAnyH_done (by kernel_rfl) ?_ _
      all_goals
        go_wp2
        refine bodyPost_ret (v := .agg (stepP false ⟨an, ad, ln, ld, hn, hd, true, bh⟩).cells) (by simp [results, Try.results130, go_sem, stepP, goP, turnP, Wk.cells]) rfl ?_
        exact ⟨rfl, ext _ _⟩
  · clear hm2
    cases bh
    · go_enter Try.func130, Try.ntmps130
      go_wp2_with (first | ((with_reducible refine at_dst (N := 2) rfl ?_); refine ev_box (cs := #[.int .i64 an, .int .i64 ad, .int .i64 ln, .int .i64 ld, .int .i64 hn, .int .i64 hd, .bool bl, .bool false]) (t := 121) rfl ?hr2 ?_; (case hr2 => first | (go_simp; done) | (go_simp; rfl)); intro g2 v2 _ _ _ _) | ((with_reducible refine at_dst (N := 4) rfl ?_); refine ev_box (cs := #[.int .i64 0, .int .i64 0, .int .i64 0, .int .i64 0, .int .i64 0, .int .i64 0, .bool false, .bool false]) (t := 121) rfl ?hr4 ?_; (case hr4 => first | (go_simp; done) | (go_simp; rfl)); intro g4 v4 _ _ _ _) | ((with_reducible refine at_dst (N := 5) rfl ?_); refine ev_box (cs := #[.int .i64 0, .int .i64 0]) (t := 34) rfl ?hr5 ?_; (case hr5 => first | (go_simp; done) | (go_simp; rfl)); intro g5 v5 _ _ _ _))
      refine wp_region_held_drew (S := (fun _ => True)) (by kernel_rfl) ?hSn3_ (fun hHeld => ?hRn3_)
      case hSn3_ => (all_goals exact trivial)
      refine wpAnyH_take (i := 0) (oi := _) (v := ?vn3_1) rfl (by kernel_rfl) (by kernel_rfl) (by kernel_rfl) (fun _ _ _ h => h) (Or.inl ⟨by rfl, ?hyn3_1⟩) (by assumption) ?hRn3_1
      case hyn3_1 => (intro w hSw; (try dsimp only at hSw); go_simp; (try with_reducible rfl))
      try simp only [Act.put, List.getElem_toArray, List.getElem_cons_zero, List.getElem_cons_succ, List.setIfInBounds_toArray, List.set_cons_zero, List.set_cons_succ]
      refine wpAnyH_ready (rs := [1, 2]) (by kernel_rfl) (by simp) ?_
      refine AllReadyH.cons (o := _) rfl (fun K hK => ?bn3_2) (AllReadyH.cons (o := _) rfl (fun K hK => ?bn3_3) (AllReadyH.nil))
      case' bn3_2 =>
        go_simp
        refine hK.out _ _ ?hSn3_4 (fun hHeld => ?hRn3_4)
        case hSn3_4 => ((try dsimp only); all_goals exact trivial)
        clear hK K
        try simp only [Act.put, List.getElem_toArray, List.getElem_cons_zero, List.getElem_cons_succ, List.setIfInBounds_toArray, List.set_cons_zero, List.set_cons_succ]
        refine wpAnyH_ready (rs := [2]) (by kernel_rfl) (by simp) ?_
        refine AllReadyH.cons (o := _) rfl (fun K hK => ?_) AllReadyH.nil
        go_simp
        ((go_at_call 92; refine (shInt_any _ _).mono ?_; rintro e w40 ⟨rfl, hb⟩; haveI : Bel _ w40 := ⟨hb⟩; clear hb))
        go_wp2_with fail
        refine hK.out _ _ ?hSn3_5 (fun hHeld => ?hRn3_5)
        case hSn3_5 => ((try dsimp only); all_goals exact trivial)
        clear hK K
        try simp only [Act.put, List.getElem_toArray, List.getElem_cons_zero, List.getElem_cons_succ, List.setIfInBounds_toArray, List.set_cons_zero, List.set_cons_succ]
        refine wpAnyH_ready (rs := [3]) (by kernel_rfl) (by simp) ?_
        refine AllReadyH.cons (o := _) rfl (fun K hK => ?_) AllReadyH.nil
        go_simp
        ((go_at_call 126; refine (shAdd_wide _ _ _ _ ha wb1 _).mono ?_; rintro e w41 ⟨rfl, hb⟩; haveI : Bel _ w41 := ⟨hb⟩; clear hb))
        go_wp2_with fail
        refine hK.out _ _ ?hSn3_6 (fun hHeld => ?hRn3_6)
        case hSn3_6 => ((try dsimp only); all_goals exact trivial)
        clear hK K
        try simp only [Act.put, List.getElem_toArray, List.getElem_cons_zero, List.getElem_cons_succ, List.setIfInBounds_toArray, List.set_cons_zero, List.set_cons_succ]
        refine wpAnyH_take (i := 4) (oi := _) (v := ?vn3_7) rfl (by kernel_rfl) (by kernel_rfl) (by kernel_rfl) (fun _ _ _ h => h) (Or.inl ⟨by rfl, ?hyn3_7⟩) (by assumption) ?hRn3_7
        case hyn3_7 => (intro w hSw; (try dsimp only at hSw); go_simp; (try with_reducible rfl))
        try simp only [Act.put, List.getElem_toArray, List.getElem_cons_zero, List.getElem_cons_succ, List.setIfInBounds_toArray, List.set_cons_zero, List.set_cons_succ]
        refine wpAnyH_ready (rs := [5]) (by kernel_rfl) (by simp) ?_
        refine AllReadyH.cons (o := _) rfl (fun K hK => ?_) AllReadyH.nil
        go_simp
        refine hK.out _ _ ?hSn3_8 (fun hHeld => ?hRn3_8)
        case hSn3_8 => ((try dsimp only); all_goals exact trivial)
        clear hK K
        try simp only [Act.put, List.getElem_toArray, List.getElem_cons_zero, List.getElem_cons_succ, List.setIfInBounds_toArray, List.set_cons_zero, List.set_cons_succ]
        refine wpAnyH_done (by kernel_rfl) ?_ _
      case' bn3_3 =>
        go_simp
        ((go_at_call 92; refine (shInt_any _ _).mono ?_; rintro e w40 ⟨rfl, hb⟩; haveI : Bel _ w40 := ⟨hb⟩; clear hb))
        go_wp2_with fail
        refine hK.out _ _ ?hSn3_9 (fun hHeld => ?hRn3_9)
        case hSn3_9 => ((try dsimp only); all_goals exact trivial)
        clear hK K
        try simp only [Act.put, List.getElem_toArray, List.getElem_cons_zero, List.getElem_cons_succ, List.setIfInBounds_toArray, List.set_cons_zero, List.set_cons_succ]
        refine wpAnyH_ready (rs := [1]) (by kernel_rfl) (by simp) ?_
        refine AllReadyH.cons (o := _) rfl (fun K hK => ?_) AllReadyH.nil
        go_simp
        refine hK.out _ _ ?hSn3_10 (fun hHeld => ?hRn3_10)
        case hSn3_10 => ((try dsimp only); all_goals exact trivial)
        clear hK K
        try simp only [Act.put, List.getElem_toArray, List.getElem_cons_zero, List.getElem_cons_succ, List.setIfInBounds_toArray, List.set_cons_zero, List.set_cons_succ]
        refine wpAnyH_ready (rs := [3]) (by kernel_rfl) (by simp) ?_
        refine AllReadyH.cons (o := _) rfl (fun K hK => ?_) AllReadyH.nil
        go_simp
        ((go_at_call 126; refine (shAdd_wide _ _ _ _ ha wb1 _).mono ?_; rintro e w41 ⟨rfl, hb⟩; haveI : Bel _ w41 := ⟨hb⟩; clear hb))
        go_wp2_with fail
        refine hK.out _ _ ?hSn3_11 (fun hHeld => ?hRn3_11)
        case hSn3_11 => ((try dsimp only); all_goals exact trivial)
        clear hK K
        try simp only [Act.put, List.getElem_toArray, List.getElem_cons_zero, List.getElem_cons_succ, List.setIfInBounds_toArray, List.set_cons_zero, List.set_cons_succ]
        refine wpAnyH_take (i := 4) (oi := _) (v := ?vn3_12) rfl (by kernel_rfl) (by kernel_rfl) (by kernel_rfl) (fun _ _ _ h => h) (Or.inl ⟨by rfl, ?hyn3_12⟩) (by assumption) ?hRn3_12
        case hyn3_12 => (intro w hSw; (try dsimp only at hSw); go_simp; (try with_reducible rfl))
        try simp only [Act.put, List.getElem_toArray, List.getElem_cons_zero, List.getElem_cons_succ, List.setIfInBounds_toArray, List.set_cons_zero, List.set_cons_succ]
        refine wpAnyH_ready (rs := [5]) (by kernel_rfl) (by simp) ?_
        refine AllReadyH.cons (o := _) rfl (fun K hK => ?_) AllReadyH.nil
        go_simp
        refine hK.out _ _ ?hSn3_13 (fun hHeld => ?hRn3_13)
        case hSn3_13 => ((try dsimp only); all_goals exact trivial)
        clear hK K
        try simp only [Act.put, List.getElem_toArray, List.getElem_cons_zero, List.getElem_cons_succ, List.setIfInBounds_toArray, List.set_cons_zero, List.set_cons_succ]
        refine wpAnyH_done (by kernel_rfl) ?_ _
      all_goals
        go_wp2
        refine bodyPost_ret (v := .agg (stepP true ⟨an, ad, ln, ld, hn, hd, bl, false⟩).cells) (by simp [results, Try.results130, go_sem, stepP, goP, turnP, Wk.cells]) rfl ?_
        exact ⟨rfl, ext _ _⟩
    · go_enter Try.func130, Try.ntmps130
      have hX := hm1 rfl rfl
      have hL := ha
      have hM := hh rfl
      go_wp2_with (first | ((with_reducible refine at_dst (N := 2) rfl ?_); refine ev_box (cs := #[.int .i64 an, .int .i64 ad, .int .i64 ln, .int .i64 ld, .int .i64 hn, .int .i64 hd, .bool bl, .bool true]) (t := 121) rfl ?hr2 ?_; (case hr2 => first | (go_simp; done) | (go_simp; rfl)); intro g2 v2 _ _ _ _) | ((with_reducible refine at_dst (N := 4) rfl ?_); refine ev_box (cs := #[.int .i64 0, .int .i64 0, .int .i64 0, .int .i64 0, .int .i64 0, .int .i64 0, .bool false, .bool false]) (t := 121) rfl ?hr4 ?_; (case hr4 => first | (go_simp; done) | (go_simp; rfl)); intro g4 v4 _ _ _ _) | ((with_reducible refine at_dst (N := 5) rfl ?_); refine ev_box (cs := #[.int .i64 0, .int .i64 0]) (t := 34) rfl ?hr5 ?_; (case hr5 => first | (go_simp; done) | (go_simp; rfl)); intro g5 v5 _ _ _ _))
      refine wp_region_held_drew (S := (fun w' => w'.cell? ⟨g2, 2, none⟩ = some (.int .i64 (an, ad).1) ∧ w'.cell? ⟨g2, 3, none⟩ = some (.int .i64 (an, ad).2) ∧ w'.cell? ⟨g2, 4, none⟩ = some (.int .i64 (hn, hd).1) ∧ w'.cell? ⟨g2, 5, none⟩ = some (.int .i64 (hn, hd).2) ∧ w'.cell? ⟨g5, 0, none⟩ = some (.int .i64 1) ∧ w'.cell? ⟨g5, 1, none⟩ = some (.int .i64 2))) (by kernel_rfl) ?hSn4_ (fun hHeld => ?hRn4_)
      case hSn4_ => (refine ⟨?_, ?_, ?_, ?_, ?_, ?_⟩ <;> exact has_cell.trans rfl)
      refine wpAnyH_take (i := 0) (oi := _) (v := ?vn4_1) rfl (by kernel_rfl) (by kernel_rfl) (by kernel_rfl) (fun _ _ _ h => h) (Or.inl ⟨by rfl, ?hyn4_1⟩) (by assumption) ?hRn4_1
      case hyn4_1 => (intro w hSw; (try dsimp only at hSw); go_simp; (try with_reducible rfl))
      try simp only [Act.put, List.getElem_toArray, List.getElem_cons_zero, List.getElem_cons_succ, List.setIfInBounds_toArray, List.set_cons_zero, List.set_cons_succ]
      refine wpAnyH_take (i := 1) (oi := _) (v := ?vn4_2) rfl (by kernel_rfl) (by kernel_rfl) (by kernel_rfl) (fun _ _ _ h => h) (Or.inl ⟨by rfl, ?hyn4_2⟩) (by assumption) ?hRn4_2
      case hyn4_2 => (intro w hSw; (try dsimp only at hSw); go_simp; (try with_reducible rfl))
      try simp only [Act.put, List.getElem_toArray, List.getElem_cons_zero, List.getElem_cons_succ, List.setIfInBounds_toArray, List.set_cons_zero, List.set_cons_succ]
      refine wpAnyH_take (i := 2) (oi := _) (v := ?vn4_3) rfl (by kernel_rfl) (by kernel_rfl) (by kernel_rfl) (fun _ _ _ h => h) (Or.inl ⟨by rfl, ?hyn4_3⟩) (by assumption) ?hRn4_3
      case hyn4_3 => (intro w hSw; (try dsimp only at hSw); go_simp; (try with_reducible rfl))
      try simp only [Act.put, List.getElem_toArray, List.getElem_cons_zero, List.getElem_cons_succ, List.setIfInBounds_toArray, List.set_cons_zero, List.set_cons_succ]
      refine wpAnyH_take (i := 3) (oi := _) (v := ?vn4_4) rfl (by kernel_rfl) (by kernel_rfl) (by kernel_rfl) (fun _ _ _ h => h) (Or.inl ⟨by rfl, ?hyn4_4⟩) (by assumption) ?hRn4_4
      case hyn4_4 => (intro w hSw; (try dsimp only at hSw); go_simp; (try with_reducible rfl))
      try simp only [Act.put, List.getElem_toArray, List.getElem_cons_zero, List.getElem_cons_succ, List.setIfInBounds_toArray, List.set_cons_zero, List.set_cons_succ]
      refine wpAnyH_take (i := 5) (oi := _) (v := ?vn4_5) rfl (by kernel_rfl) (by kernel_rfl) (by kernel_rfl) (fun _ _ _ h => h) (Or.inl ⟨by rfl, ?hyn4_5⟩) (by assumption) ?hRn4_5
      case hyn4_5 => (intro w hSw; (try dsimp only at hSw); go_simp; (try with_reducible rfl))
      try simp only [Act.put, List.getElem_toArray, List.getElem_cons_zero, List.getElem_cons_succ, List.setIfInBounds_toArray, List.set_cons_zero, List.set_cons_succ]
      refine wpAnyH_ready (rs := [4]) (by kernel_rfl) (by simp) ?_
      refine AllReadyH.cons (o := _) rfl (fun K hK => ?_) AllReadyH.nil
      go_simp
      ((go_at_call 126; refine (shAdd_wide _ _ _ _ hL hM _).mono ?_; rintro e w41 ⟨rfl, hb⟩; haveI : Bel _ w41 := ⟨hb⟩; clear hb))
      go_wp2_with fail
      refine hK.out _ _ ?hSn4_6 (fun hHeld => ?hRn4_6)
      case hSn4_6 => ((try dsimp only); refine ⟨?_, ?_, ?_, ?_, ?_, ?_⟩ <;> exact has_cell.trans rfl)
      clear hK K
      try simp only [Act.put, List.getElem_toArray, List.getElem_cons_zero, List.getElem_cons_succ, List.setIfInBounds_toArray, List.set_cons_zero, List.set_cons_succ]
      refine wpAnyH_ready (rs := [6]) (by kernel_rfl) (by simp) ?_
      refine AllReadyH.cons (o := _) rfl (fun K hK => ?_) AllReadyH.nil
      go_simp
      ((go_at_call 134; refine (shMul_wide _ _ _ _ hX (by unfold WB; omega) _).mono ?_; rintro e w34 ⟨rfl, hb⟩; haveI : Bel _ w34 := ⟨hb⟩; clear hb))
      go_wp2_with fail
      refine hK.out _ _ ?hSn4_7 (fun hHeld => ?hRn4_7)
      case hSn4_7 => ((try dsimp only); refine ⟨?_, ?_, ?_, ?_, ?_, ?_⟩ <;> exact has_cell.trans rfl)
      clear hK K
      try simp only [Act.put, List.getElem_toArray, List.getElem_cons_zero, List.getElem_cons_succ, List.setIfInBounds_toArray, List.set_cons_zero, List.set_cons_succ]
      refine wpAnyH_take (i := 7) (oi := _) (v := ?vn4_8) rfl (by kernel_rfl) (by kernel_rfl) (by kernel_rfl) (fun _ _ _ h => h) (Or.inl ⟨by rfl, ?hyn4_8⟩) (by assumption) ?hRn4_8
      case hyn4_8 => (intro w hSw; (try dsimp only at hSw); go_simp; (try with_reducible rfl))
      try simp only [Act.put, List.getElem_toArray, List.getElem_cons_zero, List.getElem_cons_succ, List.setIfInBounds_toArray, List.set_cons_zero, List.set_cons_succ]
      refine wpAnyH_ready (rs := [8]) (by kernel_rfl) (by simp) ?_
      refine AllReadyH.cons (o := _) rfl (fun K hK => ?_) AllReadyH.nil
      go_simp
      refine hK.out _ _ ?hSn4_9 (fun hHeld => ?hRn4_9)
      case hSn4_9 => ((try dsimp only); refine ⟨?_, ?_, ?_, ?_, ?_, ?_⟩ <;> exact has_cell.trans rfl)
      clear hK K
      try simp only [Act.put, List.getElem_toArray, List.getElem_cons_zero, List.getElem_cons_succ, List.setIfInBounds_toArray, List.set_cons_zero, List.set_cons_succ]
      refine wpAnyH_done (by kernel_rfl) ?_ _
      all_goals
        go_wp2
        refine bodyPost_ret (v := .agg (stepP true ⟨an, ad, ln, ld, hn, hd, bl, true⟩).cells) (by simp [results, Try.results130, go_sem, stepP, goP, turnP, Wk.cells]) rfl ?_
        exact ⟨rfl, ext _ _⟩
end Go.Proofs.Ytdcnmaklnciofaa
