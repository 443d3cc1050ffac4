/-
  The value of a word of signs.
-/
import Derived.Test.YtdcnmaklnciofaaSVal
import Derived.Test.YtdcnmaklnciofaaSValFn
namespace Go.Proofs.Ytdcnmaklnciofaa
open Go.RowKit
set_option linter.unusedSimpArgs false
set_option linter.unusedVariables false

theorem DY.wb {k m : Nat} {n d : Int} (h : DY k m n d) (hk : k ≤ 20) (hm : m ≤ 40) : WB n d := by
  obtain ⟨h1, h2, h3, h4⟩ := h.bd
  have hp : 2 ^ k ≤ 2 ^ 20 := Nat.pow_le_pow_right (by omega) hk
  have hp' : ((2 ^ k : Nat) : Int) ≤ 1048576 := by omega
  have h5 : (m : Int) * d ≤ 40 * d := Int.mul_le_mul_of_nonneg_right (by omega) (by omega)
  unfold WB
  omega
theorem DY.f {k m : Nat} {n d : Int} (h : DY k m n d) (hk : k ≤ 5) (hm : m ≤ 5) : FOk n d := by
  obtain ⟨h1, h2, h3, h4⟩ := h.bd
  have hg : Int.gcd n d = 1 := h.choose_spec.2.2.1
  have hp : 2 ^ k ≤ 2 ^ 5 := Nat.pow_le_pow_right (by omega) hk
  have hp' : ((2 ^ k : Nat) : Int) ≤ 32 := by omega
  have h5 : (m : Int) * d ≤ 5 * d := Int.mul_le_mul_of_nonneg_right (by omega) (by omega)
  exact fracOk_iff.2 ⟨by omega, by omega, by omega, by omega, hg⟩

def WkOk (i : Nat) (s : Wk) : Prop := DY i i s.an s.ad ∧ (s.bl = true → DY i i s.ln s.ld) ∧ (s.bh = true → DY i i s.hn s.hd)
theorem WkOk.step {i : Nat} {s : Wk} (p : Bool) (h : WkOk i s) : WkOk (i + 1) (stepP p s) := by
  obtain ⟨h1, h2, h3⟩ := h
  unfold stepP turnP goP WkOk
  cases p
  · simp only [Bool.false_eq_true, if_false]
    split
    · rename_i hb
      exact ⟨((h2 hb.1).add h1).half.up', fun hl => (h2 hl).up, fun _ => h1.up⟩
    · exact ⟨(DY.one (-1) (.inr rfl) h1).up1, fun hl => (h2 hl).up, fun _ => h1.up⟩
  · simp only [if_true]
    split
    · rename_i hb
      exact ⟨(h1.add (h3 hb.2)).half.up', fun _ => h1.up, fun hl => (h3 hl).up⟩
    · exact ⟨(DY.one 1 (.inl rfl) h1).up1, fun _ => h1.up, fun hl => (h3 hl).up⟩

attribute [local go_sem high] has_cell has_frozen
set_option maxHeartbeats 1600000 in
theorem shStart_any (w : World) :
    Calls Try.prog 129 #[] w fun e w' => e = .returned (.agg (Wk.cells ⟨0, 1, 0, 0, 0, 0, false, false⟩)) ∧ Below w.heap.size w w' := by
  go_enter Try.func129, Try.ntmps129
  go_wp2_with (first | ((with_reducible refine at_dst (N := 0) rfl ?_); refine ev_box (cs := #[.int .i64 0, .int .i64 0, .int .i64 0, .int .i64 0, .int .i64 0, .int .i64 0, .bool false, .bool false]) (t := 121) rfl ?hr0 ?_; (case hr0 => first | (go_simp; done) | (go_simp; rfl)); intro g0 v0 _ _ _ _) | (go_at_call 92; refine (shInt_any _ _).mono ?_; rintro e w1 ⟨rfl, hb⟩; haveI : Bel _ w1 := ⟨hb⟩; clear hb))
  refine bodyPost_ret (v := .agg (Wk.cells ⟨0, 1, 0, 0, 0, 0, false, false⟩)) (by simp [results, Try.results129, go_sem, Wk.cells]) rfl ?_
  exact ⟨rfl, ext _ _⟩

theorem step_ok (p : Bool) (an ad ln ld hn hd : Int) (bl bh : Bool) (i : Nat) (w : World) (hi : i < 20) (hok : WkOk i ⟨an, ad, ln, ld, hn, hd, bl, bh⟩) :
    Calls Try.prog 130 #[.agg #[.int .i64 an, .int .i64 ad, .int .i64 ln, .int .i64 ld, .int .i64 hn, .int .i64 hd, .bool bl, .bool bh], .bool p] w fun e w' => ∃ (an ad ln ld hn hd : Int) (bl bh : Bool),
      e = .returned (.agg #[.int .i64 an, .int .i64 ad, .int .i64 ln, .int .i64 ld, .int .i64 hn, .int .i64 hd, .bool bl, .bool bh]) ∧ WkOk (i + 1) ⟨an, ad, ln, ld, hn, hd, bl, bh⟩ ∧ Below w.heap.size w w' := by
  have hst := hok.step p
  obtain ⟨o1, o2, o3⟩ := hok
  refine (step_any p an ad ln ld hn hd bl bh w (o1.wb (by omega) (by omega)) (fun h => (o2 h).wb (by omega) (by omega)) (fun h => (o3 h).wb (by omega) (by omega)) (fun _ h => (o1.add (o3 h)).wb (by omega) (by omega)) (fun _ h => ((o2 h).add o1).wb (by omega) (by omega))).mono ?_
  rintro e w' ⟨rfl, hb⟩
  generalize stepP p ⟨an, ad, ln, ld, hn, hd, bl, bh⟩ = s' at *
  obtain ⟨an, ad, ln, ld, hn, hd, bl, bh⟩ := s'
  exact ⟨_, _, _, _, _, _, _, _, rfl, hst, hb⟩
set_option maxHeartbeats 1600000 in
set_option maxRecDepth 100000 in
theorem shValue_any (u : ByteArray) (w : World) (hu : u.size ≤ 20) :
    Calls Try.prog 102 #[.string u] w fun e w' => ∃ n d, e = .returned (.agg #[.int .i64 n, .int .i64 d]) ∧ DY u.size u.size n d ∧ Below w.heap.size w w' := by
  go_enter Try.func102, Try.ntmps102
  go_wp2_with (first | ((with_reducible refine at_dst (N := 2) rfl ?_); refine ev_box (cs := #[.int .i64 0, .int .i64 0]) (t := 34) rfl ?hr2 ?_; (case hr2 => first | (go_simp; done) | (go_simp; rfl)); intro g2 v2 _ _ _ _) | ((with_reducible refine at_dst (N := 3) rfl ?_); refine ev_box (cs := #[.int .i64 0, .int .i64 0, .int .i64 0, .int .i64 0, .int .i64 0, .int .i64 0, .bool false, .bool false]) (t := 121) rfl ?hr3 ?_; (case hr3 => first | (go_simp; done) | (go_simp; rfl)); intro g3 v3 _ _ _ _) | (go_at_call 129; refine (shStart_any _).mono ?_; rintro e w5 ⟨rfl, hb⟩; haveI : Bel _ w5 := ⟨hb⟩; clear hb; unfold Wk.cells))
  go_loopw [4] (fun t wr => ∃ (i : Nat) (an ad ln ld hn hd : Int) (bl bh : Bool), t = .int .i64 i ∧ i ≤ u.size ∧ Has wr g3 (.cells #[.int .i64 an, .int .i64 ad, .int .i64 ln, .int .i64 ld, .int .i64 hn, .int .i64 hd, .bool bl, .bool bh] 121 (0, 0)) ∧ WkOk i ⟨an, ad, ln, ld, hn, hd, bl, bh⟩ ∧ Kp v3 (XE g3) wr) (fun t _ => u.size - (intOf t).toNat)
  case atStart =>
    exact ⟨0, 0, 1, 0, 0, 0, 0, false, false, rfl, by omega, inferInstance, ⟨⟨0, by simp, by simp, by decide, by simp, by simp⟩, by simp, by simp⟩, kp _ _ _⟩
  case round =>
    obtain ⟨i, an, ad, ln, ld, hn, hd, bl, bh, rfl, hi, _, hok, _⟩ := hrel
    by_cases hlt : i < u.size
    · go_wp2
      refine wp_region_held_drew (S := (fun _ => True)) (by kernel_rfl) ?hSn1_ (fun hHeld => ?hRn1_)
      case hSn1_ => (all_goals exact trivial)
      refine wpAnyH_take (i := 1) (oi := _) (v := ?vn1_1) rfl (by kernel_rfl) (by kernel_rfl) (by kernel_rfl) (fun _ _ _ h => h) (Or.inl ⟨by rfl, ?hyn1_1⟩) (by assumption) ?hRn1_1
      case hyn1_1 => (intro w hSw; (try dsimp only at hSw); go_simp; (try with_reducible rfl))
      try simp only [Act.put, List.getElem_toArray, List.getElem_cons_zero, List.getElem_cons_succ, List.setIfInBounds_toArray, List.set_cons_zero, List.set_cons_succ]
      refine wpAnyH_take (i := 2) (oi := _) (v := ?vn1_2) rfl (by kernel_rfl) (by kernel_rfl) (by kernel_rfl) (fun _ _ _ h => h) (Or.inl ⟨by rfl, ?hyn1_2⟩) (by assumption) ?hRn1_2
      case hyn1_2 => (intro w hSw; (try dsimp only at hSw); go_simp; (try with_reducible rfl))
      try simp only [Act.put, List.getElem_toArray, List.getElem_cons_zero, List.getElem_cons_succ, List.setIfInBounds_toArray, List.set_cons_zero, List.set_cons_succ]
      refine wpAnyH_take (i := 3) (oi := _) (v := ?vn1_3) rfl (by kernel_rfl) (by kernel_rfl) (by kernel_rfl) (fun _ _ _ h => h) (Or.inl ⟨by rfl, ?hyn1_3⟩) (by assumption) ?hRn1_3
      case hyn1_3 => (intro w hSw; (try dsimp only at hSw); go_simp; (try with_reducible rfl))
      try simp only [Act.put, List.getElem_toArray, List.getElem_cons_zero, List.getElem_cons_succ, List.setIfInBounds_toArray, List.set_cons_zero, List.set_cons_succ]
      refine wpAnyH_take (i := 4) (oi := _) (v := ?vn1_4) rfl (by kernel_rfl) (by kernel_rfl) (by kernel_rfl) (fun _ _ _ h => h) (Or.inl ⟨by rfl, ?hyn1_4⟩) (by assumption) ?hRn1_4
      case hyn1_4 => (intro w hSw; (try dsimp only at hSw); go_simp; (try with_reducible rfl))
      try simp only [Act.put, List.getElem_toArray, List.getElem_cons_zero, List.getElem_cons_succ, List.setIfInBounds_toArray, List.set_cons_zero, List.set_cons_succ]
      refine wpAnyH_ready (rs := [0]) (by kernel_rfl) (by simp) ?_
      refine AllReadyH.cons (o := _) rfl (fun K hK => ?_) AllReadyH.nil
      go_simp
      refine hK.out _ _ ?hSn1_5 (fun hHeld => ?hRn1_5)
      case hSn1_5 => ((try dsimp only); all_goals exact trivial)
      clear hK K
      try simp only [Act.put, List.getElem_toArray, List.getElem_cons_zero, List.getElem_cons_succ, List.setIfInBounds_toArray, List.set_cons_zero, List.set_cons_succ]
      refine wpAnyH_ready (rs := [5]) (by kernel_rfl) (by simp) ?_
      refine AllReadyH.cons (o := _) rfl (fun K hK => ?_) AllReadyH.nil
      go_simp
      ((go_at_call 130; refine (step_ok _ an ad ln ld hn hd bl bh i _ (by omega) hok).mono ?_; rintro e w17 ⟨an1, ad1, ln1, ld1, hn1, hd1, bl1, bh1, rfl, hok1, hb⟩; haveI : Bel _ w17 := ⟨hb⟩; clear hb))
      go_wp2_with fail
      refine hK.out _ _ ?hSn1_6 (fun hHeld => ?hRn1_6)
      case hSn1_6 => ((try dsimp only); all_goals exact trivial)
      clear hK K
      try simp only [Act.put, List.getElem_toArray, List.getElem_cons_zero, List.getElem_cons_succ, List.setIfInBounds_toArray, List.set_cons_zero, List.set_cons_succ]
      refine wpAnyH_ready (rs := [6]) (by kernel_rfl) (by simp) ?_
      refine AllReadyH.cons (o := _) rfl (fun K hK => ?_) AllReadyH.nil
      go_simp
      refine hK.out _ _ ?hSn1_7 (fun hHeld => ?hRn1_7)
      case hSn1_7 => ((try dsimp only); all_goals exact trivial)
      clear hK K
      try simp only [Act.put, List.getElem_toArray, List.getElem_cons_zero, List.getElem_cons_succ, List.setIfInBounds_toArray, List.set_cons_zero, List.set_cons_succ]
      refine wpAnyH_done (by kernel_rfl) ?_ _
      all_goals
        go_wp2
        exact ⟨⟨i + 1, an1, ad1, ln1, ld1, hn1, hd1, bl1, bh1, by go_num, by omega, inferInstance, hok1, kp _ _ _⟩, by simp [intOf]; omega⟩
    · go_wp2
      have he : i = u.size := by omega
      refine bodyPost_ret (v := .agg #[.int .i64 an, .int .i64 ad]) (by simp [results, Try.results102, go_sem]) rfl ?_
      exact ⟨an, ad, rfl, he ▸ hok.1, ext _ _⟩
end Go.Proofs.Ytdcnmaklnciofaa
