/-
  Draws of fractions.
-/
import Derived.Test.YtdcnmaklnciofaaSVal2
namespace Go.Proofs.Ytdcnmaklnciofaa
open Go.RowKit
set_option linter.unusedSimpArgs false
set_option linter.unusedVariables false

theorem mk_I64 {n d : Int} (hn : -1000000000 ≤ n ∧ n ≤ 1000000000) (hd : -1000000000 ≤ d ∧ d ≤ 1000000000) : I64 (mkN n d) ∧ I64 (mkD n d) := by
  have a1 := natAbs_tdiv_le n (gsign n d)
  have a2 := natAbs_tdiv_le d (gsign n d)
  unfold mkN mkD I64
  omega
theorem WB.i64 {n d : Int} (h : WB n d) : I64 n ∧ I64 d := by unfold WB at h; unfold I64; omega

attribute [local go_sem high] has_cell has_frozen
set_option maxHeartbeats 3200000 in
set_option maxRecDepth 100000 in
theorem fraction_any (g : Nat) (k : Int) (w : World) [hc : Cur w g k] (hk : k ≤ 140737488355328) :
    Calls Try.prog 51 #[.pointer (some ⟨g, 0, none⟩)] w fun e w' => ∃ n d : Int, e = .returned (.agg #[.int .i64 n, .int .i64 d]) ∧ I64 n ∧ I64 d ∧ Drew w g (k + 3000) w' := by
  go_enter Try.func51, Try.ntmps51
  go_wp2_with (first | ((with_reducible refine at_dst (N := 2) rfl ?_); refine ev_box (cs := #[.int .i64 0, .int .i64 0]) (t := 34) rfl ?hr2 ?_; (case hr2 => first | (go_simp; done) | (go_simp; rfl)); intro g2 v2 _ _ _ _) | ((fail_if_success (have _q := r4)); go_at_call 91; refine (pick_any _ g _ _ (by omega) (by omega)).mono ?_; rintro e4 w4 ⟨r4, rfl, ha4, hb4, h1, h2⟩; haveI := h1; haveI := h2; clear h1 h2) | ((fail_if_success (have _q := r8)); go_at_call 91; refine (pick_any _ g _ _ (by omega) (by omega)).mono ?_; rintro e8 w8 ⟨r8, rfl, ha8, hb8, h1, h2⟩; haveI := h1; haveI := h2; clear h1 h2) | ((fail_if_success (have _q := r11)); go_at_call 91; refine (pick_any _ g _ _ (by omega) (by omega)).mono ?_; rintro e11 w11 ⟨r11, rfl, ha11, hb11, h1, h2⟩; haveI := h1; haveI := h2; clear h1 h2) | ((fail_if_success (have _q := w13)); go_at_call 101; refine (shMake_any _ _ (by omega) (by omega) (by omega) _).mono ?_; rintro e13 w13 ⟨rfl, hb⟩; haveI : Bel _ w13 := ⟨hb⟩; clear hb) | ((fail_if_success (have _q := w19)); go_at_call 92; refine (shInt_any _ _).mono ?_; rintro e19 w19 ⟨rfl, hb⟩; haveI : Bel _ w19 := ⟨hb⟩; clear hb) | ((fail_if_success (have _q := r41)); go_at_call 84; (with_reducible refine (among_any (fun j => 0 ≤ j ∧ j ≤ 20) _ 4 _ g _ _ (by omega) (by omega) (fun W hW => by haveI := hW; exact ListOk.of (by simp [I64]) rfl)).mono ?_); rintro e41 w41 ⟨r41, rfl, hp41, h1, h2⟩; haveI := h1; haveI := h2; clear h1 h2) | ((fail_if_success (have _q := r24)); go_at_call 84; refine (among_any (I64) _ 8 _ g _ _ (by omega) (by omega) (fun W hW => by haveI := hW; exact ListOk.of (by simp [I64]) rfl)).mono ?_; rintro e24 w24 ⟨r24, rfl, hp24, h1, h2⟩; haveI := h1; haveI := h2; clear h1 h2) | ((fail_if_success (have _q := r27)); go_at_call 84; refine (among_any (I64) _ 8 _ g _ _ (by omega) (by omega) (fun W hW => by haveI := hW; exact ListOk.of (by simp [I64]) rfl)).mono ?_; rintro e27 w27 ⟨r27, rfl, hp27, h1, h2⟩; haveI := h1; haveI := h2; clear h1 h2) | ((fail_if_success (have _q := r42)); go_at_call 103; refine (word_any _ g _ _ (by omega) (by omega)).mono ?_; rintro e42 w42 ⟨r42, rfl, hp42, h1, h2⟩; haveI := h1; haveI := h2; clear h1 h2) | ((fail_if_success (have _q := w43)); go_at_call 102; refine (shValue_any _ _ (by omega)).mono ?_; rintro e43 w43 ⟨n43, d43, rfl, hd43, hb⟩; haveI : Bel _ w43 := ⟨hb⟩; clear hb))
  · obtain ⟨i1, i2⟩ := mk_I64 (n := r8 - 20) (d := 1 + r11) (by omega) (by omega)
    refine bodyPost_ret (v := .agg #[.int .i64 (mkN (r8 - 20) (1 + r11)), .int .i64 (mkD (r8 - 20) (1 + r11))]) (by simp [results, Try.results51, go_sem]) rfl ?_
    exact ⟨_, _, rfl, i1, i2, drew _ _ _ (by omega)⟩
  · refine bodyPost_ret (v := .agg #[.int .i64 (r8 - 4), .int .i64 1]) (by simp [results, Try.results51, go_sem]) rfl ?_
    exact ⟨_, _, rfl, by unfold I64; omega, by unfold I64; omega, drew _ _ _ (by omega)⟩
  · refine bodyPost_ret (v := .agg #[.int .i64 r24, .int .i64 r27]) (by simp [results, Try.results51, go_sem]) rfl ?_
    exact ⟨_, _, rfl, hp24, hp27, drew _ _ _ (by omega)⟩
  · obtain ⟨i1, i2⟩ := mk_I64 (n := r8 - 1000) (d := 1 + r11) (by omega) (by omega)
    refine bodyPost_ret (v := .agg #[.int .i64 (mkN (r8 - 1000) (1 + r11)), .int .i64 (mkD (r8 - 1000) (1 + r11))]) (by simp [results, Try.results51, go_sem]) rfl ?_
    exact ⟨_, _, rfl, i1, i2, drew _ _ _ (by omega)⟩
  · obtain ⟨i1, i2⟩ := (hd43.wb (by omega) (by omega)).i64
    refine bodyPost_ret (v := .agg #[.int .i64 n43, .int .i64 d43]) (by simp [results, Try.results51, go_sem]) rfl ?_
    exact ⟨_, _, rfl, i1, i2, drew _ _ _ (by omega)⟩

set_option maxHeartbeats 1600000 in
theorem good_any (g : Nat) (k : Int) (w : World) [hc : Cur w g k] (hk : k ≤ 140737488355328) :
    Calls Try.prog 127 #[.pointer (some ⟨g, 0, none⟩)] w fun e w' => ∃ n d : Int, e = .returned (.agg #[.int .i64 n, .int .i64 d]) ∧ FOk n d ∧ Drew w g (k + 3000) w' := by
  go_enter Try.func127, Try.ntmps127
  go_wp2_with (first | ((with_reducible refine at_dst (N := 2) rfl ?_); refine ev_box (cs := #[.int .i64 0, .int .i64 0]) (t := 34) rfl ?hr2 ?_; (case hr2 => first | (go_simp; done) | (go_simp; rfl)); intro g2 v2 _ _ _ _) | ((with_reducible refine at_dst (N := 3) rfl ?_); refine ev_box (cs := #[.int .i64 0, .int .i64 0]) (t := 34) rfl ?hr3 ?_; (case hr3 => first | (go_simp; done) | (go_simp; rfl)); intro g3 v3 _ _ _ _) |
    (go_at_call 51; refine (fraction_any g _ _ (by omega)).mono ?_; rintro e w5 ⟨n, d, rfl, hn, hd, h1, h2⟩; haveI := h1; haveI := h2; clear h1 h2) |
    (go_at_call 54; refine (shGood_any _ _ _).mono ?_; rintro e w7 ⟨rfl, hb⟩; haveI : Bel _ w7 := ⟨hb⟩; clear hb))
  · rename_i hf
    refine bodyPost_ret (v := .agg #[.int .i64 1, .int .i64 2]) (by simp [results, Try.results127, go_sem]) rfl ?_
    exact ⟨_, _, rfl, by show fracOk 1 2 = true; decide, drew _ _ _ (by omega)⟩
  · rename_i hf
    refine bodyPost_ret (v := .agg #[.int .i64 n, .int .i64 d]) (by simp [results, Try.results127, go_sem]) rfl ?_
    exact ⟨_, _, rfl, by show fracOk n d = true; simpa using hf, drew _ _ _ (by omega)⟩
end Go.Proofs.Ytdcnmaklnciofaa
