/-
  Draws of coefficients.
-/
import Derived.Test.YtdcnmaklnciofaaSDraw
namespace Go.Proofs.Ytdcnmaklnciofaa
open Go.RowKit
set_option linter.unusedSimpArgs false
set_option linter.unusedVariables false

theorem gok_pm {j : Int} (h : j = 1 ∨ j = -1) : GOk j 1 := by
  rcases h with rfl | rfl
  · exact ⟨show fracOk 1 1 = true by decide, by omega⟩
  · exact ⟨show fracOk (-1) 1 = true by decide, by omega⟩
attribute [local go_sem high] has_cell has_frozen
set_option maxHeartbeats 3200000 in
set_option maxRecDepth 100000 in
theorem coef_any (b : Bool) (g : Nat) (k : Int) (w : World) [hc : Cur w g k] (hk : k ≤ 70368744177664) :
    Calls Try.prog 98 #[.pointer (some ⟨g, 0, none⟩), .bool b] w fun e w' => ∃ n d : Int, e = .returned (.agg #[.int .i64 n, .int .i64 d]) ∧ GOk n d ∧ Drew w g (k + 10000) w' := by
  go_enter Try.func98, Try.ntmps98
  go_wp2_with (first | ((with_reducible refine at_dst (N := 4) rfl ?_); refine ev_box (cs := #[.int .i64 0, .int .i64 0]) (t := 34) rfl ?hr4 ?_; (case hr4 => first | (go_simp; done) | (go_simp; rfl)); intro g4 v4 _ _ _ _) | ((with_reducible refine at_dst (N := 5) rfl ?_); refine ev_box (cs := #[.int .i64 0, .int .i64 0]) (t := 34) rfl ?hr5 ?_; (case hr5 => first | (go_simp; done) | (go_simp; rfl)); intro g5 v5 _ _ _ _) | (go_at_call 127; refine (good_any g _ _ (by omega)).mono ?_; rintro e w7 ⟨n, d, rfl, hf, h1, h2⟩; haveI := h1; haveI := h2; clear h1 h2) | ((fail_if_success (have _q := r11)); go_at_call 40; refine (one_any _ g _ _ (by omega) (by omega)).mono ?_; rintro e11 w11 ⟨r11, rfl, h1, h2⟩; haveI := h1; haveI := h2; clear h1 h2) | ((fail_if_success (have _q := r16)); go_at_call 84; (with_reducible refine (among_any (fun j => 2 ≤ j ∧ j ≤ 5) _ 3 _ g _ _ (by omega) (by omega) (fun W hW => by haveI := hW; exact ListOk.of (by simp) rfl)).mono ?_); rintro e16 w16 ⟨r16, rfl, hp16, h1, h2⟩; haveI := h1; haveI := h2; clear h1 h2) | ((fail_if_success (have _q := r24)); go_at_call 84; (with_reducible refine (among_any (fun j => j = 1 ∨ j = -1) _ 2 _ g _ _ (by omega) (by omega) (fun W hW => by haveI := hW; exact ListOk.of (by simp) rfl)).mono ?_); rintro e24 w24 ⟨r24, rfl, hp24, h1, h2⟩; haveI := h1; haveI := h2; clear h1 h2) | ((fail_if_success (have _q := r17)); go_at_call 103; refine (word_any _ g _ _ (by omega) (by omega)).mono ?_; rintro e17 w17 ⟨r17, rfl, hp17, h1, h2⟩; haveI := h1; haveI := h2; clear h1 h2) | ((fail_if_success (have _q := w18)); go_at_call 102; refine (shValue_any _ _ (by omega)).mono ?_; rintro e18 w18 ⟨n18, d18, rfl, hd18, hb⟩; haveI : Bel _ w18 := ⟨hb⟩; clear hb) | ((fail_if_success (have _q := w25)); go_at_call 92; refine (shInt_any _ _).mono ?_; rintro e25 w25 ⟨rfl, hb⟩; haveI : Bel _ w25 := ⟨hb⟩; clear hb))
  all_goals first
    | (refine bodyPost_ret (v := .agg #[.int .i64 r24, .int .i64 1]) (by simp [results, Try.results98, go_sem]) rfl ?_; exact ⟨_, _, rfl, gok_pm hp24, drew _ _ _ (by omega)⟩)
    | (refine bodyPost_ret (v := .agg #[.int .i64 n18, .int .i64 d18]) (by simp [results, Try.results98, go_sem]) rfl ?_; exact ⟨_, _, rfl, ⟨hd18.f (by omega) (by omega), ne_of_beq_false (by assumption)⟩, drew _ _ _ (by omega)⟩)
    | (refine bodyPost_ret (v := .agg #[.int .i64 n, .int .i64 d]) (by simp [results, Try.results98, go_sem]) rfl ?_; exact ⟨_, _, rfl, ⟨hf, ne_of_beq_false (by assumption)⟩, drew _ _ _ (by omega)⟩)
end Go.Proofs.Ytdcnmaklnciofaa
