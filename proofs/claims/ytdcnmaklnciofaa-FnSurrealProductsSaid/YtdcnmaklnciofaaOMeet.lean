/-
  Walks, the reference's side: an ordinal with one term more, put in naturally (some ordinal: the weak contract).
-/
import Derived.Test.YtdcnmaklnciofaaOCmp
namespace Go.Proofs.Ytdcnmaklnciofaa
open Go.RowKit
set_option linter.unusedSimpArgs false
set_option linter.unusedVariables false

theorem xdis_low {X : Nat → Prop} {v : Value} {w lo hi : World} (hX : ∀ k, X k → k < w.heap.size) [a : OwR v lo hi] [b : LeB w lo] : XDis X v := ⟨fun g hg h => by have := hX g h; have := (a.h g hg).1; have := b.h; omega⟩
theorem i64_wrap (n : Int) : I64 (wrap64 n) := by unfold wrap64 I64; omega
attribute [local go_sem high] has_cell has_frozen
set_option synthInstance.maxHeartbeats 2000000 in
set_option synthInstance.maxSize 4000 in
set_option maxHeartbeats 3200000 in
set_option maxRecDepth 100000 in
theorem odMeet_any (x e : Ord) (n : Int) (X : Nat → Prop) (A A' : Option Addr) (c c' : Nat) (w : World) (hX : ∀ k, X k → k < w.heap.size) (sx : OSl X w x A c) (sy : OSl X w e A' c') (in_ : I64 n) (hl : x.len ≤ 1000000000) :
    Calls Try.prog 123 #[.agg #[.slice A x.len c], .agg #[.slice A' e.len c', .int .i64 n]] w fun ex w' => ∃ z : Ord, z.len ≤ x.len + 1 ∧ z.nodes ≤ x.nodes + e.nodes + 1 ∧ RetO X w z ex w' := by
  have lx := sx.cap
  have lx' := sx.le
  unfold maxLen at lx
  haveI ix := OT.arg sx
  haveI iy := OT.arg sy
  clear sx sy
  go_enter Try.func123, Try.ntmps123
  go_wp2_with (first | ((with_reducible refine at_dst (N := 2) rfl ?_); refine ev_box (cs := #[.slice A x.len c]) (t := 90) rfl ?hr2 ?_; (case hr2 => first | (go_simp; done) | (go_simp; rfl)); intro g2 v2 _ _ _ _) | ((with_reducible refine at_dst (N := 3) rfl ?_); refine ev_box (cs := #[.slice A' e.len c', .int .i64 n]) (t := 116) rfl ?hr3 ?_; (case hr3 => first | (go_simp; done) | (go_simp; rfl)); intro g3 v3 _ _ _ _) | ((with_reducible refine at_dst (N := 4) rfl ?_); refine ev_box (cs := #[.slice none 0 0]) (t := 90) rfl ?hr4 ?_; (case hr4 => first | (go_simp; done) | (go_simp; rfl)); intro g4 v4 _ _ _ _) | ((with_reducible refine at_dst (N := 5) rfl ?_); refine ev_box (cs := #[.slice none 0 0]) (t := 90) rfl ?hr5 ?_; (case hr5 => first | (go_simp; done) | (go_simp; rfl)); intro g5 v5 _ _ _ _))
  go_loopw [6, 14] (fun s t wr => ∃ (i : Nat) (dn : Bool) (v : Value) (xs : List Value) (acc : Ord), s = .bool dn ∧ t = .int .i64 i ∧ i ≤ x.len ∧ acc.len ≤ i + 1 ∧ Hid (dn = false → acc.len ≤ i) ∧ Hid (acc.nodes + (x.drop i).nodes ≤ x.nodes + 1 + (bif dn then e.nodes + 1 else 0)) ∧
      Has wr g5 (.cells #[v] 90 (0, 0)) ∧ Own wr v v5 116 2 acc.len xs ∧ OR wr (XV w X) acc xs ∧ Kp v5 (XE g5) wr ∧ OT wr A (XV w X) x c ∧ OT wr A' (XV w X) e c') (fun _ t _ => x.len - (intOf t).toNat)
  case atStart =>
    exact ⟨0, false, .slice none 0 0, [], .nil, rfl, rfl, Nat.zero_le _, by simp [Ord.len], fun _ => by simp [Ord.len], (by show Ord.nodes .nil + (x.drop 0).nodes ≤ x.nodes + 1 + 0; simp only [Ord.nodes, Ord.drop]; omega), inferInstance, Own.nil _ _ _ _, OR.nil _ _, kp _ _ _, inferInstance, inferInstance⟩
  case round =>
    obtain ⟨i, dn, v, xs, acc, rfl, rfl, hi, hal, HA, HN, _, _, _, _, ix4, iy4⟩ := hrel
    clear ix iy
    haveI := Own.rg wr v
    have hi0' : (0 : Int) ≤ (i : Int) := by omega
    by_cases h1 : i < x.len
    · obtain ⟨b, o, e1, n1, A1, d1, rfl, hxk, f0, f1, se, in1, _, hbl⟩ := ix4.h.at_ h1
      haveI : OT wr A1 _ e1 d1 := ⟨se⟩
      have HN1 : Hid (acc.nodes + (1 + e1.nodes + (x.drop (i + 1)).nodes) ≤ x.nodes + 1 + (bif dn then e.nodes + 1 else 0)) := by have := HN.out; rw [hxk] at this; exact this
      clear se hxk HN
      have h1' : (i : Int) < (x.len : Int) := by omega
      have hac : acc.len ≤ 1099511627776 := by omega
      cases dn
      · have ha := HA.out rfl
        rcases ocmp_range e1 e with q | q | q
        · go_wp2_with (first | ((with_reducible refine at_dst (N := 8) rfl ?_); refine ev_box (cs := #[.slice none 0 0, .int .i64 0]) (t := 116) rfl ?hr8 ?_; (case hr8 => first | (go_simp; done) | (go_simp; rfl)); intro g8 v8 _ _ _ _) | go_at_call 138; refine (odCmp_any _ e1 e _ _ A1 A' d1 c' _ (Nat.le_refl _) (otr _ A1) (otr _ A')).mono ?_; rintro e22 w22 ⟨he, hb⟩; rw [q] at he; subst he; haveI : Bel _ w22 := ⟨hb⟩; clear hb | ((with_reducible refine at_dst (N := 47) rfl ?_); refine ev_sl (cs := #[.slice A' e.len c', .int .i64 n]) (t := 116) rfl ?hr47 ?_; (case hr47 => first | (go_simp; done) | (go_simp; rfl)); intro g47 v47 _ _ _ _) | ((with_reducible refine at_dst (N := 53) rfl ?_); refine ev_sl (cs := #[.slice A1 e1.len d1, .int .i64 n1]) (t := 116) rfl ?hr53 ?_; (case hr53 => first | (go_simp; done) | (go_simp; rfl)); intro g53 v53 _ _ _ _) | (at_builtin; (with_reducible refine at_dst (N := 48) rfl ?_); go_must (refine ap_list (v := v) rfl _ _ _ rfl rfl rfl rfl (by simp [Value.oneCell']) (by omega) ?_); intro gg48 cap48 wa48 _ _ _ hat48 _) | (at_builtin; (with_reducible refine at_dst (N := 54) rfl ?_); go_must (refine ap_list (v := (.slice (some ⟨gg48, 0, none⟩) (acc.len + 1) cap48)) rfl _ _ _ rfl rfl rfl rfl (by simp [Value.oneCell']) (by omega) ?_); intro gg54 cap54 wa54 _ _ _ hat54 _))
          refine ⟨⟨i + 1, true, _, _, (acc.app (.cons e n .nil)).app (.cons e1 n1 .nil), rfl, by go_num, by omega, by rw [Ord.len_snoc, Ord.len_snoc]; omega, fun h => (by cases h), (by have := HN1.out; rw [Ord.nodes_snoc, Ord.nodes_snoc]; simp only [cond_true, cond_false, Hid] at *; omega), inferInstance, Own.osnoc (by rw [Ord.len_snoc]; infer_instance), ?_, kp _ _ _, inferInstance, inferInstance⟩, by simp [intOf]; omega⟩
          haveI := OR.snoc (W := wa48) (x := acc) (xs := xs) (otr wa48 A') in_
          exact OR.snoc (otr _ A1) in1
        · go_wp2_with (first | ((with_reducible refine at_dst (N := 8) rfl ?_); refine ev_box (cs := #[.slice none 0 0, .int .i64 0]) (t := 116) rfl ?hr8 ?_; (case hr8 => first | (go_simp; done) | (go_simp; rfl)); intro g8 v8 _ _ _ _) | go_at_call 138; refine (odCmp_any _ e1 e _ _ A1 A' d1 c' _ (Nat.le_refl _) (otr _ A1) (otr _ A')).mono ?_; rintro e22 w22 ⟨he, hb⟩; rw [q] at he; subst he; haveI : Bel _ w22 := ⟨hb⟩; clear hb | ((with_reducible refine at_dst (N := 41) rfl ?_); refine ev_sl (cs := #[.slice A' e.len c', .int .i64 (wrap64 (n + n1))]) (t := 116) rfl ?hr41 ?_; (case hr41 => first | (go_simp; done) | (go_simp; rfl)); intro g41 v41 _ _ _ _) | (at_builtin; (with_reducible refine at_dst (N := 42) rfl ?_); go_must (refine ap_list (v := v) rfl _ _ _ rfl rfl rfl rfl (by simp [Value.oneCell']) (by omega) ?_); intro gg42 cap42 wa42 _ _ _ hat42 _))
          refine ⟨⟨i + 1, true, _, _, acc.app (.cons e (wrap64 (n + n1)) .nil), rfl, by go_num, by omega, by rw [Ord.len_snoc]; omega, fun h => (by cases h), (by have := HN1.out; rw [Ord.nodes_snoc]; simp only [cond_true, cond_false, Hid] at *; omega), inferInstance, Own.osnoc inferInstance, OR.snoc (otr _ A') (i64_wrap _), kp _ _ _, inferInstance, inferInstance⟩, by simp [intOf]; omega⟩
        · go_wp2_with (first | ((with_reducible refine at_dst (N := 8) rfl ?_); refine ev_box (cs := #[.slice none 0 0, .int .i64 0]) (t := 116) rfl ?hr8 ?_; (case hr8 => first | (go_simp; done) | (go_simp; rfl)); intro g8 v8 _ _ _ _) | go_at_call 138; refine (odCmp_any _ e1 e _ _ A1 A' d1 c' _ (Nat.le_refl _) (otr _ A1) (otr _ A')).mono ?_; rintro e22 w22 ⟨he, hb⟩; rw [q] at he; subst he; haveI : Bel _ w22 := ⟨hb⟩; clear hb | ((with_reducible refine at_dst (N := 53) rfl ?_); refine ev_sl (cs := #[.slice A1 e1.len d1, .int .i64 n1]) (t := 116) rfl ?hr53 ?_; (case hr53 => first | (go_simp; done) | (go_simp; rfl)); intro g53 v53 _ _ _ _) | (at_builtin; (with_reducible refine at_dst (N := 54) rfl ?_); go_must (refine ap_list (v := v) rfl _ _ _ rfl rfl rfl rfl (by simp [Value.oneCell']) (by omega) ?_); intro gg54 cap54 wa54 _ _ _ hat54 _))
          refine ⟨⟨i + 1, false, _, _, acc.app (.cons e1 n1 .nil), rfl, by go_num, by omega, by rw [Ord.len_snoc]; omega, fun _ => by rw [Ord.len_snoc]; omega, (by have := HN1.out; rw [Ord.nodes_snoc]; simp only [cond_true, cond_false, Hid] at *; omega), inferInstance, Own.osnoc inferInstance, OR.snoc (otr _ A1) in1, kp _ _ _, inferInstance, inferInstance⟩, by simp [intOf]; omega⟩
      · obtain ⟨q0, q⟩ : ∃ q0, ocmp e1 e = q0 := ⟨_, rfl⟩
        go_wp2_with (first | ((with_reducible refine at_dst (N := 8) rfl ?_); refine ev_box (cs := #[.slice none 0 0, .int .i64 0]) (t := 116) rfl ?hr8 ?_; (case hr8 => first | (go_simp; done) | (go_simp; rfl)); intro g8 v8 _ _ _ _) | go_at_call 138; refine (odCmp_any _ e1 e _ _ A1 A' d1 c' _ (Nat.le_refl _) (otr _ A1) (otr _ A')).mono ?_; rintro e22 w22 ⟨he, hb⟩; rw [q] at he; subst he; haveI : Bel _ w22 := ⟨hb⟩; clear hb | ((with_reducible refine at_dst (N := 53) rfl ?_); refine ev_sl (cs := #[.slice A1 e1.len d1, .int .i64 n1]) (t := 116) rfl ?hr53 ?_; (case hr53 => first | (go_simp; done) | (go_simp; rfl)); intro g53 v53 _ _ _ _) | (at_builtin; (with_reducible refine at_dst (N := 54) rfl ?_); go_must (refine ap_list (v := v) rfl _ _ _ rfl rfl rfl rfl (by simp [Value.oneCell']) (by omega) ?_); intro gg54 cap54 wa54 _ _ _ hat54 _))
        refine ⟨⟨i + 1, true, _, _, acc.app (.cons e1 n1 .nil), rfl, by go_num, by omega, by rw [Ord.len_snoc]; omega, fun h => (by cases h), (by have := HN1.out; rw [Ord.nodes_snoc]; simp only [cond_true, cond_false, Hid] at *; omega), inferInstance, Own.osnoc inferInstance, OR.snoc (otr _ A1) in1, kp _ _ _, inferInstance, inferInstance⟩, by simp [intOf]; omega⟩
    · obtain rfl : i = x.len := by omega
      have hac : acc.len ≤ 1099511627776 := by omega
      have HN1 : Hid (acc.nodes + 1 ≤ x.nodes + 1 + (bif dn then e.nodes + 1 else 0)) := by have := HN.out; rw [x.drop_of_ge _ (Nat.le_refl _)] at this; exact this
      cases dn
      · have ha := HA.out rfl
        go_wp2_with (first | ((with_reducible refine at_dst (N := 62) rfl ?_); refine ev_sl (cs := #[.slice A' e.len c', .int .i64 n]) (t := 116) rfl ?hr62 ?_; (case hr62 => first | (go_simp; done) | (go_simp; rfl)); intro g62 v62 _ _ _ _) | (at_builtin; (with_reducible refine at_dst (N := 63) rfl ?_); go_must (refine ap_list (v := v) rfl _ _ _ rfl rfl rfl rfl (by simp [Value.oneCell']) (by omega) ?_); intro gg63 cap63 wa63 _ _ _ hat63 _))
        refine bodyPost_ret (v := .agg #[.slice (some ⟨gg63, 0, none⟩) (acc.len + 1) cap63]) (by simp [results, Try.results123, go_sem]) rfl ?_
        refine ⟨acc.app (.cons e n .nil), by rw [Ord.len_snoc]; omega, (by have := HN1.out; rw [Ord.nodes_snoc]; simp only [cond_true, cond_false, Hid] at *; omega), some ⟨gg63, 0, none⟩, cap63, by rw [Ord.len_snoc], ?_, ext _ _⟩
        haveI : XDis X (.slice (some ⟨gg63, 0, none⟩) (acc.app (.cons e n .nil)).len cap63) := by rw [Ord.len_snoc]; exact xdis_low hX
        haveI := OR.snoc (W := wa63) (x := acc) (xs := xs) (otr wa63 A') in_
        haveI : Own wa63 (.slice (some ⟨gg63, 0, none⟩) (acc.app (.cons e n .nil)).len cap63) v5 116 2 (acc.app (.cons e n .nil)).len (xs ++ [.slice A' e.len c', .int .i64 n]) := by rw [Ord.len_snoc]; infer_instance
        haveI : OwR (.slice (some ⟨gg63, 0, none⟩) (acc.app (.cons e n .nil)).len cap63) v5 wa63 := by rw [Ord.len_snoc]; infer_instance
        exact osl_own X _ _ _ _
      · obtain ⟨Av, cv, rfl⟩ := own_slice (inferInstance : Own wr v v5 _ 2 acc.len xs).h
        go_wp2
        refine bodyPost_ret (v := .agg #[.slice Av acc.len cv]) (by simp [results, Try.results123, go_sem]) rfl ?_
        haveI : XDis X (.slice Av acc.len cv) := xdis_low hX
        exact ⟨acc, by omega, (by have := HN1.out; simp only [cond_true, cond_false, Hid] at *; omega), Av, cv, rfl, osl_own X _ _ _ _, ext _ _⟩
end Go.Proofs.Ytdcnmaklnciofaa
