/-
  Draws of ordinals; ordinals as surreal numbers (some number: the weak contract).
-/
import Derived.Test.YtdcnmaklnciofaaOMeet
import Derived.Test.YtdcnmaklnciofaaLZD
import Derived.Test.YtdcnmaklnciofaaSOwn
namespace Go.Proofs.Ytdcnmaklnciofaa
open Go.RowKit
set_option linter.unusedSimpArgs false
set_option linter.unusedVariables false

attribute [local go_sem high] has_cell has_frozen
theorem xl_lt (w W : World) [a : LeB w W] : ∀ k, XL w k → k < W.heap.size := fun k hk => Nat.lt_of_lt_of_le hk a.h
theorem otermP_nodes (n : Int) : (otermP .nil n).nodes ≤ 3 := by unfold otermP; split <;> simp [Ord.nodes]
theorem otermP_len (e : Ord) (n : Int) : (otermP e n).len ≤ 1 := by unfold otermP; split <;> simp [Ord.len]
set_option synthInstance.maxHeartbeats 2000000 in
set_option synthInstance.maxSize 4000 in
set_option maxHeartbeats 3200000 in
set_option maxRecDepth 100000 in
theorem ordinal_step (dp : Nat) (hdp : dp ≤ 100) (K : Int) (M : Nat) (hK : 0 ≤ K) (hM : 3 ≤ M)
    (ih : ∀ dq, dp = dq + 1 → ∀ (q : Int) (g : Nat) (k : Int) (w : World) [hc : Cur w g k], q = dq → k + K ≤ 70368744177664 →
      Calls Try.prog 90 #[.pointer (some ⟨g, 0, none⟩), .int .i64 q] w fun e w' => ∃ (x : Ord) (A : Option Addr) (c : Nat), e = .returned (.agg #[.slice A x.len c]) ∧ OSl (XL w) w' x A c ∧ x.len ≤ 3 ∧ x.nodes ≤ M ∧ Drew w g (k + K) w')
    (g : Nat) (k : Int) (w : World) [hc : Cur w g k] (hk : k + (100 + 4 * K) ≤ 70368744177664) :
    Calls Try.prog 90 #[.pointer (some ⟨g, 0, none⟩), .int .i64 dp] w fun e w' => ∃ (x : Ord) (A : Option Addr) (c : Nat), e = .returned (.agg #[.slice A x.len c]) ∧ OSl (XL w) w' x A c ∧ x.len ≤ 3 ∧ x.nodes ≤ 4 + 4 * M ∧ Drew w g (k + (100 + 4 * K)) w' := by
  by_cases h0 : dp = 0
  · subst h0
    go_enter Try.func90, Try.ntmps90
    go_wp2_with (first | ((with_reducible refine at_dst (N := 4) rfl ?_); refine ev_box (cs := #[.slice none 0 0]) (t := 90) rfl ?hr4 ?_; (case hr4 => first | (go_simp; done) | (go_simp; rfl)); intro g4 v4 _ _ _ _) | ((with_reducible refine at_dst (N := 5) rfl ?_); refine ev_box (cs := #[.slice none 0 0]) (t := 90) rfl ?hr5 ?_; (case hr5 => first | (go_simp; done) | (go_simp; rfl)); intro g5 v5 _ _ _ _) | ((fail_if_success (have _q := r12)); go_at_call 91; refine (pick_any _ g _ _ (by omega) (by omega)).mono ?_; rintro e12 w12 ⟨r12, rfl, ha12, hb12, h1, h2⟩; haveI := h1; haveI := h2; clear h1 h2) | ((fail_if_success (have _q := A13)); go_at_call 122; refine (odInt_any _ (XL _) _ (fun k hk => hk) (by unfold I64; omega)).mono ?_; rintro e13 w13 ⟨A13, c13, rfl, hs, hb⟩; haveI : Bel _ w13 := ⟨hb⟩; haveI := OT.arg hs; clear hs hb))
    refine bodyPost_ret (v := .agg #[.slice A13 (otermP .nil r12).len c13]) (by simp [results, Try.results90, go_sem]) rfl ?_
    have hl := otermP_len .nil r12
    have hn := otermP_nodes r12
    exact ⟨otermP .nil r12, A13, c13, rfl, otx (XL w) _ A13, by omega, by omega, drew _ _ _ (by omega)⟩
  · obtain ⟨dq, rfl⟩ : ∃ dq, dp = dq + 1 := ⟨dp - 1, by omega⟩
    go_enter Try.func90, Try.ntmps90
    go_wp2_with (first | ((with_reducible refine at_dst (N := 4) rfl ?_); refine ev_box (cs := #[.slice none 0 0]) (t := 90) rfl ?hr4 ?_; (case hr4 => first | (go_simp; done) | (go_simp; rfl)); intro g4 v4 _ _ _ _) | ((with_reducible refine at_dst (N := 5) rfl ?_); refine ev_box (cs := #[.slice none 0 0]) (t := 90) rfl ?hr5 ?_; (case hr5 => first | (go_simp; done) | (go_simp; rfl)); intro g5 v5 _ _ _ _) | ((fail_if_success (have _q := r16)); go_at_call 84; (with_reducible refine (among_any (fun j => 0 ≤ j ∧ j ≤ 3) _ 6 _ g _ _ (by omega) (by omega) (fun W hW => by haveI := hW; exact ListOk.of (by first | (simp; done) | (simp; omega)) rfl)).mono ?_); rintro e16 w16 ⟨r16, rfl, hp16, h1, h2⟩; haveI := h1; haveI := h2; clear h1 h2))
    go_loopw [6] (fun s wr => ∃ (m : Nat) (out : Ord) (Ao : Option Addr) (co : Nat), s = .int .i64 m ∧ out.len + m ≤ 3 ∧ out.nodes + (M + 1) * m ≤ 1 + 3 * (M + 1) ∧ Has wr g5 (.cells #[.slice Ao out.len co] 90 (0, 0)) ∧ OT wr Ao (XV wr (XL v5)) out co ∧ Kp v5 (XU (XE g) (XE g5)) wr ∧ Cur wr g (k + 50 + 3 * K - (10 + K) * m)) (fun s _ => (intOf s).toNat)
    case atStart =>
      exact ⟨r16.toNat, .nil, none, 0, by go_num, by simp [Ord.len]; omega, (by have : (M + 1) * r16.toNat ≤ (M + 1) * 3 := Nat.mul_le_mul_left _ (by omega); simp only [Ord.nodes]; omega), inferInstance, ⟨OSl.nil _ _⟩, kp _ _ _, Cur.le inferInstance (by have : (10 + K) * (r16.toNat : Int) ≤ (10 + K) * 3 := Int.mul_le_mul_of_nonneg_left (by omega) (by omega); omega)⟩
    case round =>
      obtain ⟨m, out, Ao, co, rfl, hm, hno, _, _, _, hcr⟩ := hrel
      haveI := hcr
      by_cases hm0 : m = 0
      · subst hm0
        go_wp2
        refine bodyPost_ret (v := .agg #[.slice Ao out.len co]) (by simp [results, Try.results90, go_sem]) rfl ?_
        exact ⟨out, Ao, co, rfl, otx (XL w) _ Ao, by omega, by omega, drew _ _ _ (by omega)⟩
      · have hm1 : (1 : Int) ≤ m := by omega
        have hp1 : k + 50 + 3 * K - (10 + K) * (m : Int) + 10 + K ≤ k + 50 + 3 * K := by
          have : (10 + K) * 1 ≤ (10 + K) * (m : Int) := Int.mul_le_mul_of_nonneg_left hm1 (by omega)
          omega
        have hp2 : k + 50 + 3 * K - (10 + K) * (m : Int) + 10 + K = k + 50 + 3 * K - (10 + K) * ((m - 1 : Nat) : Int) := by
          rw [show ((m - 1 : Nat) : Int) = (m : Int) - 1 by omega, Int.mul_sub]; omega
        have hp3 : (M + 1) * m = (M + 1) * (m - 1) + (M + 1) := by
          obtain ⟨j, rfl⟩ : ∃ j, m = j + 1 := ⟨m - 1, by omega⟩
          rw [Nat.add_sub_cancel, Nat.mul_add]; omega
        generalize k + 50 + 3 * K - (10 + K) * (m : Int) = p0 at *
        go_wp2_with (first | ((fail_if_success (have _q := r22)); go_at_call 91; refine (pick_any _ g _ _ (by omega) (by omega)).mono ?_; rintro e22 w22 ⟨r22, rfl, ha22, hb22, h1, h2⟩; haveI := h1; haveI := h2; clear h1 h2) | ((fail_if_success (have _q := A23)); go_at_call 122; refine (odInt_any _ (XL _) _ (fun k hk => hk) (by unfold I64; omega)).mono ?_; rintro e23 w23 ⟨A23, c23, rfl, hs, hb⟩; haveI : Bel _ w23 := ⟨hb⟩; haveI := OT.arg hs; clear hs hb) | ((fail_if_success (have _q := r26)); go_at_call 91; refine (pick_any _ g _ _ (by omega) (by omega)).mono ?_; rintro e26 w26 ⟨r26, rfl, ha26, hb26, h1, h2⟩; haveI := h1; haveI := h2; clear h1 h2) | ((fail_if_success (have _q := r29)); go_at_call 84; (with_reducible refine (among_any (fun j => 0 ≤ j ∧ j ≤ 1000) _ 5 _ g _ _ (by omega) (by omega) (fun W hW => by haveI := hW; exact ListOk.of (by first | (simp; done) | (simp; omega)) rfl)).mono ?_); rintro e29 w29 ⟨r29, rfl, hp29, h1, h2⟩; haveI := h1; haveI := h2; clear h1 h2) | ((with_reducible refine at_dst (N := 7) rfl ?_); refine ev_box (cs := #[.slice none 0 0, .int .i64 0]) (t := 116) rfl ?hr7 ?_; (case hr7 => first | (go_simp; done) | (go_simp; rfl)); intro g7 v7 _ _ _ _) | ((fail_if_success (have _q := r32)); go_at_call 40; refine (one_any _ g _ _ (by omega) (by omega)).mono ?_; rintro e32 w32 ⟨r32, rfl, h1, h2⟩; haveI := h1; haveI := h2; clear h1 h2) | ((fail_if_success (have _q := A36)); go_at_call 90; refine (ih dq rfl _ g _ _ (by first | omega | (unfold wrap64; omega)) (by omega)).mono ?_; rintro e36 w36 ⟨x36, A36, c36, rfl, h0, hl36, hn36, h1, h2⟩; haveI := h1; haveI := h2; haveI := OT.arg h0; clear h0 h1 h2) | (go_at_call 123; (with_reducible refine (odMeet_any out x36 _ (XL v5) Ao A36 co c36 _ ?_ ?_ ?_ ?_ ?_).mono ?_); (exact xl_lt v5 _); (exact otx (XL v5) _ Ao); (exact otx (XL v5) _ A36); (focus (unfold I64; omega)); (focus omega); rintro e40 w40 ⟨z40, hl40, hn40, A40, c40, rfl, hs, hb⟩; haveI : Bel _ w40 := ⟨hb⟩; haveI := OT.arg hs; clear hs hb) | (go_at_call 123; (with_reducible refine (odMeet_any out (otermP .nil r22) _ (XL v5) Ao A23 co c23 _ ?_ ?_ ?_ ?_ ?_).mono ?_); (exact xl_lt v5 _); (exact otx (XL v5) _ Ao); (exact otx (XL v5) _ A23); (focus (unfold I64; omega)); (focus omega); rintro e40 w40 ⟨z40, hl40, hn40, A40, c40, rfl, hs, hb⟩; haveI : Bel _ w40 := ⟨hb⟩; haveI := OT.arg hs; clear hs hb))
        all_goals
          have hn := otermP_nodes r22
          exact ⟨⟨m - 1, z40, A40, c40, by go_num, by omega, by omega, inferInstance, OT.lp (XL v5), kp _ _ _, Cur.le inferInstance (by omega)⟩, by simp [intOf]; omega⟩

def cO : Nat → Int
  | 0 => 100
  | d + 1 => 100 + 4 * cO d
def cM : Nat → Nat
  | 0 => 16
  | d + 1 => 4 + 4 * cM d
theorem cO_pos : ∀ d, 0 ≤ cO d
  | 0 => by simp [cO]
  | d + 1 => by have := cO_pos d; simp only [cO]; omega
theorem cM_pos : ∀ d, 3 ≤ cM d
  | 0 => by simp [cM]
  | d + 1 => by have := cM_pos d; simp only [cM]; omega
theorem ordinal_any (dp : Nat) (hdp : dp ≤ 100) : ∀ (q : Int) (g : Nat) (k : Int) (w : World) [hc : Cur w g k], q = dp → k + cO dp ≤ 70368744177664 →
    Calls Try.prog 90 #[.pointer (some ⟨g, 0, none⟩), .int .i64 q] w fun e w' => ∃ (x : Ord) (A : Option Addr) (c : Nat), e = .returned (.agg #[.slice A x.len c]) ∧ OSl (XL w) w' x A c ∧ x.len ≤ 3 ∧ x.nodes ≤ cM dp ∧ Drew w g (k + cO dp) w' := by
  induction dp with
  | zero =>
    rintro q g k w hc rfl hk
    exact ordinal_step 0 hdp 0 3 (by omega) (by omega) (fun dq h => by omega) g k w (by simp only [cO] at hk; omega)
  | succ dp ih =>
    rintro q g k w hc rfl hk
    exact ordinal_step (dp + 1) hdp (cO dp) (cM dp) (cO_pos dp) (cM_pos dp) (fun dq h => by cases h; exact ih (by omega)) g k w (by simp only [cO] at hk; omega)

set_option synthInstance.maxHeartbeats 2000000 in
set_option synthInstance.maxSize 4000 in
set_option maxHeartbeats 3200000 in
set_option maxRecDepth 100000 in
theorem suFrom_any (N : Nat) (hN : N ≤ 1099511627776) : ∀ (x : Ord) (X : Nat → Prop) (A : Option Addr) (c : Nat) (w : World), x.nodes ≤ N → OSl X w x A c →
    Calls Try.prog 89 #[.agg #[.slice A x.len c]] w fun e w' => ∃ (z : Sur) (A' : Option Addr) (c' : Nat), e = .returned (.agg #[.slice A' z.len c']) ∧ z.len = x.len ∧ Ro w' A' w w' z c' ∧ Below w.heap.size w w' := by
  induction N with
  | zero => intro x X A c w hx; have := x.len_lt_nodes; omega
  | succ N ih =>
    intro x X A c w hx sx
    have IH := Lib.hid (ih (by omega)); clear ih
    have lx := sx.cap
    have lx' := sx.le
    have lx2 := x.len_lt_nodes
    unfold maxLen at lx
    haveI ix := OT.arg sx
    clear sx
    go_enter Try.func89, Try.ntmps89
    go_wp2_with (first | ((with_reducible refine at_dst (N := 1) rfl ?_); refine ev_box (cs := #[.slice A x.len c]) (t := 90) rfl ?hr1 ?_; (case hr1 => first | (go_simp; done) | (go_simp; rfl)); intro g1 v1 _ _ _ _) | ((with_reducible refine at_dst (N := 2) rfl ?_); refine ev_box (cs := #[.slice none 0 0]) (t := 26) rfl ?hr2 ?_; (case hr2 => first | (go_simp; done) | (go_simp; rfl)); intro g2 v2 _ _ _ _) | ((with_reducible refine at_dst (N := 3) rfl ?_); refine ev_box (cs := #[.slice none 0 0]) (t := 26) rfl ?hr3 ?_; (case hr3 => first | (go_simp; done) | (go_simp; rfl)); intro g3 v3 _ _ _ _))
    go_loopw [10] (fun s wr => ∃ (i : Nat) (out : Sur) (Ao : Option Addr) (co : Nat), s = .int .i64 i ∧ i ≤ x.len ∧ Hid (out.len = i) ∧ Has wr g3 (.cells #[.slice Ao out.len co] 26 (0, 0)) ∧ Ro wr Ao v3 wr out co ∧ Kp v3 (XE g3) wr ∧ OT wr A (XV w X) x c) (fun s _ => x.len - (intOf s).toNat)
    case atStart => exact ⟨0, .nil, none, 0, rfl, Nat.zero_le _, rfl, inferInstance, Ro.nil _ _ _, kp _ _ _, inferInstance⟩
    case round =>
      obtain ⟨i, out, Ao, co, rfl, hi, hol, _, _, _, ix4⟩ := hrel
      clear ix
      haveI := Ro.rg wr Ao
      have hi0' : (0 : Int) ≤ (i : Int) := by omega
      by_cases h1 : i < x.len
      · obtain ⟨b, o, e1, n1, A1, d1, rfl, hxk, f0, f1, se, in1, _, hbl⟩ := ix4.h.at_ h1
        haveI : OT wr A1 _ e1 d1 := ⟨se⟩
        have hnd := Ord.nodes_drop hxk
        clear se hxk
        have h1' : (i : Int) < (x.len : Int) := by omega
        have hol2 : out.len ≤ 1099511627776 := by have := hol.out; omega
        go_wp2_with (first | ((with_reducible refine at_dst (N := 5) rfl ?_); refine ev_box (cs := #[.slice none 0 0, .int .i64 0]) (t := 116) rfl ?hr5 ?_; (case hr5 => first | (go_simp; done) | (go_simp; rfl)); intro g5 v5 _ _ _ _))
        refine wp_region_held_drew (S := (fun w' => w'.cell? ⟨g5, 0, none⟩ = some (.slice A1 e1.len d1) ∧ w'.cell? ⟨g5, 1, none⟩ = some (.int .i64 n1))) (by kernel_rfl) ?hSn1_ (fun hHeld => ?hRn1_)
        case hSn1_ => (exact has2)
        refine wpAnyH_take (i := 0) (oi := _) (v := ?vn1_1) rfl (by kernel_rfl) (by kernel_rfl) (by kernel_rfl) (fun _ _ _ h => h) (Or.inl ⟨by rfl, ?hyn1_1⟩) (by assumption) ?hRn1_1
        case hyn1_1 => (intro w hSw; (try dsimp only at hSw); go_simp; (try with_reducible rfl))
        try simp only [Act.put, List.getElem_toArray, List.getElem_cons_zero, List.getElem_cons_succ, List.setIfInBounds_toArray, List.set_cons_zero, List.set_cons_succ]
        refine wpAnyH_take (i := 2) (oi := _) (v := ?vn1_2) rfl (by kernel_rfl) (by kernel_rfl) (by kernel_rfl) (fun _ _ _ h => h) (Or.inl ⟨by rfl, ?hyn1_2⟩) (by assumption) ?hRn1_2
        case hyn1_2 => (intro w hSw; (try dsimp only at hSw); go_simp; (try with_reducible rfl))
        try simp only [Act.put, List.getElem_toArray, List.getElem_cons_zero, List.getElem_cons_succ, List.setIfInBounds_toArray, List.set_cons_zero, List.set_cons_succ]
        refine wpAnyH_take (i := 3) (oi := _) (v := ?vn1_3) rfl (by kernel_rfl) (by kernel_rfl) (by kernel_rfl) (fun _ _ _ h => h) (Or.inl ⟨by rfl, ?hyn1_3⟩) (by assumption) ?hRn1_3
        case hyn1_3 => (intro w hSw; (try dsimp only at hSw); go_simp; (try with_reducible rfl))
        try simp only [Act.put, List.getElem_toArray, List.getElem_cons_zero, List.getElem_cons_succ, List.setIfInBounds_toArray, List.set_cons_zero, List.set_cons_succ]
        refine wpAnyH_take (i := 5) (oi := _) (v := ?vn1_4) rfl (by kernel_rfl) (by kernel_rfl) (by kernel_rfl) (fun _ _ _ h => h) (Or.inl ⟨by rfl, ?hyn1_4⟩) (by assumption) ?hRn1_4
        case hyn1_4 => (intro w hSw; (try dsimp only at hSw); go_simp; (try with_reducible rfl))
        try simp only [Act.put, List.getElem_toArray, List.getElem_cons_zero, List.getElem_cons_succ, List.setIfInBounds_toArray, List.set_cons_zero, List.set_cons_succ]
        refine wpAnyH_take (i := 6) (oi := _) (v := ?vn1_5) rfl (by kernel_rfl) (by kernel_rfl) (by kernel_rfl) (fun _ _ _ h => h) (Or.inl ⟨by rfl, ?hyn1_5⟩) (by assumption) ?hRn1_5
        case hyn1_5 => (intro w hSw; (try dsimp only at hSw); go_simp; (try with_reducible rfl))
        try simp only [Act.put, List.getElem_toArray, List.getElem_cons_zero, List.getElem_cons_succ, List.setIfInBounds_toArray, List.set_cons_zero, List.set_cons_succ]
        refine wpAnyH_ready (rs := [1, 4]) (by kernel_rfl) (by simp) ?_
        refine AllReadyH.cons (o := _) rfl (fun K hK => ?bn1_6) (AllReadyH.cons (o := _) rfl (fun K hK => ?bn1_7) (AllReadyH.nil))
        case' bn1_6 =>
          go_simp
          refine hK.out _ _ ?hSn1_8 (fun hHeld => ?hRn1_8)
          case hSn1_8 => ((try dsimp only); exact has2)
          clear hK K
          try simp only [Act.put, List.getElem_toArray, List.getElem_cons_zero, List.getElem_cons_succ, List.setIfInBounds_toArray, List.set_cons_zero, List.set_cons_succ]
          refine wpAnyH_ready (rs := [4]) (by kernel_rfl) (by simp) ?_
          refine AllReadyH.cons (o := _) rfl (fun K hK => ?_) AllReadyH.nil
          go_simp
          (go_at_call 89; refine (IH.out e1 _ A1 d1 _ (by omega) (otr _ A1)).mono ?_; rintro e18 w18 ⟨x18, A18, c18, rfl, hlx, h0, hb⟩; clear hlx; haveI : Bel _ w18 := ⟨hb⟩; haveI := h0; clear h0 hb)
          go_wp2_with fail
          refine hK.out _ _ ?hSn1_9 (fun hHeld => ?hRn1_9)
          case hSn1_9 => ((try dsimp only); exact has2)
          clear hK K
          try simp only [Act.put, List.getElem_toArray, List.getElem_cons_zero, List.getElem_cons_succ, List.setIfInBounds_toArray, List.set_cons_zero, List.set_cons_succ]
          refine wpAnyH_ready (rs := [7]) (by kernel_rfl) (by simp) ?_
          refine AllReadyH.cons (o := _) rfl (fun K hK => ?_) AllReadyH.nil
          go_simp
          (go_at_call 92; refine (shInt_any _ _).mono ?_; rintro e21 w21 ⟨rfl, hb⟩; haveI : Bel _ w21 := ⟨hb⟩; clear hb)
          go_wp2_with fail
          refine hK.out _ _ ?hSn1_10 (fun hHeld => ?hRn1_10)
          case hSn1_10 => ((try dsimp only); exact has2)
          clear hK K
          try simp only [Act.put, List.getElem_toArray, List.getElem_cons_zero, List.getElem_cons_succ, List.setIfInBounds_toArray, List.set_cons_zero, List.set_cons_succ]
          refine wpAnyH_take (i := 8) (oi := _) (v := ?vn1_11) rfl (by kernel_rfl) (by kernel_rfl) (by kernel_rfl) (fun _ _ _ h => h) (Or.inl ⟨by rfl, ?hyn1_11⟩) (by assumption) ?hRn1_11
          case hyn1_11 => (intro w hSw; (try dsimp only at hSw); go_simp; (try with_reducible rfl))
          try simp only [Act.put, List.getElem_toArray, List.getElem_cons_zero, List.getElem_cons_succ, List.setIfInBounds_toArray, List.set_cons_zero, List.set_cons_succ]
          refine wpAnyH_ready (rs := [9]) (by kernel_rfl) (by simp) ?_
          refine AllReadyH.cons (o := _) rfl (fun K hK => ?_) AllReadyH.nil
          go_simp
          refine hK.out _ _ ?hSn1_12 (fun hHeld => ?hRn1_12)
          case hSn1_12 => ((try dsimp only); exact has2)
          clear hK K
          try simp only [Act.put, List.getElem_toArray, List.getElem_cons_zero, List.getElem_cons_succ, List.setIfInBounds_toArray, List.set_cons_zero, List.set_cons_succ]
          refine wpAnyH_ready (rs := [10]) (by kernel_rfl) (by simp) ?_
          refine AllReadyH.cons (o := _) rfl (fun K hK => ?_) AllReadyH.nil
          (refine ro_step (A := Ao) (x := out) (c := co) (ex := x18) (Ae := A18) (ce := c18) (n := n1) (d := 1) (by rfl) _ _ (by rfl) (by rfl) (by rfl) (ro_arg _ A18 v3 _) in1 (by unfold I64; omega) (by omega) ?_; intro A24 c24 w24 _ _)
          refine hK.out _ _ ?hSn1_13 (fun hHeld => ?hRn1_13)
          case hSn1_13 => ((try dsimp only); exact has2)
          clear hK K
          try simp only [Act.put, List.getElem_toArray, List.getElem_cons_zero, List.getElem_cons_succ, List.setIfInBounds_toArray, List.set_cons_zero, List.set_cons_succ]
          refine wpAnyH_take (i := 11) (oi := _) (v := ?vn1_14) rfl (by kernel_rfl) (by kernel_rfl) (by kernel_rfl) (fun _ _ _ h => h) (Or.inl ⟨by rfl, ?hyn1_14⟩) (by assumption) ?hRn1_14
          case hyn1_14 => (intro w hSw; (try dsimp only at hSw); go_simp; (try with_reducible rfl))
          try simp only [Act.put, List.getElem_toArray, List.getElem_cons_zero, List.getElem_cons_succ, List.setIfInBounds_toArray, List.set_cons_zero, List.set_cons_succ]
          refine wpAnyH_ready (rs := [12]) (by kernel_rfl) (by simp) ?_
          refine AllReadyH.cons (o := _) rfl (fun K hK => ?_) AllReadyH.nil
          go_simp
          refine hK.out _ _ ?hSn1_15 (fun hHeld => ?hRn1_15)
          case hSn1_15 => ((try dsimp only); exact has2)
          clear hK K
          try simp only [Act.put, List.getElem_toArray, List.getElem_cons_zero, List.getElem_cons_succ, List.setIfInBounds_toArray, List.set_cons_zero, List.set_cons_succ]
          refine wpAnyH_done (by kernel_rfl) ?_ _
        case' bn1_7 =>
          go_simp
          (go_at_call 89; refine (IH.out e1 _ A1 d1 _ (by omega) (otr _ A1)).mono ?_; rintro e18 w18 ⟨x18, A18, c18, rfl, hlx, h0, hb⟩; clear hlx; haveI : Bel _ w18 := ⟨hb⟩; haveI := h0; clear h0 hb)
          go_wp2_with fail
          refine hK.out _ _ ?hSn1_16 (fun hHeld => ?hRn1_16)
          case hSn1_16 => ((try dsimp only); exact has2)
          clear hK K
          try simp only [Act.put, List.getElem_toArray, List.getElem_cons_zero, List.getElem_cons_succ, List.setIfInBounds_toArray, List.set_cons_zero, List.set_cons_succ]
          refine wpAnyH_ready (rs := [1, 7]) (by kernel_rfl) (by simp) ?_
          refine AllReadyH.cons (o := _) rfl (fun K hK => ?bn1_17) (AllReadyH.cons (o := _) rfl (fun K hK => ?bn1_18) (AllReadyH.nil))
          case' bn1_17 =>
            go_simp
            refine hK.out _ _ ?hSn1_19 (fun hHeld => ?hRn1_19)
            case hSn1_19 => ((try dsimp only); exact has2)
            clear hK K
            try simp only [Act.put, List.getElem_toArray, List.getElem_cons_zero, List.getElem_cons_succ, List.setIfInBounds_toArray, List.set_cons_zero, List.set_cons_succ]
            refine wpAnyH_ready (rs := [7]) (by kernel_rfl) (by simp) ?_
            refine AllReadyH.cons (o := _) rfl (fun K hK => ?_) AllReadyH.nil
            go_simp
            (go_at_call 92; refine (shInt_any _ _).mono ?_; rintro e21 w21 ⟨rfl, hb⟩; haveI : Bel _ w21 := ⟨hb⟩; clear hb)
            go_wp2_with fail
            refine hK.out _ _ ?hSn1_20 (fun hHeld => ?hRn1_20)
            case hSn1_20 => ((try dsimp only); exact has2)
            clear hK K
            try simp only [Act.put, List.getElem_toArray, List.getElem_cons_zero, List.getElem_cons_succ, List.setIfInBounds_toArray, List.set_cons_zero, List.set_cons_succ]
            refine wpAnyH_take (i := 8) (oi := _) (v := ?vn1_21) rfl (by kernel_rfl) (by kernel_rfl) (by kernel_rfl) (fun _ _ _ h => h) (Or.inl ⟨by rfl, ?hyn1_21⟩) (by assumption) ?hRn1_21
            case hyn1_21 => (intro w hSw; (try dsimp only at hSw); go_simp; (try with_reducible rfl))
            try simp only [Act.put, List.getElem_toArray, List.getElem_cons_zero, List.getElem_cons_succ, List.setIfInBounds_toArray, List.set_cons_zero, List.set_cons_succ]
            refine wpAnyH_ready (rs := [9]) (by kernel_rfl) (by simp) ?_
            refine AllReadyH.cons (o := _) rfl (fun K hK => ?_) AllReadyH.nil
            go_simp
            refine hK.out _ _ ?hSn1_22 (fun hHeld => ?hRn1_22)
            case hSn1_22 => ((try dsimp only); exact has2)
            clear hK K
            try simp only [Act.put, List.getElem_toArray, List.getElem_cons_zero, List.getElem_cons_succ, List.setIfInBounds_toArray, List.set_cons_zero, List.set_cons_succ]
            refine wpAnyH_ready (rs := [10]) (by kernel_rfl) (by simp) ?_
            refine AllReadyH.cons (o := _) rfl (fun K hK => ?_) AllReadyH.nil
            (refine ro_step (A := Ao) (x := out) (c := co) (ex := x18) (Ae := A18) (ce := c18) (n := n1) (d := 1) (by rfl) _ _ (by rfl) (by rfl) (by rfl) (ro_arg _ A18 v3 _) in1 (by unfold I64; omega) (by omega) ?_; intro A24 c24 w24 _ _)
            refine hK.out _ _ ?hSn1_23 (fun hHeld => ?hRn1_23)
            case hSn1_23 => ((try dsimp only); exact has2)
            clear hK K
            try simp only [Act.put, List.getElem_toArray, List.getElem_cons_zero, List.getElem_cons_succ, List.setIfInBounds_toArray, List.set_cons_zero, List.set_cons_succ]
            refine wpAnyH_take (i := 11) (oi := _) (v := ?vn1_24) rfl (by kernel_rfl) (by kernel_rfl) (by kernel_rfl) (fun _ _ _ h => h) (Or.inl ⟨by rfl, ?hyn1_24⟩) (by assumption) ?hRn1_24
            case hyn1_24 => (intro w hSw; (try dsimp only at hSw); go_simp; (try with_reducible rfl))
            try simp only [Act.put, List.getElem_toArray, List.getElem_cons_zero, List.getElem_cons_succ, List.setIfInBounds_toArray, List.set_cons_zero, List.set_cons_succ]
            refine wpAnyH_ready (rs := [12]) (by kernel_rfl) (by simp) ?_
            refine AllReadyH.cons (o := _) rfl (fun K hK => ?_) AllReadyH.nil
            go_simp
            refine hK.out _ _ ?hSn1_25 (fun hHeld => ?hRn1_25)
            case hSn1_25 => ((try dsimp only); exact has2)
            clear hK K
            try simp only [Act.put, List.getElem_toArray, List.getElem_cons_zero, List.getElem_cons_succ, List.setIfInBounds_toArray, List.set_cons_zero, List.set_cons_succ]
            refine wpAnyH_done (by kernel_rfl) ?_ _
          case' bn1_18 =>
            go_simp
            (go_at_call 92; refine (shInt_any _ _).mono ?_; rintro e21 w21 ⟨rfl, hb⟩; haveI : Bel _ w21 := ⟨hb⟩; clear hb)
            go_wp2_with fail
            refine hK.out _ _ ?hSn1_26 (fun hHeld => ?hRn1_26)
            case hSn1_26 => ((try dsimp only); exact has2)
            clear hK K
            try simp only [Act.put, List.getElem_toArray, List.getElem_cons_zero, List.getElem_cons_succ, List.setIfInBounds_toArray, List.set_cons_zero, List.set_cons_succ]
            refine wpAnyH_take (i := 8) (oi := _) (v := ?vn1_27) rfl (by kernel_rfl) (by kernel_rfl) (by kernel_rfl) (fun _ _ _ h => h) (Or.inl ⟨by rfl, ?hyn1_27⟩) (by assumption) ?hRn1_27
            case hyn1_27 => (intro w hSw; (try dsimp only at hSw); go_simp; (try with_reducible rfl))
            try simp only [Act.put, List.getElem_toArray, List.getElem_cons_zero, List.getElem_cons_succ, List.setIfInBounds_toArray, List.set_cons_zero, List.set_cons_succ]
            refine wpAnyH_ready (rs := [1, 9]) (by kernel_rfl) (by simp) ?_
            refine AllReadyH.cons (o := _) rfl (fun K hK => ?bn1_28) (AllReadyH.cons (o := _) rfl (fun K hK => ?bn1_29) (AllReadyH.nil))
            case' bn1_28 =>
              go_simp
              refine hK.out _ _ ?hSn1_30 (fun hHeld => ?hRn1_30)
              case hSn1_30 => ((try dsimp only); exact has2)
              clear hK K
              try simp only [Act.put, List.getElem_toArray, List.getElem_cons_zero, List.getElem_cons_succ, List.setIfInBounds_toArray, List.set_cons_zero, List.set_cons_succ]
              refine wpAnyH_ready (rs := [9]) (by kernel_rfl) (by simp) ?_
              refine AllReadyH.cons (o := _) rfl (fun K hK => ?_) AllReadyH.nil
              go_simp
              refine hK.out _ _ ?hSn1_31 (fun hHeld => ?hRn1_31)
              case hSn1_31 => ((try dsimp only); exact has2)
              clear hK K
              try simp only [Act.put, List.getElem_toArray, List.getElem_cons_zero, List.getElem_cons_succ, List.setIfInBounds_toArray, List.set_cons_zero, List.set_cons_succ]
              refine wpAnyH_ready (rs := [10]) (by kernel_rfl) (by simp) ?_
              refine AllReadyH.cons (o := _) rfl (fun K hK => ?_) AllReadyH.nil
              (refine ro_step (A := Ao) (x := out) (c := co) (ex := x18) (Ae := A18) (ce := c18) (n := n1) (d := 1) (by rfl) _ _ (by rfl) (by rfl) (by rfl) (ro_arg _ A18 v3 _) in1 (by unfold I64; omega) (by omega) ?_; intro A24 c24 w24 _ _)
              refine hK.out _ _ ?hSn1_32 (fun hHeld => ?hRn1_32)
              case hSn1_32 => ((try dsimp only); exact has2)
              clear hK K
              try simp only [Act.put, List.getElem_toArray, List.getElem_cons_zero, List.getElem_cons_succ, List.setIfInBounds_toArray, List.set_cons_zero, List.set_cons_succ]
              refine wpAnyH_take (i := 11) (oi := _) (v := ?vn1_33) rfl (by kernel_rfl) (by kernel_rfl) (by kernel_rfl) (fun _ _ _ h => h) (Or.inl ⟨by rfl, ?hyn1_33⟩) (by assumption) ?hRn1_33
              case hyn1_33 => (intro w hSw; (try dsimp only at hSw); go_simp; (try with_reducible rfl))
              try simp only [Act.put, List.getElem_toArray, List.getElem_cons_zero, List.getElem_cons_succ, List.setIfInBounds_toArray, List.set_cons_zero, List.set_cons_succ]
              refine wpAnyH_ready (rs := [12]) (by kernel_rfl) (by simp) ?_
              refine AllReadyH.cons (o := _) rfl (fun K hK => ?_) AllReadyH.nil
              go_simp
              refine hK.out _ _ ?hSn1_34 (fun hHeld => ?hRn1_34)
              case hSn1_34 => ((try dsimp only); exact has2)
              clear hK K
              try simp only [Act.put, List.getElem_toArray, List.getElem_cons_zero, List.getElem_cons_succ, List.setIfInBounds_toArray, List.set_cons_zero, List.set_cons_succ]
              refine wpAnyH_done (by kernel_rfl) ?_ _
            case' bn1_29 =>
              go_simp
              refine hK.out _ _ ?hSn1_35 (fun hHeld => ?hRn1_35)
              case hSn1_35 => ((try dsimp only); exact has2)
              clear hK K
              try simp only [Act.put, List.getElem_toArray, List.getElem_cons_zero, List.getElem_cons_succ, List.setIfInBounds_toArray, List.set_cons_zero, List.set_cons_succ]
              refine wpAnyH_ready (rs := [1]) (by kernel_rfl) (by simp) ?_
              refine AllReadyH.cons (o := _) rfl (fun K hK => ?_) AllReadyH.nil
              go_simp
              refine hK.out _ _ ?hSn1_36 (fun hHeld => ?hRn1_36)
              case hSn1_36 => ((try dsimp only); exact has2)
              clear hK K
              try simp only [Act.put, List.getElem_toArray, List.getElem_cons_zero, List.getElem_cons_succ, List.setIfInBounds_toArray, List.set_cons_zero, List.set_cons_succ]
              refine wpAnyH_ready (rs := [10]) (by kernel_rfl) (by simp) ?_
              refine AllReadyH.cons (o := _) rfl (fun K hK => ?_) AllReadyH.nil
              (refine ro_step (A := Ao) (x := out) (c := co) (ex := x18) (Ae := A18) (ce := c18) (n := n1) (d := 1) (by rfl) _ _ (by rfl) (by rfl) (by rfl) (ro_arg _ A18 v3 _) in1 (by unfold I64; omega) (by omega) ?_; intro A24 c24 w24 _ _)
              refine hK.out _ _ ?hSn1_37 (fun hHeld => ?hRn1_37)
              case hSn1_37 => ((try dsimp only); exact has2)
              clear hK K
              try simp only [Act.put, List.getElem_toArray, List.getElem_cons_zero, List.getElem_cons_succ, List.setIfInBounds_toArray, List.set_cons_zero, List.set_cons_succ]
              refine wpAnyH_take (i := 11) (oi := _) (v := ?vn1_38) rfl (by kernel_rfl) (by kernel_rfl) (by kernel_rfl) (fun _ _ _ h => h) (Or.inl ⟨by rfl, ?hyn1_38⟩) (by assumption) ?hRn1_38
              case hyn1_38 => (intro w hSw; (try dsimp only at hSw); go_simp; (try with_reducible rfl))
              try simp only [Act.put, List.getElem_toArray, List.getElem_cons_zero, List.getElem_cons_succ, List.setIfInBounds_toArray, List.set_cons_zero, List.set_cons_succ]
              refine wpAnyH_ready (rs := [12]) (by kernel_rfl) (by simp) ?_
              refine AllReadyH.cons (o := _) rfl (fun K hK => ?_) AllReadyH.nil
              go_simp
              refine hK.out _ _ ?hSn1_39 (fun hHeld => ?hRn1_39)
              case hSn1_39 => ((try dsimp only); exact has2)
              clear hK K
              try simp only [Act.put, List.getElem_toArray, List.getElem_cons_zero, List.getElem_cons_succ, List.setIfInBounds_toArray, List.set_cons_zero, List.set_cons_succ]
              refine wpAnyH_done (by kernel_rfl) ?_ _
        all_goals
          go_wp2
          exact ⟨⟨i + 1, out.app (.cons x18 n1 1 .nil), A24, c24, by go_num, by omega, by have := hol.out; show _ = _; rw [Sur.len_snoc]; omega, by rw [Sur.len_snoc]; infer_instance, Ro.lp, kp _ _ _, inferInstance⟩, by simp [intOf]; omega⟩
      · obtain rfl : i = x.len := by omega
        go_wp2
        refine bodyPost_ret (v := .agg #[.slice Ao out.len co]) (by simp [results, Try.results89, go_sem]) rfl ?_
        exact ⟨out, Ao, co, rfl, hol.out, Ro.lp, ext _ _⟩
end Go.Proofs.Ytdcnmaklnciofaa
