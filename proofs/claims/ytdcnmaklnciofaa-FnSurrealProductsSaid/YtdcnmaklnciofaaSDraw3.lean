/-
  Draws of surreal numbers.
-/
import Derived.Test.YtdcnmaklnciofaaSDraw2
import Derived.Test.YtdcnmaklnciofaaSPut
import Derived.Test.YtdcnmaklnciofaaLZA
import Derived.Deep.CutBlock
namespace Go.Proofs.Ytdcnmaklnciofaa
open Go.RowKit
set_option linter.unusedSimpArgs false
set_option linter.unusedVariables false

theorem fok_small {j : Int} (h : -1000 ≤ j ∧ j ≤ 1000) : FOk j 1 := fracOk_iff.2 ⟨by omega, by omega, by omega, by omega, by simp⟩
attribute [local go_sem high] has_cell has_frozen
set_option synthInstance.maxHeartbeats 2000000 in
set_option synthInstance.maxSize 4000 in
set_option maxHeartbeats 6400000 in
set_option maxRecDepth 100000 in
theorem surreal_step (dp : Nat) (hdp : dp ≤ 100) (K : Int) (hK : 0 ≤ K)
    (ih : ∀ dq, dp = dq + 1 → ∀ (q : Int) (b : Bool) (g : Nat) (k : Int) (w : World) [hc : Cur w g k], q = dq → k + K ≤ 70368744177664 →
      Calls Try.prog 44 #[.pointer (some ⟨g, 0, none⟩), .int .i64 q, .bool b] w fun e w' => ∃ (x : Sur) (A : Option Addr) (c : Nat), e = .returned (.agg #[.slice A x.len c]) ∧ Ro w' A w w' x c ∧ x.All FOk ∧ x.len ≤ 3 ∧ Drew w g (k + K) w')
    (b : Bool) (g : Nat) (k : Int) (w : World) [hc : Cur w g k] (hk : k + 100000 + 4 * K ≤ 70368744177664) :
    Calls Try.prog 44 #[.pointer (some ⟨g, 0, none⟩), .int .i64 dp, .bool b] w fun e w' => ∃ (x : Sur) (A : Option Addr) (c : Nat), e = .returned (.agg #[.slice A x.len c]) ∧ Ro w' A w w' x c ∧ x.All FOk ∧ x.len ≤ 3 ∧ Drew w g (k + (100000 + 4 * K)) w' := by
  go_enter Try.func44, Try.ntmps44
  go_wp2_with (first | ((with_reducible refine at_dst (N := 6) rfl ?_); refine ev_box (cs := #[.slice none 0 0]) (t := 26) rfl ?hr6 ?_; (case hr6 => first | (go_simp; done) | (go_simp; rfl)); intro g6 v6 _ _ _ _) | ((with_reducible refine at_dst (N := 7) rfl ?_); refine ev_box (cs := #[.slice none 0 0]) (t := 26) rfl ?hr7 ?_; (case hr7 => first | (go_simp; done) | (go_simp; rfl)); intro g7 v7 _ _ _ _) | ((fail_if_success (have _q := r15)); go_at_call 84; (with_reducible refine (among_any (fun j => 0 ≤ j ∧ j ≤ 3) _ 6 _ g _ _ (by omega) (by omega) (fun W hW => by haveI := hW; exact ListOk.of (by simp) rfl)).mono ?_); rintro e15 w15 ⟨r15, rfl, hp15, h1, h2⟩; haveI := h1; haveI := h2; clear h1 h2))
  go_loopw [8] (fun s wr => ∃ (m : Nat) (out : Sur) (Ao : Option Addr) (co : Nat), s = .int .i64 m ∧ out.len + m ≤ 3 ∧ out.All FOk ∧ Has wr g7 (.cells #[.slice Ao out.len co] 26 (0, 0)) ∧ Ro wr Ao v7 wr out co ∧ Kp v7 (XU (XE g) (XE g7)) wr ∧ Cur wr g (k + 100000 + 4 * K - (30000 + K) * m)) (fun s _ => (intOf s).toNat)
  case atStart =>
    exact ⟨r15.toNat, .nil, none, 0, by go_num, by simp [Sur.len]; omega, trivial, inferInstance, Ro.nil _ _ _, kp _ _ _, Cur.le inferInstance (by have : (30000 + K) * (r15.toNat : Int) ≤ (30000 + K) * 3 := Int.mul_le_mul_of_nonneg_left (by omega) (by omega); omega)⟩
  case round =>
    obtain ⟨m, out, Ao, co, rfl, hm, hao, _, _, _, hcr⟩ := hrel
    haveI := hcr
    by_cases hm0 : m = 0
    · subst hm0
      go_wp2
      refine bodyPost_ret (v := .agg #[.slice Ao out.len co]) (by simp [results, Try.results44, go_sem]) rfl ?_
      exact ⟨out, Ao, co, rfl, Ro.lp, hao, by omega, drew _ _ _ (by omega)⟩
    · have hm1 : (1 : Int) ≤ m := by omega
      have hp1 : k + 100000 + 4 * K - (30000 + K) * (m : Int) + 30000 + K ≤ k + 100000 + 4 * K := by
        have : (30000 + K) * 1 ≤ (30000 + K) * (m : Int) := Int.mul_le_mul_of_nonneg_left hm1 (by omega)
        omega
      have hp2 : k + 100000 + 4 * K - (30000 + K) * (m : Int) + 30000 + K = k + 100000 + 4 * K - (30000 + K) * ((m - 1 : Nat) : Int) := by
        rw [show ((m - 1 : Nat) : Int) = (m : Int) - 1 by omega, Int.mul_sub]; omega
      generalize k + 100000 + 4 * K - (30000 + K) * (m : Int) = p0 at *
      go_upto_block 2 with (first | ((with_reducible refine at_dst (N := 9) rfl ?_); refine ev_box (cs := #[.slice none 0 0]) (t := 26) rfl ?hr9 ?_; (case hr9 => first | (go_simp; done) | (go_simp; rfl)); intro g9 v9 _ _ _ _) | ((fail_if_success (have _q := n22)); go_at_call 98; refine (coef_any _ g _ _ (by omega)).mono ?_; rintro e22 w22 ⟨n22, d22, rfl, hf22, h1, h2⟩; haveI := h1; haveI := h2; clear h1 h2) | ((fail_if_success (have _q := A23)); go_at_call 56; refine (suReal_any _ _ (XL _) _ (fun k hk => hk) (fracOk_I64 hf22.1).1 (fracOk_I64 hf22.1).2).mono ?_; rintro e23 w23 ⟨A23, c23, rfl, hs, hb⟩; haveI : Bel _ w23 := ⟨hb⟩; haveI := Tr.arg hs; clear hs hb))
      go_cut [] (fun wx => ∃ (ex : Sur) (Ae : Option Addr) (ce : Nat), Has wx g9 (.cells #[.slice Ae ex.len ce] 26 (0, 0)) ∧ Tr wx Ae (XV wx (XL v7)) ex ce ∧ ex.All FOk ∧ Kp wr (XE g) wx ∧ Cur wx g (p0 + 15000 + K))
      case first =>
        go_wp2_with (first | ((fail_if_success (have _q := r29)); go_at_call 40; refine (one_any _ g _ _ (by omega) (by omega)).mono ?_; rintro e29 w29 ⟨r29, rfl, h1, h2⟩; haveI := h1; haveI := h2; clear h1 h2) | ((fail_if_success (have _q := r38)); go_at_call 40; refine (one_any _ g _ _ (by omega) (by omega)).mono ?_; rintro e38 w38 ⟨r38, rfl, h1, h2⟩; haveI := h1; haveI := h2; clear h1 h2) | ((fail_if_success (have _q := r42)); go_at_call 40; refine (one_any _ g _ _ (by omega) (by omega)).mono ?_; rintro e42 w42 ⟨r42, rfl, h1, h2⟩; haveI := h1; haveI := h2; clear h1 h2) | ((fail_if_success (have _q := A35)); go_at_call 44; obtain ⟨dq, rfl⟩ : ∃ dq, dp = dq + 1 := ⟨dp - 1, by omega⟩; refine (ih dq rfl _ _ g _ _ (by first | omega | (unfold wrap64; omega)) (by omega)).mono ?_; rintro e35 w35 ⟨x35, A35, c35, rfl, h0, hx35, hl35, h1, h2⟩; haveI := h0; haveI := h1; haveI := h2; clear h0 h1 h2) | ((fail_if_success (have _q := r45)); go_at_call 84; (with_reducible refine (among_any (fun j => j = 1 ∨ j = -1 ∨ j = 2 ∨ j = -2) _ 4 _ g _ _ (by omega) (by omega) (fun W hW => by haveI := hW; exact ListOk.of (by simp) rfl)).mono ?_); rintro e45 w45 ⟨r45, rfl, hp45, h1, h2⟩; haveI := h1; haveI := h2; clear h1 h2) | ((fail_if_success (have _q := A46)); go_at_call 80; refine (suInt_any _ (XL _) _ (fun k hk => hk) (by unfold I64; omega)).mono ?_; rintro e46 w46 ⟨A46, c46, rfl, hs, hb⟩; haveI : Bel _ w46 := ⟨hb⟩; haveI := Tr.arg hs; clear hs hb))
        all_goals go_meet
        all_goals first
          | exact ⟨x35, A35, c35, inferInstance, Tr.lp (XL v7), hx35, kp _ _ _, Cur.le inferInstance (by omega)⟩
          | exact ⟨termP .nil r45 1, A46, c46, inferInstance, Tr.lp (XL v7), (termP_all (z := .nil) trivial (fok_small (by omega))).1, kp _ _ _, Cur.le inferInstance (by omega)⟩
          | exact ⟨.nil, none, 0, inferInstance, ⟨SSl.nil _ _⟩, trivial, kp _ _ _, Cur.le inferInstance (by omega)⟩
          | exact ⟨termP .nil n22 d22, A23, c23, inferInstance, Tr.lp (XL v7), (termP_all (z := .nil) trivial hf22.1).1, kp _ _ _, Cur.le inferInstance (by omega)⟩
      case rest =>
        rename World => wx
        obtain ⟨ex, Ae, ce, _, _, hae, _, hcx⟩ := hcut
        haveI := hcx
        haveI : Ro wx Ao v7 wx out co := Ro.lp
        go_wp2
        go_cut [10, 11] (fun s10 s11 wx' => ∃ (z : Sur) (ok : Bool) (g10 : Nat) (Az : Option Addr) (cz : Nat), s11 = .bool ok ∧ s10 = .pointer (some ⟨g10, 0, none⟩) ∧ Has wx' g10 (.cells #[.slice Az z.len cz] 26 (0, 0)) ∧ Ro wx' Az v7 wx' z cz ∧ z.All FOk ∧ z.len ≤ out.len + 1 ∧ Kp wx (XE g) wx' ∧ Cur wx' g (p0 + 27000 + K) ∧ GeB wx g10)
        case first =>
          refine wp_region_held_drew (S := (fun w' => w'.cell? ⟨g7, 0, none⟩ = some (.slice Ao out.len co) ∧ w'.cell? ⟨g9, 0, none⟩ = some (.slice Ae ex.len ce))) (by kernel_rfl) ?hSn1_ (fun hHeld => ?hRn1_)
          case hSn1_ => (exact ⟨has1, has1⟩)
          refine wpAnyH_take (i := 0) (oi := _) (v := ?vn1_1) rfl (by kernel_rfl) (by kernel_rfl) (by kernel_rfl) (fun _ _ _ h => h) (Or.inl ⟨by rfl, ?hyn1_1⟩) (by assumption) ?hRn1_1
          case hyn1_1 => (intro w hSw; (try dsimp only at hSw); go_simp; (try with_reducible rfl))
          try simp only [Act.put, List.getElem_toArray, List.getElem_cons_zero, List.getElem_cons_succ, List.setIfInBounds_toArray, List.set_cons_zero, List.set_cons_succ]
          refine wpAnyH_take (i := 1) (oi := _) (v := ?vn1_2) rfl (by kernel_rfl) (by kernel_rfl) (by kernel_rfl) (fun _ _ _ h => h) (Or.inl ⟨by rfl, ?hyn1_2⟩) (by assumption) ?hRn1_2
          case hyn1_2 => (intro w hSw; (try dsimp only at hSw); go_simp; (try with_reducible rfl))
          try simp only [Act.put, List.getElem_toArray, List.getElem_cons_zero, List.getElem_cons_succ, List.setIfInBounds_toArray, List.set_cons_zero, List.set_cons_succ]
          refine wpAnyH_take (i := 2) (oi := _) (v := ?vn1_3) rfl (by kernel_rfl) (by kernel_rfl) (by kernel_rfl) (fun _ _ _ h => h) (Or.inl ⟨by rfl, ?hyn1_3⟩) (by assumption) ?hRn1_3
          case hyn1_3 => (intro w hSw; (try dsimp only at hSw); go_simp; (try with_reducible rfl))
          try simp only [Act.put, List.getElem_toArray, List.getElem_cons_zero, List.getElem_cons_succ, List.setIfInBounds_toArray, List.set_cons_zero, List.set_cons_succ]
          refine wpAnyH_take (i := 3) (oi := _) (v := ?vn1_4) rfl (by kernel_rfl) (by kernel_rfl) (by kernel_rfl) (fun _ _ _ h => h) (Or.inl ⟨by rfl, ?hyn1_4⟩) (by assumption) ?hRn1_4
          case hyn1_4 => (intro w hSw; (try dsimp only at hSw); go_simp; (try with_reducible rfl))
          try simp only [Act.put, List.getElem_toArray, List.getElem_cons_zero, List.getElem_cons_succ, List.setIfInBounds_toArray, List.set_cons_zero, List.set_cons_succ]
          refine wpAnyH_ready (rs := [4, 10]) (by kernel_rfl) (by simp) ?_
          refine AllReadyH.cons (o := _) rfl (fun K hK => ?bn1_5) (AllReadyH.cons (o := _) rfl (fun K hK => ?bn1_6) (AllReadyH.nil))
          case' bn1_5 =>
            go_simp
            (((fail_if_success (have _q := n52)); go_at_call 98; refine (coef_any _ g _ _ (by omega)).mono ?_; rintro e52 w52 ⟨n52, d52, rfl, hf52, h1, h2⟩; haveI := h1; haveI := h2; clear h1 h2))
            go_wp2_with fail
            refine hK.out _ _ ?hSn1_7 (fun hHeld => ?hRn1_7)
            case hSn1_7 => ((try dsimp only); exact ⟨has1, has1⟩)
            clear hK K
            try simp only [Act.put, List.getElem_toArray, List.getElem_cons_zero, List.getElem_cons_succ, List.setIfInBounds_toArray, List.set_cons_zero, List.set_cons_succ]
            refine wpAnyH_take (i := 5) (oi := _) (v := ?vn1_8) rfl (by kernel_rfl) (by kernel_rfl) (by kernel_rfl) (fun _ _ _ h => h) (Or.inl ⟨by rfl, ?hyn1_8⟩) (by assumption) ?hRn1_8
            case hyn1_8 => (intro w hSw; (try dsimp only at hSw); go_simp; (try with_reducible rfl))
            try simp only [Act.put, List.getElem_toArray, List.getElem_cons_zero, List.getElem_cons_succ, List.setIfInBounds_toArray, List.set_cons_zero, List.set_cons_succ]
            refine wpAnyH_ready (rs := [6, 10]) (by kernel_rfl) (by simp) ?_
            refine AllReadyH.cons (o := _) rfl (fun K hK => ?bn1_9) (AllReadyH.cons (o := _) rfl (fun K hK => ?bn1_10) (AllReadyH.nil))
            case' bn1_9 =>
              go_simp
              ((go_at_call 94; refine (suPut_own out ex n52 d52 (XV wx (XL v7)) Ao Ae _ _ _ (trx (XV wx (XL v7)) _ Ao) (trx (XV wx (XL v7)) _ Ae) hao hae hf52.1 (by omega)).mono ?_; rintro e54 w54 ⟨A54, c54, xs54, rfl, hs, ht, hb⟩; haveI : Bel _ w54 := ⟨hb⟩; haveI := Own.of hs; haveI := Own.rg w54 (.slice A54 ((putP ex n52 d52 out).getD .nil).len c54); haveI := TR.of (X := XV wx (XL v7)) ht.unlow; clear hs ht hb))
              go_wp2_with fail
              refine hK.out _ _ ?hSn1_11 (fun hHeld => ?hRn1_11)
              case hSn1_11 => ((try dsimp only); exact ⟨has1, has1⟩)
              clear hK K
              try simp only [Act.put, List.getElem_toArray, List.getElem_cons_zero, List.getElem_cons_succ, List.setIfInBounds_toArray, List.set_cons_zero, List.set_cons_succ]
              refine wpAnyH_take (i := 7) (oi := _) (v := ?vn1_12) rfl (by kernel_rfl) (by kernel_rfl) (by kernel_rfl) (fun _ _ _ h => h) (Or.inl ⟨by rfl, ?hyn1_12⟩) (by assumption) ?hRn1_12
              case hyn1_12 => (intro w hSw; (try dsimp only at hSw); go_simp; (try with_reducible rfl))
              try simp only [Act.put, List.getElem_toArray, List.getElem_cons_zero, List.getElem_cons_succ, List.setIfInBounds_toArray, List.set_cons_zero, List.set_cons_succ]
              refine wpAnyH_take (i := 8) (oi := _) (v := ?vn1_13) rfl (by kernel_rfl) (by kernel_rfl) (by kernel_rfl) (fun _ _ _ h => h) (Or.inl ⟨by rfl, ?hyn1_13⟩) (by assumption) ?hRn1_13
              case hyn1_13 => (intro w hSw; (try dsimp only at hSw); go_simp; (try with_reducible rfl))
              try simp only [Act.put, List.getElem_toArray, List.getElem_cons_zero, List.getElem_cons_succ, List.setIfInBounds_toArray, List.set_cons_zero, List.set_cons_succ]
              refine wpAnyH_take (i := 9) (oi := _) (v := ?vn1_14) rfl (by kernel_rfl) (by kernel_rfl) (by kernel_rfl) (fun _ _ _ h => h) (Or.inl ⟨by rfl, ?hyn1_14⟩) (by assumption) ?hRn1_14
              case hyn1_14 => (intro w hSw; (try dsimp only at hSw); go_simp; (try with_reducible rfl))
              try simp only [Act.put, List.getElem_toArray, List.getElem_cons_zero, List.getElem_cons_succ, List.setIfInBounds_toArray, List.set_cons_zero, List.set_cons_succ]
              refine wpAnyH_ready (rs := [10]) (by kernel_rfl) (by simp) ?_
              refine AllReadyH.cons (o := _) rfl (fun K hK => ?_) AllReadyH.nil
              go_simp
              refine hK.out _ _ ?hSn1_15 (fun hHeld => ?hRn1_15)
              case hSn1_15 => ((try dsimp only); exact ⟨has1, has1⟩)
              clear hK K
              try simp only [Act.put, List.getElem_toArray, List.getElem_cons_zero, List.getElem_cons_succ, List.setIfInBounds_toArray, List.set_cons_zero, List.set_cons_succ]
              refine wpAnyH_ready (rs := [11]) (by kernel_rfl) (by simp) ?_
              refine AllReadyH.cons (o := _) rfl (fun K hK => ?_) AllReadyH.nil
              go_simp
              refine hK.out _ _ ?hSn1_16 (fun hHeld => ?hRn1_16)
              case hSn1_16 => ((try dsimp only); exact ⟨has1, has1⟩)
              clear hK K
              try simp only [Act.put, List.getElem_toArray, List.getElem_cons_zero, List.getElem_cons_succ, List.setIfInBounds_toArray, List.set_cons_zero, List.set_cons_succ]
              refine wpAnyH_take (i := 12) (oi := _) (v := ?vn1_17) rfl (by kernel_rfl) (by kernel_rfl) (by kernel_rfl) (fun _ _ _ h => h) (Or.inl ⟨by rfl, ?hyn1_17⟩) (by assumption) ?hRn1_17
              case hyn1_17 => (intro w hSw; (try dsimp only at hSw); go_simp; (try with_reducible rfl))
              try simp only [Act.put, List.getElem_toArray, List.getElem_cons_zero, List.getElem_cons_succ, List.setIfInBounds_toArray, List.set_cons_zero, List.set_cons_succ]
              refine wpAnyH_done (by kernel_rfl) ?_ _
            case' bn1_10 =>
              go_simp
              refine hK.out _ _ ?hSn1_18 (fun hHeld => ?hRn1_18)
              case hSn1_18 => ((try dsimp only); exact ⟨has1, has1⟩)
              clear hK K
              try simp only [Act.put, List.getElem_toArray, List.getElem_cons_zero, List.getElem_cons_succ, List.setIfInBounds_toArray, List.set_cons_zero, List.set_cons_succ]
              refine wpAnyH_ready (rs := [6]) (by kernel_rfl) (by simp) ?_
              refine AllReadyH.cons (o := _) rfl (fun K hK => ?_) AllReadyH.nil
              go_simp
              ((go_at_call 94; refine (suPut_own out ex n52 d52 (XV wx (XL v7)) Ao Ae _ _ _ (trx (XV wx (XL v7)) _ Ao) (trx (XV wx (XL v7)) _ Ae) hao hae hf52.1 (by omega)).mono ?_; rintro e54 w54 ⟨A54, c54, xs54, rfl, hs, ht, hb⟩; haveI : Bel _ w54 := ⟨hb⟩; haveI := Own.of hs; haveI := Own.rg w54 (.slice A54 ((putP ex n52 d52 out).getD .nil).len c54); haveI := TR.of (X := XV wx (XL v7)) ht.unlow; clear hs ht hb))
              go_wp2_with fail
              refine hK.out _ _ ?hSn1_19 (fun hHeld => ?hRn1_19)
              case hSn1_19 => ((try dsimp only); exact ⟨has1, has1⟩)
              clear hK K
              try simp only [Act.put, List.getElem_toArray, List.getElem_cons_zero, List.getElem_cons_succ, List.setIfInBounds_toArray, List.set_cons_zero, List.set_cons_succ]
              refine wpAnyH_take (i := 7) (oi := _) (v := ?vn1_20) rfl (by kernel_rfl) (by kernel_rfl) (by kernel_rfl) (fun _ _ _ h => h) (Or.inl ⟨by rfl, ?hyn1_20⟩) (by assumption) ?hRn1_20
              case hyn1_20 => (intro w hSw; (try dsimp only at hSw); go_simp; (try with_reducible rfl))
              try simp only [Act.put, List.getElem_toArray, List.getElem_cons_zero, List.getElem_cons_succ, List.setIfInBounds_toArray, List.set_cons_zero, List.set_cons_succ]
              refine wpAnyH_take (i := 8) (oi := _) (v := ?vn1_21) rfl (by kernel_rfl) (by kernel_rfl) (by kernel_rfl) (fun _ _ _ h => h) (Or.inl ⟨by rfl, ?hyn1_21⟩) (by assumption) ?hRn1_21
              case hyn1_21 => (intro w hSw; (try dsimp only at hSw); go_simp; (try with_reducible rfl))
              try simp only [Act.put, List.getElem_toArray, List.getElem_cons_zero, List.getElem_cons_succ, List.setIfInBounds_toArray, List.set_cons_zero, List.set_cons_succ]
              refine wpAnyH_take (i := 9) (oi := _) (v := ?vn1_22) rfl (by kernel_rfl) (by kernel_rfl) (by kernel_rfl) (fun _ _ _ h => h) (Or.inl ⟨by rfl, ?hyn1_22⟩) (by assumption) ?hRn1_22
              case hyn1_22 => (intro w hSw; (try dsimp only at hSw); go_simp; (try with_reducible rfl))
              try simp only [Act.put, List.getElem_toArray, List.getElem_cons_zero, List.getElem_cons_succ, List.setIfInBounds_toArray, List.set_cons_zero, List.set_cons_succ]
              refine wpAnyH_ready (rs := [11]) (by kernel_rfl) (by simp) ?_
              refine AllReadyH.cons (o := _) rfl (fun K hK => ?_) AllReadyH.nil
              go_simp
              refine hK.out _ _ ?hSn1_23 (fun hHeld => ?hRn1_23)
              case hSn1_23 => ((try dsimp only); exact ⟨has1, has1⟩)
              clear hK K
              try simp only [Act.put, List.getElem_toArray, List.getElem_cons_zero, List.getElem_cons_succ, List.setIfInBounds_toArray, List.set_cons_zero, List.set_cons_succ]
              refine wpAnyH_take (i := 12) (oi := _) (v := ?vn1_24) rfl (by kernel_rfl) (by kernel_rfl) (by kernel_rfl) (fun _ _ _ h => h) (Or.inl ⟨by rfl, ?hyn1_24⟩) (by assumption) ?hRn1_24
              case hyn1_24 => (intro w hSw; (try dsimp only at hSw); go_simp; (try with_reducible rfl))
              try simp only [Act.put, List.getElem_toArray, List.getElem_cons_zero, List.getElem_cons_succ, List.setIfInBounds_toArray, List.set_cons_zero, List.set_cons_succ]
              refine wpAnyH_done (by kernel_rfl) ?_ _
          case' bn1_6 =>
            go_simp
            refine hK.out _ _ ?hSn1_25 (fun hHeld => ?hRn1_25)
            case hSn1_25 => ((try dsimp only); exact ⟨has1, has1⟩)
            clear hK K
            try simp only [Act.put, List.getElem_toArray, List.getElem_cons_zero, List.getElem_cons_succ, List.setIfInBounds_toArray, List.set_cons_zero, List.set_cons_succ]
            refine wpAnyH_ready (rs := [4]) (by kernel_rfl) (by simp) ?_
            refine AllReadyH.cons (o := _) rfl (fun K hK => ?_) AllReadyH.nil
            go_simp
            (((fail_if_success (have _q := n52)); go_at_call 98; refine (coef_any _ g _ _ (by omega)).mono ?_; rintro e52 w52 ⟨n52, d52, rfl, hf52, h1, h2⟩; haveI := h1; haveI := h2; clear h1 h2))
            go_wp2_with fail
            refine hK.out _ _ ?hSn1_26 (fun hHeld => ?hRn1_26)
            case hSn1_26 => ((try dsimp only); exact ⟨has1, has1⟩)
            clear hK K
            try simp only [Act.put, List.getElem_toArray, List.getElem_cons_zero, List.getElem_cons_succ, List.setIfInBounds_toArray, List.set_cons_zero, List.set_cons_succ]
            refine wpAnyH_take (i := 5) (oi := _) (v := ?vn1_27) rfl (by kernel_rfl) (by kernel_rfl) (by kernel_rfl) (fun _ _ _ h => h) (Or.inl ⟨by rfl, ?hyn1_27⟩) (by assumption) ?hRn1_27
            case hyn1_27 => (intro w hSw; (try dsimp only at hSw); go_simp; (try with_reducible rfl))
            try simp only [Act.put, List.getElem_toArray, List.getElem_cons_zero, List.getElem_cons_succ, List.setIfInBounds_toArray, List.set_cons_zero, List.set_cons_succ]
            refine wpAnyH_ready (rs := [6]) (by kernel_rfl) (by simp) ?_
            refine AllReadyH.cons (o := _) rfl (fun K hK => ?_) AllReadyH.nil
            go_simp
            ((go_at_call 94; refine (suPut_own out ex n52 d52 (XV wx (XL v7)) Ao Ae _ _ _ (trx (XV wx (XL v7)) _ Ao) (trx (XV wx (XL v7)) _ Ae) hao hae hf52.1 (by omega)).mono ?_; rintro e54 w54 ⟨A54, c54, xs54, rfl, hs, ht, hb⟩; haveI : Bel _ w54 := ⟨hb⟩; haveI := Own.of hs; haveI := Own.rg w54 (.slice A54 ((putP ex n52 d52 out).getD .nil).len c54); haveI := TR.of (X := XV wx (XL v7)) ht.unlow; clear hs ht hb))
            go_wp2_with fail
            refine hK.out _ _ ?hSn1_28 (fun hHeld => ?hRn1_28)
            case hSn1_28 => ((try dsimp only); exact ⟨has1, has1⟩)
            clear hK K
            try simp only [Act.put, List.getElem_toArray, List.getElem_cons_zero, List.getElem_cons_succ, List.setIfInBounds_toArray, List.set_cons_zero, List.set_cons_succ]
            refine wpAnyH_take (i := 7) (oi := _) (v := ?vn1_29) rfl (by kernel_rfl) (by kernel_rfl) (by kernel_rfl) (fun _ _ _ h => h) (Or.inl ⟨by rfl, ?hyn1_29⟩) (by assumption) ?hRn1_29
            case hyn1_29 => (intro w hSw; (try dsimp only at hSw); go_simp; (try with_reducible rfl))
            try simp only [Act.put, List.getElem_toArray, List.getElem_cons_zero, List.getElem_cons_succ, List.setIfInBounds_toArray, List.set_cons_zero, List.set_cons_succ]
            refine wpAnyH_take (i := 8) (oi := _) (v := ?vn1_30) rfl (by kernel_rfl) (by kernel_rfl) (by kernel_rfl) (fun _ _ _ h => h) (Or.inl ⟨by rfl, ?hyn1_30⟩) (by assumption) ?hRn1_30
            case hyn1_30 => (intro w hSw; (try dsimp only at hSw); go_simp; (try with_reducible rfl))
            try simp only [Act.put, List.getElem_toArray, List.getElem_cons_zero, List.getElem_cons_succ, List.setIfInBounds_toArray, List.set_cons_zero, List.set_cons_succ]
            refine wpAnyH_take (i := 9) (oi := _) (v := ?vn1_31) rfl (by kernel_rfl) (by kernel_rfl) (by kernel_rfl) (fun _ _ _ h => h) (Or.inl ⟨by rfl, ?hyn1_31⟩) (by assumption) ?hRn1_31
            case hyn1_31 => (intro w hSw; (try dsimp only at hSw); go_simp; (try with_reducible rfl))
            try simp only [Act.put, List.getElem_toArray, List.getElem_cons_zero, List.getElem_cons_succ, List.setIfInBounds_toArray, List.set_cons_zero, List.set_cons_succ]
            refine wpAnyH_ready (rs := [11]) (by kernel_rfl) (by simp) ?_
            refine AllReadyH.cons (o := _) rfl (fun K hK => ?_) AllReadyH.nil
            go_simp
            refine hK.out _ _ ?hSn1_32 (fun hHeld => ?hRn1_32)
            case hSn1_32 => ((try dsimp only); exact ⟨has1, has1⟩)
            clear hK K
            try simp only [Act.put, List.getElem_toArray, List.getElem_cons_zero, List.getElem_cons_succ, List.setIfInBounds_toArray, List.set_cons_zero, List.set_cons_succ]
            refine wpAnyH_take (i := 12) (oi := _) (v := ?vn1_33) rfl (by kernel_rfl) (by kernel_rfl) (by kernel_rfl) (fun _ _ _ h => h) (Or.inl ⟨by rfl, ?hyn1_33⟩) (by assumption) ?hRn1_33
            case hyn1_33 => (intro w hSw; (try dsimp only at hSw); go_simp; (try with_reducible rfl))
            try simp only [Act.put, List.getElem_toArray, List.getElem_cons_zero, List.getElem_cons_succ, List.setIfInBounds_toArray, List.set_cons_zero, List.set_cons_succ]
            refine wpAnyH_done (by kernel_rfl) ?_ _
          all_goals
            go_wp2
            go_meet
            have hz : ((putP ex n52 d52 out).getD .nil).All FOk ∧ ((putP ex n52 d52 out).getD .nil).len ≤ out.len + 1 := by
              rcases hq : putP ex n52 d52 out with _ | z
              · exact ⟨trivial, by simp [Sur.len]⟩
              · exact putP_all hae hf52.1 hao hq
            exact ⟨_, _, _, A54, c54, rfl, rfl, inferInstance, Ro.made v7 wx, hz.1, hz.2, kp _ _ _, Cur.le inferInstance (by omega), inferInstance⟩
        case rest =>
          rename World => wy
          obtain ⟨z, ok, g10, Az, cz, rfl, rfl, _, _, haz, hlz, _, hcy, _⟩ := hcut
          haveI := hcy
          cases ok
          · go_wp2
            exact ⟨⟨m - 1, out, Ao, co, by go_num, by omega, hao, inferInstance, Ro.lp, kp _ _ _, Cur.le inferInstance (by omega)⟩, by simp [intOf]; omega⟩
          · go_wp2
            exact ⟨⟨m - 1, z, Az, cz, by go_num, by omega, haz, inferInstance, Ro.lp, kp _ _ _, Cur.le inferInstance (by omega)⟩, by simp [intOf]; omega⟩

/-- the places that a drawn number takes at most -/
def cS : Nat → Int
  | 0 => 100000
  | d + 1 => 100000 + 4 * cS d
theorem cS_pos : ∀ d, 0 ≤ cS d
  | 0 => by simp [cS]
  | d + 1 => by have := cS_pos d; simp only [cS]; omega
theorem surreal_any (dp : Nat) (hdp : dp ≤ 100) : ∀ (q : Int) (b : Bool) (g : Nat) (k : Int) (w : World) [hc : Cur w g k], q = dp → k + cS dp ≤ 70368744177664 →
    Calls Try.prog 44 #[.pointer (some ⟨g, 0, none⟩), .int .i64 q, .bool b] w fun e w' => ∃ (x : Sur) (A : Option Addr) (c : Nat), e = .returned (.agg #[.slice A x.len c]) ∧ Ro w' A w w' x c ∧ x.All FOk ∧ x.len ≤ 3 ∧ Drew w g (k + cS dp) w' := by
  induction dp with
  | zero =>
    rintro q b g k w hc rfl hk
    exact surreal_step 0 hdp 0 (by omega) (fun dq h => by omega) b g k w (by simp only [cS] at hk; omega)
  | succ dp ih =>
    rintro q b g k w hc rfl hk
    have hp := cS_pos dp
    exact surreal_step (dp + 1) hdp (cS dp) hp (fun dq h => by cases h; exact ih (by omega)) b g k w (by simp only [cS] at hk; omega)
end Go.Proofs.Ytdcnmaklnciofaa
