/-
  Draws of surreal numbers, invalid ones among them.
  The draws that the laws on surreal numbers call.
  The laws' side: arguments that are bytes.
-/
import Derived.Test.YtonlfnbjbmgegaaGreatSV
import Derived.Test.YtonlfnbjbmgegaaGreatOD
import Derived.Test.YtonlfnbjbmgegaaGreatSP
import Derived.WalkKit
import Derived.ProofKit
import Derived.OpenShut
import Derived.Carry
import Derived.WideKeyArgs
import Derived.Lib.SmallJoins
import Derived.ChangeSame
import Derived.ChangeSlices
namespace Go.Proofs.YtonlfnbjbmgegaaGreat
open Go.RowKit
open List renaming getElem_toArray → zp1, getElem_cons_zero → zp2, getElem_cons_succ → zp3, setIfInBounds_toArray → zp4, set_cons_zero → zp5, set_cons_succ → zp6
set_option linter.unusedSimpArgs false
set_option linter.unusedVariables false

/-- blocks behind g -/
class XAb (g : Nat) (S : Nat → Prop) : Prop where h : ∀ k, S k → g < k
section
variable {W w1 lo hi : World} {g g' : Nat} {v : Value} {S B C : Nat → Prop} {k : Int}
instance XAb.e [a : GtB g g'] : XAb g (XE g') := ⟨fun k h => by have : k = g' := h; subst this; exact a.h⟩
instance XAb.xu [a : XAb g B] [b : XAb g C] : XAb g (XU B C) := ⟨fun k h => h.elim (a.h k) (b.h k)⟩
instance XAb.ow [a : OwR v lo hi] [b : LtB g lo] : XAb g (XOw v) := ⟨fun k h => by have := (a.h k h).1; have := b.h; omega⟩
instance XAb.xn : XAb g XN := ⟨fun k h => h.elim⟩
instance Cur.kp [a : Kp W S w1] [b : Cur W g k] [e : XAb g S] : Cur w1 g k := b.keep fun j hj => a.h.2.2.2.2 j (by have := b.lt; omega) fun h => by have := e.h j h; omega
end
theorem cS_le {d : Nat} (h : d ≤ 3) : cS d ≤ 8500000 := by
  rcases d with _ | _ | _ | _ | d <;> first | (simp [cS]; done) | omega
theorem fok_max : FOk 1000000 1 := show fracOk 1000000 1 = true by decide
attribute [local go_sem high] has_cell has_frozen
set_option synthInstance.maxHeartbeats 2000000 in
set_option synthInstance.maxSize 4000 in
set_option maxHeartbeats 6400000 in
set_option maxRecDepth 100000 in
theorem anySurreal_any (g : Nat) (k : Int) (w : World) [hc : Cur w g k] (hk : k + 9000000 ≤ 70368744177664) :
    Calls Tryz.prog 27 #[.pointer (some ⟨g, 0, none⟩)] w fun e w' => ∃ (x : Sur) (A : Option Addr) (c : Nat), e = .returned (.agg #[.slice A x.len c]) ∧ SSl (XL w) w' x A c ∧ x.len ≤ 1000 ∧ Drew w g (k + 9000000) w' := by
  go_enter Tryz.func27, Tryz.ntmps27
  go_wp2_with (first | ((with_reducible refine at_dst (N := 2) rfl ?_); refine ev_box (cs := #[.slice none 0 0]) (t := 26) rfl ?hr2 ?_; (case hr2 => first | (go_simp; done) | (go_simp; rfl)); intro g2 v2 _ _ _ _) | ((fail_if_success (have _q := r9)); go_at_call 24; (with_reducible refine (among_any (fun j => 0 ≤ j ∧ j ≤ 3) _ 5 _ g _ _ (by omega) (by omega) (fun W hW => by haveI := hW; exact ListOk.of (by first | (simp; done) | (simp; omega)) rfl)).mono ?_); rintro e9 w9 ⟨r9, rfl, hp9, h1, h2⟩; haveI := h1; haveI := h2; clear h1 h2) | ((fail_if_success (have _q := r11)); go_at_call 25; refine (one_any _ g _ _ (by omega) (by omega)).mono ?_; rintro e11 w11 ⟨r11, rfl, h1, h2⟩; haveI := h1; haveI := h2; clear h1 h2) | (go_at_call 74; have hcs := cS_le (d := r9.toNat) (by omega); refine (surreal_any r9.toNat (by omega) _ _ g _ _ (by omega) (by omega)).mono ?_; rintro e12 w12 ⟨x12, A12, c12, rfl, h0, hx12, hl12, h1, h2⟩; haveI := h0; haveI := h1; haveI := h2; haveI := Ro.rg w12 A12; clear h0 h1 h2) | ((with_reducible refine at_dst (N := 3) rfl ?_); refine ev_box (cs := #[.slice none 0 0]) (t := 26) rfl ?hr3 ?_; (case hr3 => first | (go_simp; done) | (go_simp; rfl)); intro g3 v3 _ _ _ _) | ((fail_if_success (have _q := r15)); go_at_call 25; refine (one_any _ g _ _ (by omega) (by omega)).mono ?_; rintro e15 w15 ⟨r15, rfl, h1, h2⟩; haveI := h1; haveI := h2; clear h1 h2) | (go_at_call 76; refine (ordinal_any 2 (by omega) _ g _ _ rfl (by simp only [cO]; omega)).mono ?_; rintro e17 w17 ⟨x17, A17, c17, rfl, h0, hl17, hn17, h1, h2⟩; simp only [cM] at hn17; simp only [cO] at h2; haveI := h1; haveI := h2; haveI := OT.arg h0; clear h0 h1 h2) | (go_at_call 75; refine (suFrom_any 10000 (by omega) x17 _ A17 c17 _ (by omega) (otr _ A17)).mono ?_; rintro e18 w18 ⟨x18, A18, c18, rfl, hl18, h0, hb⟩; have HL18 := Lib.hid hl18; clear hl18; haveI : Bel _ w18 := ⟨hb⟩; haveI := h0; clear h0 hb) | ((fail_if_success (have _q := r21)); go_at_call 25; refine (one_any _ g _ _ (by omega) (by omega)).mono ?_; rintro e21 w21 ⟨r21, rfl, h1, h2⟩; haveI := h1; haveI := h2; clear h1 h2) | ((fail_if_success (have _q := r25)); go_at_call 70; refine (pick_any _ g _ _ (by omega) (by omega)).mono ?_; rintro e25 w25 ⟨r25, rfl, ha25, hb25, h1, h2⟩; haveI := h1; haveI := h2; clear h1 h2) | ((fail_if_success (have _q := r65)); go_at_call 70; refine (pick_any _ g _ _ (by omega) (by omega)).mono ?_; rintro e65 w65 ⟨r65, rfl, ha65, hb65, h1, h2⟩; haveI := h1; haveI := h2; clear h1 h2))
  · refine bodyPost_ret (v := .agg #[.slice A18 x18.len c18]) (by simp [results, Tryz.results27, go_sem]) rfl ?_
    exact ⟨x18, A18, c18, rfl, trx (XL w) _ A18, by have := HL18.out; omega, drew _ _ _ (by omega)⟩
  · refine bodyPost_ret (v := .agg #[.slice A12 x12.len c12]) (by simp [results, Tryz.results27, go_sem]) rfl ?_
    exact ⟨x12, A12, c12, rfl, trx (XL w) _ A12, by omega, drew _ _ _ (by omega)⟩
  · skip
    refine wp_region_held_drew (S := (fun w' => True)) (by kernel_rfl) ?hSn1_ (fun hHeld => ?hRn1_)
    case hSn1_ => (all_goals exact trivial)
    refine wpAnyH_take (i := 0) (v := ?vn1_1) rfl (by kernel_rfl) (by kernel_rfl) (by kernel_rfl) (fun _ _ _ h => h) (Or.inl ⟨by rfl, ?hyn1_1⟩) (by assumption) ?hRn1_1
    case hyn1_1 => (intro w hSw; (try dsimp only at hSw); go_simp; (try with_reducible rfl))
    try simp only [Act.put, zp1, zp2, zp3, zp4, zp5, zp6]
    refine wpAnyH_ready (rs := [1, 2]) (by kernel_rfl) (by simp) ?_
    refine AllReadyH.cons rfl (fun K hK => ?bn1_2) (AllReadyH.cons rfl (fun K hK => ?bn1_3) (AllReadyH.nil))
    case' bn1_2 =>
      go_simp
      refine hK.out _ _ ?hSn1_4 (fun hHeld => ?hRn1_4)
      case hSn1_4 => ((try dsimp only); all_goals exact trivial)
      clear hK K
      try simp only [Act.put, zp1, zp2, zp3, zp4, zp5, zp6]
      refine wpAnyH_ready (rs := [2]) (by kernel_rfl) (by simp) ?_
      refine AllReadyH.cons rfl (fun K hK => ?_) AllReadyH.nil
      go_simp
      ((go_at_call 77; refine (suInt_any _ (XL _) _ (fun k hk => hk) (by unfold I64; omega)).mono ?_; rintro e45 w45 ⟨A45, c45, rfl, hs, hb⟩; haveI : Bel _ w45 := ⟨hb⟩; haveI := Tr.arg hs; clear hs hb))
      go_wp2_with fail
      refine hK.out _ _ ?hSn1_5 (fun hHeld => ?hRn1_5)
      case hSn1_5 => ((try dsimp only); all_goals exact trivial)
      clear hK K
      try simp only [Act.put, zp1, zp2, zp3, zp4, zp5, zp6]
      refine wpAnyH_ready (rs := [3]) (by kernel_rfl) (by simp) ?_
      refine AllReadyH.cons rfl (fun K hK => ?_) AllReadyH.nil
      go_simp
      ((go_at_call 78; refine (shInt_any _ _).mono ?_; rintro e46 w46 ⟨rfl, hb⟩; haveI : Bel _ w46 := ⟨hb⟩; clear hb))
      go_wp2_with fail
      refine hK.out _ _ ?hSn1_6 (fun hHeld => ?hRn1_6)
      case hSn1_6 => ((try dsimp only); all_goals exact trivial)
      clear hK K
      try simp only [Act.put, zp1, zp2, zp3, zp4, zp5, zp6]
      refine wpAnyH_take (i := 4) (v := ?vn1_7) rfl (by kernel_rfl) (by kernel_rfl) (by kernel_rfl) (fun _ _ _ h => h) (Or.inl ⟨by rfl, ?hyn1_7⟩) (by assumption) ?hRn1_7
      case hyn1_7 => (intro w hSw; (try dsimp only at hSw); go_simp; (try with_reducible rfl))
      try simp only [Act.put, zp1, zp2, zp3, zp4, zp5, zp6]
      refine wpAnyH_ready (rs := [5]) (by kernel_rfl) (by simp) ?_
      refine AllReadyH.cons rfl (fun K hK => ?_) AllReadyH.nil
      go_simp
      refine hK.out _ _ ?hSn1_8 (fun hHeld => ?hRn1_8)
      case hSn1_8 => ((try dsimp only); all_goals exact trivial)
      clear hK K
      try simp only [Act.put, zp1, zp2, zp3, zp4, zp5, zp6]
      refine wpAnyH_ready (rs := [6]) (by kernel_rfl) (by simp) ?_
      refine AllReadyH.cons rfl (fun K hK => ?_) AllReadyH.nil
      (refine ro_stepX (XU (XE g3) (XU (XE g2) (XL w))) (A := A12) (x := x12) (c := c12) (ex := termP .nil 9 1) (Ae := A45) (ce := c45) (n := 1) (d := 1) (by rfl) _ _ (by rfl) (by rfl) (by rfl) (ro_argX _ A45 (XU (XE g3) (XU (XE g2) (XL w))) _) (by unfold I64; omega) (by unfold I64; omega) (by omega) ?_; intro Ap cp wp _ _)
      refine hK.out _ _ ?hSn1_9 (fun hHeld => ?hRn1_9)
      case hSn1_9 => ((try dsimp only); all_goals exact trivial)
      clear hK K
      try simp only [Act.put, zp1, zp2, zp3, zp4, zp5, zp6]
      refine wpAnyH_take (i := 7) (v := ?vn1_10) rfl (by kernel_rfl) (by kernel_rfl) (by kernel_rfl) (fun _ _ _ h => h) (Or.inl ⟨by rfl, ?hyn1_10⟩) (by assumption) ?hRn1_10
      case hyn1_10 => (intro w hSw; (try dsimp only at hSw); go_simp; (try with_reducible rfl))
      try simp only [Act.put, zp1, zp2, zp3, zp4, zp5, zp6]
      refine wpAnyH_ready (rs := [8]) (by kernel_rfl) (by simp) ?_
      refine AllReadyH.cons rfl (fun K hK => ?_) AllReadyH.nil
      go_simp
      refine hK.out _ _ ?hSn1_11 (fun hHeld => ?hRn1_11)
      case hSn1_11 => ((try dsimp only); all_goals exact trivial)
      clear hK K
      try simp only [Act.put, zp1, zp2, zp3, zp4, zp5, zp6]
      refine wpAnyH_done (by kernel_rfl) ?_ _
    case' bn1_3 =>
      go_simp
      ((go_at_call 77; refine (suInt_any _ (XL _) _ (fun k hk => hk) (by unfold I64; omega)).mono ?_; rintro e45 w45 ⟨A45, c45, rfl, hs, hb⟩; haveI : Bel _ w45 := ⟨hb⟩; haveI := Tr.arg hs; clear hs hb))
      go_wp2_with fail
      refine hK.out _ _ ?hSn1_12 (fun hHeld => ?hRn1_12)
      case hSn1_12 => ((try dsimp only); all_goals exact trivial)
      clear hK K
      try simp only [Act.put, zp1, zp2, zp3, zp4, zp5, zp6]
      refine wpAnyH_ready (rs := [1, 3]) (by kernel_rfl) (by simp) ?_
      refine AllReadyH.cons rfl (fun K hK => ?bn1_13) (AllReadyH.cons rfl (fun K hK => ?bn1_14) (AllReadyH.nil))
      case' bn1_13 =>
        go_simp
        refine hK.out _ _ ?hSn1_15 (fun hHeld => ?hRn1_15)
        case hSn1_15 => ((try dsimp only); all_goals exact trivial)
        clear hK K
        try simp only [Act.put, zp1, zp2, zp3, zp4, zp5, zp6]
        refine wpAnyH_ready (rs := [3]) (by kernel_rfl) (by simp) ?_
        refine AllReadyH.cons rfl (fun K hK => ?_) AllReadyH.nil
        go_simp
        ((go_at_call 78; refine (shInt_any _ _).mono ?_; rintro e46 w46 ⟨rfl, hb⟩; haveI : Bel _ w46 := ⟨hb⟩; clear hb))
        go_wp2_with fail
        refine hK.out _ _ ?hSn1_16 (fun hHeld => ?hRn1_16)
        case hSn1_16 => ((try dsimp only); all_goals exact trivial)
        clear hK K
        try simp only [Act.put, zp1, zp2, zp3, zp4, zp5, zp6]
        refine wpAnyH_take (i := 4) (v := ?vn1_17) rfl (by kernel_rfl) (by kernel_rfl) (by kernel_rfl) (fun _ _ _ h => h) (Or.inl ⟨by rfl, ?hyn1_17⟩) (by assumption) ?hRn1_17
        case hyn1_17 => (intro w hSw; (try dsimp only at hSw); go_simp; (try with_reducible rfl))
        try simp only [Act.put, zp1, zp2, zp3, zp4, zp5, zp6]
        refine wpAnyH_ready (rs := [5]) (by kernel_rfl) (by simp) ?_
        refine AllReadyH.cons rfl (fun K hK => ?_) AllReadyH.nil
        go_simp
        refine hK.out _ _ ?hSn1_18 (fun hHeld => ?hRn1_18)
        case hSn1_18 => ((try dsimp only); all_goals exact trivial)
        clear hK K
        try simp only [Act.put, zp1, zp2, zp3, zp4, zp5, zp6]
        refine wpAnyH_ready (rs := [6]) (by kernel_rfl) (by simp) ?_
        refine AllReadyH.cons rfl (fun K hK => ?_) AllReadyH.nil
        (refine ro_stepX (XU (XE g3) (XU (XE g2) (XL w))) (A := A12) (x := x12) (c := c12) (ex := termP .nil 9 1) (Ae := A45) (ce := c45) (n := 1) (d := 1) (by rfl) _ _ (by rfl) (by rfl) (by rfl) (ro_argX _ A45 (XU (XE g3) (XU (XE g2) (XL w))) _) (by unfold I64; omega) (by unfold I64; omega) (by omega) ?_; intro Ap cp wp _ _)
        refine hK.out _ _ ?hSn1_19 (fun hHeld => ?hRn1_19)
        case hSn1_19 => ((try dsimp only); all_goals exact trivial)
        clear hK K
        try simp only [Act.put, zp1, zp2, zp3, zp4, zp5, zp6]
        refine wpAnyH_take (i := 7) (v := ?vn1_20) rfl (by kernel_rfl) (by kernel_rfl) (by kernel_rfl) (fun _ _ _ h => h) (Or.inl ⟨by rfl, ?hyn1_20⟩) (by assumption) ?hRn1_20
        case hyn1_20 => (intro w hSw; (try dsimp only at hSw); go_simp; (try with_reducible rfl))
        try simp only [Act.put, zp1, zp2, zp3, zp4, zp5, zp6]
        refine wpAnyH_ready (rs := [8]) (by kernel_rfl) (by simp) ?_
        refine AllReadyH.cons rfl (fun K hK => ?_) AllReadyH.nil
        go_simp
        refine hK.out _ _ ?hSn1_21 (fun hHeld => ?hRn1_21)
        case hSn1_21 => ((try dsimp only); all_goals exact trivial)
        clear hK K
        try simp only [Act.put, zp1, zp2, zp3, zp4, zp5, zp6]
        refine wpAnyH_done (by kernel_rfl) ?_ _
      case' bn1_14 =>
        go_simp
        ((go_at_call 78; refine (shInt_any _ _).mono ?_; rintro e46 w46 ⟨rfl, hb⟩; haveI : Bel _ w46 := ⟨hb⟩; clear hb))
        go_wp2_with fail
        refine hK.out _ _ ?hSn1_22 (fun hHeld => ?hRn1_22)
        case hSn1_22 => ((try dsimp only); all_goals exact trivial)
        clear hK K
        try simp only [Act.put, zp1, zp2, zp3, zp4, zp5, zp6]
        refine wpAnyH_take (i := 4) (v := ?vn1_23) rfl (by kernel_rfl) (by kernel_rfl) (by kernel_rfl) (fun _ _ _ h => h) (Or.inl ⟨by rfl, ?hyn1_23⟩) (by assumption) ?hRn1_23
        case hyn1_23 => (intro w hSw; (try dsimp only at hSw); go_simp; (try with_reducible rfl))
        try simp only [Act.put, zp1, zp2, zp3, zp4, zp5, zp6]
        refine wpAnyH_ready (rs := [1, 5]) (by kernel_rfl) (by simp) ?_
        refine AllReadyH.cons rfl (fun K hK => ?bn1_24) (AllReadyH.cons rfl (fun K hK => ?bn1_25) (AllReadyH.nil))
        case' bn1_24 =>
          go_simp
          refine hK.out _ _ ?hSn1_26 (fun hHeld => ?hRn1_26)
          case hSn1_26 => ((try dsimp only); all_goals exact trivial)
          clear hK K
          try simp only [Act.put, zp1, zp2, zp3, zp4, zp5, zp6]
          refine wpAnyH_ready (rs := [5]) (by kernel_rfl) (by simp) ?_
          refine AllReadyH.cons rfl (fun K hK => ?_) AllReadyH.nil
          go_simp
          refine hK.out _ _ ?hSn1_27 (fun hHeld => ?hRn1_27)
          case hSn1_27 => ((try dsimp only); all_goals exact trivial)
          clear hK K
          try simp only [Act.put, zp1, zp2, zp3, zp4, zp5, zp6]
          refine wpAnyH_ready (rs := [6]) (by kernel_rfl) (by simp) ?_
          refine AllReadyH.cons rfl (fun K hK => ?_) AllReadyH.nil
          (refine ro_stepX (XU (XE g3) (XU (XE g2) (XL w))) (A := A12) (x := x12) (c := c12) (ex := termP .nil 9 1) (Ae := A45) (ce := c45) (n := 1) (d := 1) (by rfl) _ _ (by rfl) (by rfl) (by rfl) (ro_argX _ A45 (XU (XE g3) (XU (XE g2) (XL w))) _) (by unfold I64; omega) (by unfold I64; omega) (by omega) ?_; intro Ap cp wp _ _)
          refine hK.out _ _ ?hSn1_28 (fun hHeld => ?hRn1_28)
          case hSn1_28 => ((try dsimp only); all_goals exact trivial)
          clear hK K
          try simp only [Act.put, zp1, zp2, zp3, zp4, zp5, zp6]
          refine wpAnyH_take (i := 7) (v := ?vn1_29) rfl (by kernel_rfl) (by kernel_rfl) (by kernel_rfl) (fun _ _ _ h => h) (Or.inl ⟨by rfl, ?hyn1_29⟩) (by assumption) ?hRn1_29
          case hyn1_29 => (intro w hSw; (try dsimp only at hSw); go_simp; (try with_reducible rfl))
          try simp only [Act.put, zp1, zp2, zp3, zp4, zp5, zp6]
          refine wpAnyH_ready (rs := [8]) (by kernel_rfl) (by simp) ?_
          refine AllReadyH.cons rfl (fun K hK => ?_) AllReadyH.nil
          go_simp
          refine hK.out _ _ ?hSn1_30 (fun hHeld => ?hRn1_30)
          case hSn1_30 => ((try dsimp only); all_goals exact trivial)
          clear hK K
          try simp only [Act.put, zp1, zp2, zp3, zp4, zp5, zp6]
          refine wpAnyH_done (by kernel_rfl) ?_ _
        case' bn1_25 =>
          go_simp
          refine hK.out _ _ ?hSn1_31 (fun hHeld => ?hRn1_31)
          case hSn1_31 => ((try dsimp only); all_goals exact trivial)
          clear hK K
          try simp only [Act.put, zp1, zp2, zp3, zp4, zp5, zp6]
          refine wpAnyH_ready (rs := [1]) (by kernel_rfl) (by simp) ?_
          refine AllReadyH.cons rfl (fun K hK => ?_) AllReadyH.nil
          go_simp
          refine hK.out _ _ ?hSn1_32 (fun hHeld => ?hRn1_32)
          case hSn1_32 => ((try dsimp only); all_goals exact trivial)
          clear hK K
          try simp only [Act.put, zp1, zp2, zp3, zp4, zp5, zp6]
          refine wpAnyH_ready (rs := [6]) (by kernel_rfl) (by simp) ?_
          refine AllReadyH.cons rfl (fun K hK => ?_) AllReadyH.nil
          (refine ro_stepX (XU (XE g3) (XU (XE g2) (XL w))) (A := A12) (x := x12) (c := c12) (ex := termP .nil 9 1) (Ae := A45) (ce := c45) (n := 1) (d := 1) (by rfl) _ _ (by rfl) (by rfl) (by rfl) (ro_argX _ A45 (XU (XE g3) (XU (XE g2) (XL w))) _) (by unfold I64; omega) (by unfold I64; omega) (by omega) ?_; intro Ap cp wp _ _)
          refine hK.out _ _ ?hSn1_33 (fun hHeld => ?hRn1_33)
          case hSn1_33 => ((try dsimp only); all_goals exact trivial)
          clear hK K
          try simp only [Act.put, zp1, zp2, zp3, zp4, zp5, zp6]
          refine wpAnyH_take (i := 7) (v := ?vn1_34) rfl (by kernel_rfl) (by kernel_rfl) (by kernel_rfl) (fun _ _ _ h => h) (Or.inl ⟨by rfl, ?hyn1_34⟩) (by assumption) ?hRn1_34
          case hyn1_34 => (intro w hSw; (try dsimp only at hSw); go_simp; (try with_reducible rfl))
          try simp only [Act.put, zp1, zp2, zp3, zp4, zp5, zp6]
          refine wpAnyH_ready (rs := [8]) (by kernel_rfl) (by simp) ?_
          refine AllReadyH.cons rfl (fun K hK => ?_) AllReadyH.nil
          go_simp
          refine hK.out _ _ ?hSn1_35 (fun hHeld => ?hRn1_35)
          case hSn1_35 => ((try dsimp only); all_goals exact trivial)
          clear hK K
          try simp only [Act.put, zp1, zp2, zp3, zp4, zp5, zp6]
          refine wpAnyH_done (by kernel_rfl) ?_ _
    all_goals
      go_wp2
      (refine bodyPost_ret (v := .agg #[.slice Ap (x12.len + 1) cp]) (by simp [results, Tryz.results27, go_sem]) rfl ?_)
      exact ⟨x12.app (.cons (termP .nil 9 1) 1 1 .nil), Ap, cp, by rw [Sur.len_snoc], trx (XL w) _ Ap, by rw [Sur.len_snoc]; omega, drew _ _ _ (by omega)⟩
  · skip
    refine wp_region_held_drew (S := (fun w' => True)) (by kernel_rfl) ?hSn2_ (fun hHeld => ?hRn2_)
    case hSn2_ => (all_goals exact trivial)
    refine wpAnyH_take (i := 0) (v := ?vn2_1) rfl (by kernel_rfl) (by kernel_rfl) (by kernel_rfl) (fun _ _ _ h => h) (Or.inl ⟨by rfl, ?hyn2_1⟩) (by assumption) ?hRn2_1
    case hyn2_1 => (intro w hSw; (try dsimp only at hSw); go_simp; (try with_reducible rfl))
    try simp only [Act.put, zp1, zp2, zp3, zp4, zp5, zp6]
    refine wpAnyH_take (i := 3) (v := ?vn2_2) rfl (by kernel_rfl) (by kernel_rfl) (by kernel_rfl) (fun _ _ _ h => h) (Or.inl ⟨by rfl, ?hyn2_2⟩) (by assumption) ?hRn2_2
    case hyn2_2 => (intro w hSw; (try dsimp only at hSw); go_simp; (try with_reducible rfl))
    try simp only [Act.put, zp1, zp2, zp3, zp4, zp5, zp6]
    refine wpAnyH_ready (rs := [1, 2]) (by kernel_rfl) (by simp) ?_
    refine AllReadyH.cons rfl (fun K hK => ?bn2_3) (AllReadyH.cons rfl (fun K hK => ?bn2_4) (AllReadyH.nil))
    case' bn2_3 =>
      go_simp
      refine hK.out _ _ ?hSn2_5 (fun hHeld => ?hRn2_5)
      case hSn2_5 => ((try dsimp only); all_goals exact trivial)
      clear hK K
      try simp only [Act.put, zp1, zp2, zp3, zp4, zp5, zp6]
      refine wpAnyH_ready (rs := [2]) (by kernel_rfl) (by simp) ?_
      refine AllReadyH.cons rfl (fun K hK => ?_) AllReadyH.nil
      go_simp
      ((go_at_call 77; refine (suInt_any _ (XL _) _ (fun k hk => hk) (by unfold I64; omega)).mono ?_; rintro e55 w55 ⟨A55, c55, rfl, hs, hb⟩; haveI : Bel _ w55 := ⟨hb⟩; haveI := Tr.arg hs; clear hs hb))
      go_wp2_with fail
      refine hK.out _ _ ?hSn2_6 (fun hHeld => ?hRn2_6)
      case hSn2_6 => ((try dsimp only); all_goals exact trivial)
      clear hK K
      try simp only [Act.put, zp1, zp2, zp3, zp4, zp5, zp6]
      refine wpAnyH_ready (rs := [4]) (by kernel_rfl) (by simp) ?_
      refine AllReadyH.cons rfl (fun K hK => ?_) AllReadyH.nil
      go_simp
      ((go_at_call 79; refine (cfraction_any g _ _ (by omega)).mono ?_; rintro e57 w57 ⟨n57, d57, rfl, hn57, hd57, h1, h2⟩; haveI := h1; haveI := h2; clear h1 h2))
      go_wp2_with fail
      refine hK.out _ _ ?hSn2_7 (fun hHeld => ?hRn2_7)
      case hSn2_7 => ((try dsimp only); all_goals exact trivial)
      clear hK K
      try simp only [Act.put, zp1, zp2, zp3, zp4, zp5, zp6]
      refine wpAnyH_take (i := 5) (v := ?vn2_8) rfl (by kernel_rfl) (by kernel_rfl) (by kernel_rfl) (fun _ _ _ h => h) (Or.inl ⟨by rfl, ?hyn2_8⟩) (by assumption) ?hRn2_8
      case hyn2_8 => (intro w hSw; (try dsimp only at hSw); go_simp; (try with_reducible rfl))
      try simp only [Act.put, zp1, zp2, zp3, zp4, zp5, zp6]
      refine wpAnyH_ready (rs := [6]) (by kernel_rfl) (by simp) ?_
      refine AllReadyH.cons rfl (fun K hK => ?_) AllReadyH.nil
      go_simp
      refine hK.out _ _ ?hSn2_9 (fun hHeld => ?hRn2_9)
      case hSn2_9 => ((try dsimp only); all_goals exact trivial)
      clear hK K
      try simp only [Act.put, zp1, zp2, zp3, zp4, zp5, zp6]
      refine wpAnyH_ready (rs := [7]) (by kernel_rfl) (by simp) ?_
      refine AllReadyH.cons rfl (fun K hK => ?_) AllReadyH.nil
      (refine ro_stepX (XU (XE g3) (XU (XE g2) (XL w))) (A := A12) (x := x12) (c := c12) (ex := termP .nil (-1000) 1) (Ae := A55) (ce := c55) (n := n57) (d := d57) (by rfl) _ _ (by rfl) (by rfl) (by rfl) (ro_argX _ A55 (XU (XE g3) (XU (XE g2) (XL w))) _) hn57 hd57 (by omega) ?_; intro Ap cp wp _ _)
      refine hK.out _ _ ?hSn2_10 (fun hHeld => ?hRn2_10)
      case hSn2_10 => ((try dsimp only); all_goals exact trivial)
      clear hK K
      try simp only [Act.put, zp1, zp2, zp3, zp4, zp5, zp6]
      refine wpAnyH_take (i := 8) (v := ?vn2_11) rfl (by kernel_rfl) (by kernel_rfl) (by kernel_rfl) (fun _ _ _ h => h) (Or.inl ⟨by rfl, ?hyn2_11⟩) (by assumption) ?hRn2_11
      case hyn2_11 => (intro w hSw; (try dsimp only at hSw); go_simp; (try with_reducible rfl))
      try simp only [Act.put, zp1, zp2, zp3, zp4, zp5, zp6]
      refine wpAnyH_ready (rs := [9]) (by kernel_rfl) (by simp) ?_
      refine AllReadyH.cons rfl (fun K hK => ?_) AllReadyH.nil
      go_simp
      refine hK.out _ _ ?hSn2_12 (fun hHeld => ?hRn2_12)
      case hSn2_12 => ((try dsimp only); all_goals exact trivial)
      clear hK K
      try simp only [Act.put, zp1, zp2, zp3, zp4, zp5, zp6]
      refine wpAnyH_done (by kernel_rfl) ?_ _
    case' bn2_4 =>
      go_simp
      ((go_at_call 77; refine (suInt_any _ (XL _) _ (fun k hk => hk) (by unfold I64; omega)).mono ?_; rintro e55 w55 ⟨A55, c55, rfl, hs, hb⟩; haveI : Bel _ w55 := ⟨hb⟩; haveI := Tr.arg hs; clear hs hb))
      go_wp2_with fail
      refine hK.out _ _ ?hSn2_13 (fun hHeld => ?hRn2_13)
      case hSn2_13 => ((try dsimp only); all_goals exact trivial)
      clear hK K
      try simp only [Act.put, zp1, zp2, zp3, zp4, zp5, zp6]
      refine wpAnyH_ready (rs := [1, 4]) (by kernel_rfl) (by simp) ?_
      refine AllReadyH.cons rfl (fun K hK => ?bn2_14) (AllReadyH.cons rfl (fun K hK => ?bn2_15) (AllReadyH.nil))
      case' bn2_14 =>
        go_simp
        refine hK.out _ _ ?hSn2_16 (fun hHeld => ?hRn2_16)
        case hSn2_16 => ((try dsimp only); all_goals exact trivial)
        clear hK K
        try simp only [Act.put, zp1, zp2, zp3, zp4, zp5, zp6]
        refine wpAnyH_ready (rs := [4]) (by kernel_rfl) (by simp) ?_
        refine AllReadyH.cons rfl (fun K hK => ?_) AllReadyH.nil
        go_simp
        ((go_at_call 79; refine (cfraction_any g _ _ (by omega)).mono ?_; rintro e57 w57 ⟨n57, d57, rfl, hn57, hd57, h1, h2⟩; haveI := h1; haveI := h2; clear h1 h2))
        go_wp2_with fail
        refine hK.out _ _ ?hSn2_17 (fun hHeld => ?hRn2_17)
        case hSn2_17 => ((try dsimp only); all_goals exact trivial)
        clear hK K
        try simp only [Act.put, zp1, zp2, zp3, zp4, zp5, zp6]
        refine wpAnyH_take (i := 5) (v := ?vn2_18) rfl (by kernel_rfl) (by kernel_rfl) (by kernel_rfl) (fun _ _ _ h => h) (Or.inl ⟨by rfl, ?hyn2_18⟩) (by assumption) ?hRn2_18
        case hyn2_18 => (intro w hSw; (try dsimp only at hSw); go_simp; (try with_reducible rfl))
        try simp only [Act.put, zp1, zp2, zp3, zp4, zp5, zp6]
        refine wpAnyH_ready (rs := [6]) (by kernel_rfl) (by simp) ?_
        refine AllReadyH.cons rfl (fun K hK => ?_) AllReadyH.nil
        go_simp
        refine hK.out _ _ ?hSn2_19 (fun hHeld => ?hRn2_19)
        case hSn2_19 => ((try dsimp only); all_goals exact trivial)
        clear hK K
        try simp only [Act.put, zp1, zp2, zp3, zp4, zp5, zp6]
        refine wpAnyH_ready (rs := [7]) (by kernel_rfl) (by simp) ?_
        refine AllReadyH.cons rfl (fun K hK => ?_) AllReadyH.nil
        (refine ro_stepX (XU (XE g3) (XU (XE g2) (XL w))) (A := A12) (x := x12) (c := c12) (ex := termP .nil (-1000) 1) (Ae := A55) (ce := c55) (n := n57) (d := d57) (by rfl) _ _ (by rfl) (by rfl) (by rfl) (ro_argX _ A55 (XU (XE g3) (XU (XE g2) (XL w))) _) hn57 hd57 (by omega) ?_; intro Ap cp wp _ _)
        refine hK.out _ _ ?hSn2_20 (fun hHeld => ?hRn2_20)
        case hSn2_20 => ((try dsimp only); all_goals exact trivial)
        clear hK K
        try simp only [Act.put, zp1, zp2, zp3, zp4, zp5, zp6]
        refine wpAnyH_take (i := 8) (v := ?vn2_21) rfl (by kernel_rfl) (by kernel_rfl) (by kernel_rfl) (fun _ _ _ h => h) (Or.inl ⟨by rfl, ?hyn2_21⟩) (by assumption) ?hRn2_21
        case hyn2_21 => (intro w hSw; (try dsimp only at hSw); go_simp; (try with_reducible rfl))
        try simp only [Act.put, zp1, zp2, zp3, zp4, zp5, zp6]
        refine wpAnyH_ready (rs := [9]) (by kernel_rfl) (by simp) ?_
        refine AllReadyH.cons rfl (fun K hK => ?_) AllReadyH.nil
        go_simp
        refine hK.out _ _ ?hSn2_22 (fun hHeld => ?hRn2_22)
        case hSn2_22 => ((try dsimp only); all_goals exact trivial)
        clear hK K
        try simp only [Act.put, zp1, zp2, zp3, zp4, zp5, zp6]
        refine wpAnyH_done (by kernel_rfl) ?_ _
      case' bn2_15 =>
        go_simp
        ((go_at_call 79; refine (cfraction_any g _ _ (by omega)).mono ?_; rintro e57 w57 ⟨n57, d57, rfl, hn57, hd57, h1, h2⟩; haveI := h1; haveI := h2; clear h1 h2))
        go_wp2_with fail
        refine hK.out _ _ ?hSn2_23 (fun hHeld => ?hRn2_23)
        case hSn2_23 => ((try dsimp only); all_goals exact trivial)
        clear hK K
        try simp only [Act.put, zp1, zp2, zp3, zp4, zp5, zp6]
        refine wpAnyH_take (i := 5) (v := ?vn2_24) rfl (by kernel_rfl) (by kernel_rfl) (by kernel_rfl) (fun _ _ _ h => h) (Or.inl ⟨by rfl, ?hyn2_24⟩) (by assumption) ?hRn2_24
        case hyn2_24 => (intro w hSw; (try dsimp only at hSw); go_simp; (try with_reducible rfl))
        try simp only [Act.put, zp1, zp2, zp3, zp4, zp5, zp6]
        refine wpAnyH_ready (rs := [1, 6]) (by kernel_rfl) (by simp) ?_
        refine AllReadyH.cons rfl (fun K hK => ?bn2_25) (AllReadyH.cons rfl (fun K hK => ?bn2_26) (AllReadyH.nil))
        case' bn2_25 =>
          go_simp
          refine hK.out _ _ ?hSn2_27 (fun hHeld => ?hRn2_27)
          case hSn2_27 => ((try dsimp only); all_goals exact trivial)
          clear hK K
          try simp only [Act.put, zp1, zp2, zp3, zp4, zp5, zp6]
          refine wpAnyH_ready (rs := [6]) (by kernel_rfl) (by simp) ?_
          refine AllReadyH.cons rfl (fun K hK => ?_) AllReadyH.nil
          go_simp
          refine hK.out _ _ ?hSn2_28 (fun hHeld => ?hRn2_28)
          case hSn2_28 => ((try dsimp only); all_goals exact trivial)
          clear hK K
          try simp only [Act.put, zp1, zp2, zp3, zp4, zp5, zp6]
          refine wpAnyH_ready (rs := [7]) (by kernel_rfl) (by simp) ?_
          refine AllReadyH.cons rfl (fun K hK => ?_) AllReadyH.nil
          (refine ro_stepX (XU (XE g3) (XU (XE g2) (XL w))) (A := A12) (x := x12) (c := c12) (ex := termP .nil (-1000) 1) (Ae := A55) (ce := c55) (n := n57) (d := d57) (by rfl) _ _ (by rfl) (by rfl) (by rfl) (ro_argX _ A55 (XU (XE g3) (XU (XE g2) (XL w))) _) hn57 hd57 (by omega) ?_; intro Ap cp wp _ _)
          refine hK.out _ _ ?hSn2_29 (fun hHeld => ?hRn2_29)
          case hSn2_29 => ((try dsimp only); all_goals exact trivial)
          clear hK K
          try simp only [Act.put, zp1, zp2, zp3, zp4, zp5, zp6]
          refine wpAnyH_take (i := 8) (v := ?vn2_30) rfl (by kernel_rfl) (by kernel_rfl) (by kernel_rfl) (fun _ _ _ h => h) (Or.inl ⟨by rfl, ?hyn2_30⟩) (by assumption) ?hRn2_30
          case hyn2_30 => (intro w hSw; (try dsimp only at hSw); go_simp; (try with_reducible rfl))
          try simp only [Act.put, zp1, zp2, zp3, zp4, zp5, zp6]
          refine wpAnyH_ready (rs := [9]) (by kernel_rfl) (by simp) ?_
          refine AllReadyH.cons rfl (fun K hK => ?_) AllReadyH.nil
          go_simp
          refine hK.out _ _ ?hSn2_31 (fun hHeld => ?hRn2_31)
          case hSn2_31 => ((try dsimp only); all_goals exact trivial)
          clear hK K
          try simp only [Act.put, zp1, zp2, zp3, zp4, zp5, zp6]
          refine wpAnyH_done (by kernel_rfl) ?_ _
        case' bn2_26 =>
          go_simp
          refine hK.out _ _ ?hSn2_32 (fun hHeld => ?hRn2_32)
          case hSn2_32 => ((try dsimp only); all_goals exact trivial)
          clear hK K
          try simp only [Act.put, zp1, zp2, zp3, zp4, zp5, zp6]
          refine wpAnyH_ready (rs := [1]) (by kernel_rfl) (by simp) ?_
          refine AllReadyH.cons rfl (fun K hK => ?_) AllReadyH.nil
          go_simp
          refine hK.out _ _ ?hSn2_33 (fun hHeld => ?hRn2_33)
          case hSn2_33 => ((try dsimp only); all_goals exact trivial)
          clear hK K
          try simp only [Act.put, zp1, zp2, zp3, zp4, zp5, zp6]
          refine wpAnyH_ready (rs := [7]) (by kernel_rfl) (by simp) ?_
          refine AllReadyH.cons rfl (fun K hK => ?_) AllReadyH.nil
          (refine ro_stepX (XU (XE g3) (XU (XE g2) (XL w))) (A := A12) (x := x12) (c := c12) (ex := termP .nil (-1000) 1) (Ae := A55) (ce := c55) (n := n57) (d := d57) (by rfl) _ _ (by rfl) (by rfl) (by rfl) (ro_argX _ A55 (XU (XE g3) (XU (XE g2) (XL w))) _) hn57 hd57 (by omega) ?_; intro Ap cp wp _ _)
          refine hK.out _ _ ?hSn2_34 (fun hHeld => ?hRn2_34)
          case hSn2_34 => ((try dsimp only); all_goals exact trivial)
          clear hK K
          try simp only [Act.put, zp1, zp2, zp3, zp4, zp5, zp6]
          refine wpAnyH_take (i := 8) (v := ?vn2_35) rfl (by kernel_rfl) (by kernel_rfl) (by kernel_rfl) (fun _ _ _ h => h) (Or.inl ⟨by rfl, ?hyn2_35⟩) (by assumption) ?hRn2_35
          case hyn2_35 => (intro w hSw; (try dsimp only at hSw); go_simp; (try with_reducible rfl))
          try simp only [Act.put, zp1, zp2, zp3, zp4, zp5, zp6]
          refine wpAnyH_ready (rs := [9]) (by kernel_rfl) (by simp) ?_
          refine AllReadyH.cons rfl (fun K hK => ?_) AllReadyH.nil
          go_simp
          refine hK.out _ _ ?hSn2_36 (fun hHeld => ?hRn2_36)
          case hSn2_36 => ((try dsimp only); all_goals exact trivial)
          clear hK K
          try simp only [Act.put, zp1, zp2, zp3, zp4, zp5, zp6]
          refine wpAnyH_done (by kernel_rfl) ?_ _
    all_goals
      go_wp2
      (refine bodyPost_ret (v := .agg #[.slice Ap (x12.len + 1) cp]) (by simp [results, Tryz.results27, go_sem]) rfl ?_)
      exact ⟨x12.app (.cons (termP .nil (-1000) 1) n57 d57 .nil), Ap, cp, by rw [Sur.len_snoc], trx (XL w) _ Ap, by rw [Sur.len_snoc]; omega, drew _ _ _ (by omega)⟩
  · go_loopw [4] (fun s wr => ∃ (m : Nat) (y : Sur) (Ay : Option Addr) (cy : Nat), s = .int .i64 m ∧ m ≤ 100 ∧ y.len ≤ 3 ∧ Has wr g3 (.cells #[.slice Ay y.len cy] 26 (0, 0)) ∧ Tr wr Ay (XV wr (XU (XE g3) (XU (XE g2) (XL w)))) y cy ∧ Kp w65 (XE g3) wr ∧ Cur wr g (k + 9000000)) (fun s _ => (intOf s).toNat)
    case atStart => exact ⟨r65.toNat, x12, A12, c12, by go_num, by omega, by omega, inferInstance, Tr.lp (XU (XE g3) (XU (XE g2) (XL w))), kp _ _ _, Cur.le inferInstance (by omega)⟩
    case round =>
      obtain ⟨m, y, Ay, cy, rfl, hmm, hly, _, _, _, hcr⟩ := hrel
      haveI := hcr
      by_cases hm0 : m = 0
      · subst hm0
        go_wp2
        refine bodyPost_ret (v := .agg #[.slice Ay y.len cy]) (by simp [results, Tryz.results27, go_sem]) rfl ?_
        exact ⟨y, Ay, cy, rfl, trx (XL w) _ Ay, by omega, drew _ _ _ (by omega)⟩
      · go_wp2
        refine wp_region_held_drew (S := (fun w' => True)) (by kernel_rfl) ?hSn3_ (fun hHeld => ?hRn3_)
        case hSn3_ => (all_goals exact trivial)
        refine wpAnyH_ready (rs := [0, 1]) (by kernel_rfl) (by simp) ?_
        refine AllReadyH.cons rfl (fun K hK => ?bn3_1) (AllReadyH.cons rfl (fun K hK => ?bn3_2) (AllReadyH.nil))
        case' bn3_1 =>
          go_simp
          refine hK.out _ _ ?hSn3_3 (fun hHeld => ?hRn3_3)
          case hSn3_3 => ((try dsimp only); all_goals exact trivial)
          clear hK K
          try simp only [Act.put, zp1, zp2, zp3, zp4, zp5, zp6]
          refine wpAnyH_ready (rs := [1]) (by kernel_rfl) (by simp) ?_
          refine AllReadyH.cons rfl (fun K hK => ?_) AllReadyH.nil
          go_simp
          ((go_at_call 78; refine (shInt_any _ _).mono ?_; rintro e71 w71 ⟨rfl, hb⟩; haveI : Bel _ w71 := ⟨hb⟩; clear hb))
          go_wp2_with fail
          refine hK.out _ _ ?hSn3_4 (fun hHeld => ?hRn3_4)
          case hSn3_4 => ((try dsimp only); all_goals exact trivial)
          clear hK K
          try simp only [Act.put, zp1, zp2, zp3, zp4, zp5, zp6]
          refine wpAnyH_ready (rs := [2]) (by kernel_rfl) (by simp) ?_
          refine AllReadyH.cons rfl (fun K hK => ?_) AllReadyH.nil
          go_simp
          ((go_at_call 80; refine (suTerm_any y 1 1 (XU (XE g3) (XU (XE g2) (XL w))) Ay cy _ (xlt (XU (XE g3) (XU (XE g2) (XL w))) _) (trx (XU (XE g3) (XU (XE g2) (XL w))) _ Ay) (by unfold I64; omega) (by unfold I64; omega)).mono ?_; rintro e72 w72 ⟨A72, c72, rfl, hs, hb⟩; haveI : Bel _ w72 := ⟨hb⟩; haveI := Tr.arg hs; clear hs hb))
          go_wp2_with fail
          refine hK.out _ _ ?hSn3_5 (fun hHeld => ?hRn3_5)
          case hSn3_5 => ((try dsimp only); all_goals exact trivial)
          clear hK K
          try simp only [Act.put, zp1, zp2, zp3, zp4, zp5, zp6]
          refine wpAnyH_ready (rs := [3]) (by kernel_rfl) (by simp) ?_
          refine AllReadyH.cons rfl (fun K hK => ?_) AllReadyH.nil
          go_simp
          refine hK.out _ _ ?hSn3_6 (fun hHeld => ?hRn3_6)
          case hSn3_6 => ((try dsimp only); all_goals exact trivial)
          clear hK K
          try simp only [Act.put, zp1, zp2, zp3, zp4, zp5, zp6]
          refine wpAnyH_done (by kernel_rfl) ?_ _
        case' bn3_2 =>
          go_simp
          ((go_at_call 78; refine (shInt_any _ _).mono ?_; rintro e71 w71 ⟨rfl, hb⟩; haveI : Bel _ w71 := ⟨hb⟩; clear hb))
          go_wp2_with fail
          refine hK.out _ _ ?hSn3_7 (fun hHeld => ?hRn3_7)
          case hSn3_7 => ((try dsimp only); all_goals exact trivial)
          clear hK K
          try simp only [Act.put, zp1, zp2, zp3, zp4, zp5, zp6]
          refine wpAnyH_ready (rs := [0]) (by kernel_rfl) (by simp) ?_
          refine AllReadyH.cons rfl (fun K hK => ?_) AllReadyH.nil
          go_simp
          refine hK.out _ _ ?hSn3_8 (fun hHeld => ?hRn3_8)
          case hSn3_8 => ((try dsimp only); all_goals exact trivial)
          clear hK K
          try simp only [Act.put, zp1, zp2, zp3, zp4, zp5, zp6]
          refine wpAnyH_ready (rs := [2]) (by kernel_rfl) (by simp) ?_
          refine AllReadyH.cons rfl (fun K hK => ?_) AllReadyH.nil
          go_simp
          ((go_at_call 80; refine (suTerm_any y 1 1 (XU (XE g3) (XU (XE g2) (XL w))) Ay cy _ (xlt (XU (XE g3) (XU (XE g2) (XL w))) _) (trx (XU (XE g3) (XU (XE g2) (XL w))) _ Ay) (by unfold I64; omega) (by unfold I64; omega)).mono ?_; rintro e72 w72 ⟨A72, c72, rfl, hs, hb⟩; haveI : Bel _ w72 := ⟨hb⟩; haveI := Tr.arg hs; clear hs hb))
          go_wp2_with fail
          refine hK.out _ _ ?hSn3_9 (fun hHeld => ?hRn3_9)
          case hSn3_9 => ((try dsimp only); all_goals exact trivial)
          clear hK K
          try simp only [Act.put, zp1, zp2, zp3, zp4, zp5, zp6]
          refine wpAnyH_ready (rs := [3]) (by kernel_rfl) (by simp) ?_
          refine AllReadyH.cons rfl (fun K hK => ?_) AllReadyH.nil
          go_simp
          refine hK.out _ _ ?hSn3_10 (fun hHeld => ?hRn3_10)
          case hSn3_10 => ((try dsimp only); all_goals exact trivial)
          clear hK K
          try simp only [Act.put, zp1, zp2, zp3, zp4, zp5, zp6]
          refine wpAnyH_done (by kernel_rfl) ?_ _
        all_goals
          go_wp2
          exact ⟨⟨m - 1, termP y 1 1, A72, c72, by go_num, by omega, by simp [termP, Sur.len], inferInstance, Tr.lp (XU (XE g3) (XU (XE g2) (XL w))), kp _ _ _, inferInstance⟩, by simp [intOf]; omega⟩
  · go_loopw [5] (fun s wr => ∃ (m : Nat) (y : Sur) (Ay : Option Addr) (cy : Nat), s = .int .i64 m ∧ y.len + m ≤ 100 ∧ y.All FOk ∧ Has wr g3 (.cells #[.slice Ay y.len cy] 26 (0, 0)) ∧ Tr wr Ay (XV wr (XU (XE g3) (XU (XE g2) (XL w)))) y cy ∧ Kp w65 (XE g3) wr ∧ Cur wr g (k + 9000000)) (fun s _ => (intOf s).toNat)
    case atStart => exact ⟨r65.toNat, x12, A12, c12, by go_num, by omega, hx12, inferInstance, Tr.lp (XU (XE g3) (XU (XE g2) (XL w))), kp _ _ _, Cur.le inferInstance (by omega)⟩
    case round =>
      obtain ⟨m, y, Ay, cy, rfl, hly, hay, _, _, _, hcr⟩ := hrel
      haveI := hcr
      by_cases hm0 : m = 0
      · subst hm0
        go_wp2
        refine bodyPost_ret (v := .agg #[.slice Ay y.len cy]) (by simp [results, Tryz.results27, go_sem]) rfl ?_
        exact ⟨y, Ay, cy, rfl, trx (XL w) _ Ay, by omega, drew _ _ _ (by omega)⟩
      · have hem := (termP_all (z := .nil) (p := (m : Int)) (q := 1) trivial (fok_small (by omega))).1
        go_wp2
        refine wp_region_held_drew (S := (fun w' => True)) (by kernel_rfl) ?hSn4_ (fun hHeld => ?hRn4_)
        case hSn4_ => (all_goals exact trivial)
        refine wpAnyH_take (i := 1) (v := ?vn4_1) rfl (by kernel_rfl) (by kernel_rfl) (by kernel_rfl) (fun _ _ _ h => h) (Or.inl ⟨by rfl, ?hyn4_1⟩) (by assumption) ?hRn4_1
        case hyn4_1 => (intro w hSw; (try dsimp only at hSw); go_simp; (try with_reducible rfl))
        try simp only [Act.put, zp1, zp2, zp3, zp4, zp5, zp6]
        refine wpAnyH_ready (rs := [0, 2]) (by kernel_rfl) (by simp) ?_
        refine AllReadyH.cons rfl (fun K hK => ?bn4_2) (AllReadyH.cons rfl (fun K hK => ?bn4_3) (AllReadyH.nil))
        case' bn4_2 =>
          go_simp
          refine hK.out _ _ ?hSn4_4 (fun hHeld => ?hRn4_4)
          case hSn4_4 => ((try dsimp only); all_goals exact trivial)
          clear hK K
          try simp only [Act.put, zp1, zp2, zp3, zp4, zp5, zp6]
          refine wpAnyH_ready (rs := [2]) (by kernel_rfl) (by simp) ?_
          refine AllReadyH.cons rfl (fun K hK => ?_) AllReadyH.nil
          go_simp
          ((go_at_call 77; refine (suInt_any _ (XL _) _ (fun k hk => hk) (by unfold I64; omega)).mono ?_; rintro e35 w35 ⟨A35, c35, rfl, hs, hb⟩; haveI : Bel _ w35 := ⟨hb⟩; haveI := Tr.arg hs; clear hs hb))
          go_wp2_with fail
          refine hK.out _ _ ?hSn4_5 (fun hHeld => ?hRn4_5)
          case hSn4_5 => ((try dsimp only); all_goals exact trivial)
          clear hK K
          try simp only [Act.put, zp1, zp2, zp3, zp4, zp5, zp6]
          refine wpAnyH_ready (rs := [3]) (by kernel_rfl) (by simp) ?_
          refine AllReadyH.cons rfl (fun K hK => ?_) AllReadyH.nil
          go_simp
          ((go_at_call 78; refine (shInt_any _ _).mono ?_; rintro e36 w36 ⟨rfl, hb⟩; haveI : Bel _ w36 := ⟨hb⟩; clear hb))
          go_wp2_with fail
          refine hK.out _ _ ?hSn4_6 (fun hHeld => ?hRn4_6)
          case hSn4_6 => ((try dsimp only); all_goals exact trivial)
          clear hK K
          try simp only [Act.put, zp1, zp2, zp3, zp4, zp5, zp6]
          refine wpAnyH_take (i := 4) (v := ?vn4_7) rfl (by kernel_rfl) (by kernel_rfl) (by kernel_rfl) (fun _ _ _ h => h) (Or.inl ⟨by rfl, ?hyn4_7⟩) (by assumption) ?hRn4_7
          case hyn4_7 => (intro w hSw; (try dsimp only at hSw); go_simp; (try with_reducible rfl))
          try simp only [Act.put, zp1, zp2, zp3, zp4, zp5, zp6]
          refine wpAnyH_ready (rs := [5]) (by kernel_rfl) (by simp) ?_
          refine AllReadyH.cons rfl (fun K hK => ?_) AllReadyH.nil
          go_simp
          ((go_at_call 71; refine (suPut_any y (termP .nil (m : Int) 1) 1000000 1 (XU (XE g3) (XU (XE g2) (XL w))) Ay A35 _ _ _ (xlt (XU (XE g3) (XU (XE g2) (XL w))) _) (trx (XU (XE g3) (XU (XE g2) (XL w))) _ Ay) (trx (XU (XE g3) (XU (XE g2) (XL w))) _ A35) hay hem fok_max (by omega)).mono ?_; rintro e38 w38 ⟨A38, c38, rfl, hs, hb⟩; haveI : Bel _ w38 := ⟨hb⟩; haveI := Tr.arg hs; clear hs hb))
          go_wp2_with fail
          refine hK.out _ _ ?hSn4_8 (fun hHeld => ?hRn4_8)
          case hSn4_8 => ((try dsimp only); all_goals exact trivial)
          clear hK K
          try simp only [Act.put, zp1, zp2, zp3, zp4, zp5, zp6]
          refine wpAnyH_take (i := 6) (v := ?vn4_9) rfl (by kernel_rfl) (by kernel_rfl) (by kernel_rfl) (fun _ _ _ h => h) (Or.inl ⟨by rfl, ?hyn4_9⟩) (by assumption) ?hRn4_9
          case hyn4_9 => (intro w hSw; (try dsimp only at hSw); go_simp; (try with_reducible rfl))
          try simp only [Act.put, zp1, zp2, zp3, zp4, zp5, zp6]
          refine wpAnyH_take (i := 7) (v := ?vn4_10) rfl (by kernel_rfl) (by kernel_rfl) (by kernel_rfl) (fun _ _ _ h => h) (Or.inl ⟨by rfl, ?hyn4_10⟩) (by assumption) ?hRn4_10
          case hyn4_10 => (intro w hSw; (try dsimp only at hSw); go_simp; (try with_reducible rfl))
          try simp only [Act.put, zp1, zp2, zp3, zp4, zp5, zp6]
          refine wpAnyH_take (i := 8) (v := ?vn4_11) rfl (by kernel_rfl) (by kernel_rfl) (by kernel_rfl) (fun _ _ _ h => h) (Or.inl ⟨by rfl, ?hyn4_11⟩) (by assumption) ?hRn4_11
          case hyn4_11 => (intro w hSw; (try dsimp only at hSw); go_simp; (try with_reducible rfl))
          try simp only [Act.put, zp1, zp2, zp3, zp4, zp5, zp6]
          refine wpAnyH_ready (rs := [9]) (by kernel_rfl) (by simp) ?_
          refine AllReadyH.cons rfl (fun K hK => ?_) AllReadyH.nil
          go_simp
          refine hK.out _ _ ?hSn4_12 (fun hHeld => ?hRn4_12)
          case hSn4_12 => ((try dsimp only); all_goals exact trivial)
          clear hK K
          try simp only [Act.put, zp1, zp2, zp3, zp4, zp5, zp6]
          refine wpAnyH_done (by kernel_rfl) ?_ _
        case' bn4_3 =>
          go_simp
          ((go_at_call 77; refine (suInt_any _ (XL _) _ (fun k hk => hk) (by unfold I64; omega)).mono ?_; rintro e35 w35 ⟨A35, c35, rfl, hs, hb⟩; haveI : Bel _ w35 := ⟨hb⟩; haveI := Tr.arg hs; clear hs hb))
          go_wp2_with fail
          refine hK.out _ _ ?hSn4_13 (fun hHeld => ?hRn4_13)
          case hSn4_13 => ((try dsimp only); all_goals exact trivial)
          clear hK K
          try simp only [Act.put, zp1, zp2, zp3, zp4, zp5, zp6]
          refine wpAnyH_ready (rs := [0, 3]) (by kernel_rfl) (by simp) ?_
          refine AllReadyH.cons rfl (fun K hK => ?bn4_14) (AllReadyH.cons rfl (fun K hK => ?bn4_15) (AllReadyH.nil))
          case' bn4_14 =>
            go_simp
            refine hK.out _ _ ?hSn4_16 (fun hHeld => ?hRn4_16)
            case hSn4_16 => ((try dsimp only); all_goals exact trivial)
            clear hK K
            try simp only [Act.put, zp1, zp2, zp3, zp4, zp5, zp6]
            refine wpAnyH_ready (rs := [3]) (by kernel_rfl) (by simp) ?_
            refine AllReadyH.cons rfl (fun K hK => ?_) AllReadyH.nil
            go_simp
            ((go_at_call 78; refine (shInt_any _ _).mono ?_; rintro e36 w36 ⟨rfl, hb⟩; haveI : Bel _ w36 := ⟨hb⟩; clear hb))
            go_wp2_with fail
            refine hK.out _ _ ?hSn4_17 (fun hHeld => ?hRn4_17)
            case hSn4_17 => ((try dsimp only); all_goals exact trivial)
            clear hK K
            try simp only [Act.put, zp1, zp2, zp3, zp4, zp5, zp6]
            refine wpAnyH_take (i := 4) (v := ?vn4_18) rfl (by kernel_rfl) (by kernel_rfl) (by kernel_rfl) (fun _ _ _ h => h) (Or.inl ⟨by rfl, ?hyn4_18⟩) (by assumption) ?hRn4_18
            case hyn4_18 => (intro w hSw; (try dsimp only at hSw); go_simp; (try with_reducible rfl))
            try simp only [Act.put, zp1, zp2, zp3, zp4, zp5, zp6]
            refine wpAnyH_ready (rs := [5]) (by kernel_rfl) (by simp) ?_
            refine AllReadyH.cons rfl (fun K hK => ?_) AllReadyH.nil
            go_simp
            ((go_at_call 71; refine (suPut_any y (termP .nil (m : Int) 1) 1000000 1 (XU (XE g3) (XU (XE g2) (XL w))) Ay A35 _ _ _ (xlt (XU (XE g3) (XU (XE g2) (XL w))) _) (trx (XU (XE g3) (XU (XE g2) (XL w))) _ Ay) (trx (XU (XE g3) (XU (XE g2) (XL w))) _ A35) hay hem fok_max (by omega)).mono ?_; rintro e38 w38 ⟨A38, c38, rfl, hs, hb⟩; haveI : Bel _ w38 := ⟨hb⟩; haveI := Tr.arg hs; clear hs hb))
            go_wp2_with fail
            refine hK.out _ _ ?hSn4_19 (fun hHeld => ?hRn4_19)
            case hSn4_19 => ((try dsimp only); all_goals exact trivial)
            clear hK K
            try simp only [Act.put, zp1, zp2, zp3, zp4, zp5, zp6]
            refine wpAnyH_take (i := 6) (v := ?vn4_20) rfl (by kernel_rfl) (by kernel_rfl) (by kernel_rfl) (fun _ _ _ h => h) (Or.inl ⟨by rfl, ?hyn4_20⟩) (by assumption) ?hRn4_20
            case hyn4_20 => (intro w hSw; (try dsimp only at hSw); go_simp; (try with_reducible rfl))
            try simp only [Act.put, zp1, zp2, zp3, zp4, zp5, zp6]
            refine wpAnyH_take (i := 7) (v := ?vn4_21) rfl (by kernel_rfl) (by kernel_rfl) (by kernel_rfl) (fun _ _ _ h => h) (Or.inl ⟨by rfl, ?hyn4_21⟩) (by assumption) ?hRn4_21
            case hyn4_21 => (intro w hSw; (try dsimp only at hSw); go_simp; (try with_reducible rfl))
            try simp only [Act.put, zp1, zp2, zp3, zp4, zp5, zp6]
            refine wpAnyH_take (i := 8) (v := ?vn4_22) rfl (by kernel_rfl) (by kernel_rfl) (by kernel_rfl) (fun _ _ _ h => h) (Or.inl ⟨by rfl, ?hyn4_22⟩) (by assumption) ?hRn4_22
            case hyn4_22 => (intro w hSw; (try dsimp only at hSw); go_simp; (try with_reducible rfl))
            try simp only [Act.put, zp1, zp2, zp3, zp4, zp5, zp6]
            refine wpAnyH_ready (rs := [9]) (by kernel_rfl) (by simp) ?_
            refine AllReadyH.cons rfl (fun K hK => ?_) AllReadyH.nil
            go_simp
            refine hK.out _ _ ?hSn4_23 (fun hHeld => ?hRn4_23)
            case hSn4_23 => ((try dsimp only); all_goals exact trivial)
            clear hK K
            try simp only [Act.put, zp1, zp2, zp3, zp4, zp5, zp6]
            refine wpAnyH_done (by kernel_rfl) ?_ _
          case' bn4_15 =>
            go_simp
            ((go_at_call 78; refine (shInt_any _ _).mono ?_; rintro e36 w36 ⟨rfl, hb⟩; haveI : Bel _ w36 := ⟨hb⟩; clear hb))
            go_wp2_with fail
            refine hK.out _ _ ?hSn4_24 (fun hHeld => ?hRn4_24)
            case hSn4_24 => ((try dsimp only); all_goals exact trivial)
            clear hK K
            try simp only [Act.put, zp1, zp2, zp3, zp4, zp5, zp6]
            refine wpAnyH_take (i := 4) (v := ?vn4_25) rfl (by kernel_rfl) (by kernel_rfl) (by kernel_rfl) (fun _ _ _ h => h) (Or.inl ⟨by rfl, ?hyn4_25⟩) (by assumption) ?hRn4_25
            case hyn4_25 => (intro w hSw; (try dsimp only at hSw); go_simp; (try with_reducible rfl))
            try simp only [Act.put, zp1, zp2, zp3, zp4, zp5, zp6]
            refine wpAnyH_ready (rs := [0]) (by kernel_rfl) (by simp) ?_
            refine AllReadyH.cons rfl (fun K hK => ?_) AllReadyH.nil
            go_simp
            refine hK.out _ _ ?hSn4_26 (fun hHeld => ?hRn4_26)
            case hSn4_26 => ((try dsimp only); all_goals exact trivial)
            clear hK K
            try simp only [Act.put, zp1, zp2, zp3, zp4, zp5, zp6]
            refine wpAnyH_ready (rs := [5]) (by kernel_rfl) (by simp) ?_
            refine AllReadyH.cons rfl (fun K hK => ?_) AllReadyH.nil
            go_simp
            ((go_at_call 71; refine (suPut_any y (termP .nil (m : Int) 1) 1000000 1 (XU (XE g3) (XU (XE g2) (XL w))) Ay A35 _ _ _ (xlt (XU (XE g3) (XU (XE g2) (XL w))) _) (trx (XU (XE g3) (XU (XE g2) (XL w))) _ Ay) (trx (XU (XE g3) (XU (XE g2) (XL w))) _ A35) hay hem fok_max (by omega)).mono ?_; rintro e38 w38 ⟨A38, c38, rfl, hs, hb⟩; haveI : Bel _ w38 := ⟨hb⟩; haveI := Tr.arg hs; clear hs hb))
            go_wp2_with fail
            refine hK.out _ _ ?hSn4_27 (fun hHeld => ?hRn4_27)
            case hSn4_27 => ((try dsimp only); all_goals exact trivial)
            clear hK K
            try simp only [Act.put, zp1, zp2, zp3, zp4, zp5, zp6]
            refine wpAnyH_take (i := 6) (v := ?vn4_28) rfl (by kernel_rfl) (by kernel_rfl) (by kernel_rfl) (fun _ _ _ h => h) (Or.inl ⟨by rfl, ?hyn4_28⟩) (by assumption) ?hRn4_28
            case hyn4_28 => (intro w hSw; (try dsimp only at hSw); go_simp; (try with_reducible rfl))
            try simp only [Act.put, zp1, zp2, zp3, zp4, zp5, zp6]
            refine wpAnyH_take (i := 7) (v := ?vn4_29) rfl (by kernel_rfl) (by kernel_rfl) (by kernel_rfl) (fun _ _ _ h => h) (Or.inl ⟨by rfl, ?hyn4_29⟩) (by assumption) ?hRn4_29
            case hyn4_29 => (intro w hSw; (try dsimp only at hSw); go_simp; (try with_reducible rfl))
            try simp only [Act.put, zp1, zp2, zp3, zp4, zp5, zp6]
            refine wpAnyH_take (i := 8) (v := ?vn4_30) rfl (by kernel_rfl) (by kernel_rfl) (by kernel_rfl) (fun _ _ _ h => h) (Or.inl ⟨by rfl, ?hyn4_30⟩) (by assumption) ?hRn4_30
            case hyn4_30 => (intro w hSw; (try dsimp only at hSw); go_simp; (try with_reducible rfl))
            try simp only [Act.put, zp1, zp2, zp3, zp4, zp5, zp6]
            refine wpAnyH_ready (rs := [9]) (by kernel_rfl) (by simp) ?_
            refine AllReadyH.cons rfl (fun K hK => ?_) AllReadyH.nil
            go_simp
            refine hK.out _ _ ?hSn4_31 (fun hHeld => ?hRn4_31)
            case hSn4_31 => ((try dsimp only); all_goals exact trivial)
            clear hK K
            try simp only [Act.put, zp1, zp2, zp3, zp4, zp5, zp6]
            refine wpAnyH_done (by kernel_rfl) ?_ _
        all_goals
          have hz : ((putP (termP .nil (m : Int) 1) 1000000 1 y).getD .nil).All FOk ∧ ((putP (termP .nil (m : Int) 1) 1000000 1 y).getD .nil).len ≤ y.len + 1 := by
            rcases hq : putP (termP .nil (m : Int) 1) 1000000 1 y with _ | z
            · exact ⟨trivial, by simp [Sur.len]⟩
            · exact putP_all hem fok_max hay hq
          go_wp2
          exact ⟨⟨m - 1, _, A38, c38, by go_num, by omega, hz.1, inferInstance, Tr.lp (XU (XE g3) (XU (XE g2) (XL w))), kp _ _ _, inferInstance⟩, by simp [intOf]; omega⟩
end Go.Proofs.YtonlfnbjbmgegaaGreat

namespace Go.Proofs.YtonlfnbjbmgegaaGreat
open Go.RowKit
set_option linter.unusedSimpArgs false
set_option linter.unusedVariables false

/-- bytes that can be read -/
def Bytes (w : World) (A : Option Addr) (n : Nat) : Prop := CodeOk w w.heap.size A n
theorem Bytes.below {w W : World} {A : Option Addr} {n : Nat} (h : Bytes w A n) (hb : Below w.heap.size w W) : Bytes W A n := by
  intro i hi
  obtain ⟨cb, o, b, h1, h2, h3, h4⟩ := CodeOk.keep (w1 := W) h (fun j hj => hb.block j hj) i hi
  exact ⟨cb, o, b, h1, Nat.lt_of_lt_of_le h2 hb.size, h3, h4⟩
theorem Cur.start {w W : World} {g : Nat} {A : Option Addr} {n c : Nat} (h : Bytes w A n) (hn : n ≤ 1048576) [a : Ext w W] [b : GeB w g] [e : Has W g (.cells #[.slice A n c, .int .i64 0, .int .u64 0] 51 (0, 0))] : Cur W g 0 := ⟨by
  refine ⟨A, n, c, 0, 0, ⟨e.h, fun i hi => ?_, by omega, by omega⟩, by omega⟩
  obtain ⟨cb, o, b', h1, h2, h3, h4⟩ := CodeOk.keep (w1 := W) h (fun j hj => a.h.block j hj) i hi
  have := b.h
  exact ⟨cb, o, b', h1, by omega, h3, h4⟩⟩
instance XSub.nn {X : Nat → Prop} : XSub XN X := ⟨fun k h => h.elim⟩
theorem negP_all : ∀ {x : Sur}, x.All FOk → (negP x).All FOk
  | .nil, _ => trivial
  | .cons e n d r, h => ⟨h.1, by rw [FOk.negI h.2.1]; exact h.2.1.neg, negP_all h.2.2⟩

attribute [local go_sem high] has_cell has_frozen
end Go.Proofs.YtonlfnbjbmgegaaGreat

namespace Go.Proofs.YtonlfnbjbmgegaaGreat
open Go.ChangeShapes Go.WideShapes Go.ChangeAt Go.RowKit
set_option linter.unusedSimpArgs false
set_option linter.unusedVariables false

theorem cU8 : Tryz.prog.cellsOf 5 = 1 := by kernel_rfl
section
variable {H : Type} {enc : TypeId × Value → H}
set_option maxRecDepth 100000 in
theorem open_code {W : World} {base : Nat} {v : Value} {d : DataW H} {p : List MemPlace} (hval : Value.okWide Tryz.prog W .any base 22 v) (h : DataW.Trod enc Tryz.prog W 0 (fun _ => true) true 22 v d p) :
    ∃ A n c, v = .slice A n c ∧ Bytes W A n ∧ n ≤ maxLen := by
  obtain ⟨a1, len, cap, rfl⟩ := okWide_slice Tryz.underlying22 hval
  obtain ⟨fuel, hf⟩ := h
  rcases open_ints Tryz.underlying22 Tryz.underlying5 cU8 hf with ⟨hcs, hx⟩ | ⟨a, len', cap', zs, hcs, _, hl, hm, hz, hx, hcell, hwz⟩
  · simp [Value.cells] at hcs
    obtain ⟨rfl, rfl, rfl⟩ := hcs
    exact ⟨none, 0, 0, rfl, fun i hi => by omega, by simp [maxLen]⟩
  · simp [Value.cells] at hcs
    obtain ⟨rfl, rfl, rfl⟩ := hcs
    simp only [if_true] at hz
    refine ⟨some a, len, cap, rfl, fun i hi => ?_, by omega⟩
    obtain ⟨ab, ao, spot⟩ := a
    have hspot : spot = none := by simpa [Addr.add] using World.cell?_spot (hcell 0 (by omega))
    subst hspot
    have hcj := hcell i (by omega)
    rw [Addr.add_lit] at hcj
    have hb := range_u8 hwz i
    rw [List.getD_eq_getElem?_getD] at hcj
    exact ⟨ab, ao, _, rfl, World.block_lt_of_cell? W _ hcj, hcj, hb.1, hb.2⟩
end

section
variable {H : Type} {enc : TypeId × Value → H} {P : Program}
/-- turned from the guide's words -/
theorem post_belowB {f : Func} {s : ChangeSpec} {apart fresh handsOn again : Bool} {W W' : World} {args : Array Value} {v : Value} {ds gs : List (DataW H)} {before pa pv : List MemPlace}
    (hW : DataW.Whole enc P f.params.toList s.vars apart W args.toList ds gs before)
    (hres : ∀ (b : Nat) (sp : Nat → Bool) (hd : Bool), DataW.TrodAll enc P W' b sp hd f.resultTypes.toList (v.resultList f.resultTypes.size) (s.fn H (ds ++ gs)).results [])
    (hargs : ∀ sp : Nat → Bool, (∀ p ∈ before, sp p.block = true) → DataW.TrodAll enc P W' 0 sp true f.params.toList args.toList (s.fn H (ds ++ gs)).args pa)
    (hvars : ∀ sp : Nat → Bool, (∀ p ∈ before, sp p.block = true) → DataW.TrodVars enc P W' sp s.vars (s.fn H (ds ++ gs)).vars pv)
    (hps : before = pa ++ pv) (hb : Below W.heap.size W W')
    (hok : ∀ (j : Nat) (t : TypeId) (r : Value), f.resultTypes[j]? = some t → (v.resultList f.resultTypes.size)[j]? = some r → Value.okWide P W' .any 0 t r) :
    s.post enc P f apart fresh handsOn again W args v W' := by
  have hlt : ∀ p ∈ before, p.block < W.heap.size := fun p hp => hW.lt p hp
  have hold : ∀ p ∈ before, (fun b => decide (b < W.heap.size)) p.block = true := fun p hp => by simpa using hlt p hp
  refine ⟨ds, gs, before, [], pa, pv, hW, hres _ _ _, hargs _ hold, hvars _ hold, World.keptBut_mono (fun p hp => ⟨hp, ?_⟩) (hb.frame (· ∈ before)), fun _ => ?_⟩
  · rw [hps, List.mem_append] at hp
    exact Or.inr hp
  · obtain ⟨_, _, _, _, _, hz, hn⟩ := hW
    refine ⟨hok, _, _, ([] ++ pa) ++ pv, ⟨[] ++ pa, pv, trodAll_append (hargs _ (fun _ _ => rfl)) (hres _ _ _), hvars _ (fun _ _ => rfl), rfl, ?_, ?_⟩, ?_⟩
    · intro b off hp
      have hin : MemPlace.cell b off ∈ before := by rw [hps]; simpa using hp
      rw [hb.frozen (hlt _ hin)]
      exact hz b off hin
    · intro ha
      have := hn ha
      rw [hps] at this
      simpa using this
    · intro p hp _
      rw [hps]
      simpa using hp
end
end Go.Proofs.YtonlfnbjbmgegaaGreat
