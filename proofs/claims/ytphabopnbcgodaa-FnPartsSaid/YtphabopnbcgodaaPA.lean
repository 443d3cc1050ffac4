/-
  Walks: the parts of a number.
  Walks: PartsOf, the program's and the reference's.
  Walks: the whole part of a fraction.
  Walks: IsOmnific, FromFraction, CompareSurreals.
  The laws' side: a whole number as a surreal number.
  Walks: LeadingOf, where there is none; the reference's.
-/
import Derived.Test.YtphabopnbcgodaaLZA
import Derived.Test.YtphabopnbcgodaaSParts
import Derived.Test.YtphabopnbcgodaaWTold
import Derived.Test.YtphabopnbcgodaaWOrd
import Derived.Test.YtphabopnbcgodaaWMulFn
import Derived.Deep.Cut
import Derived.Test.YtphabopnbcgodaaSOrdFn
import Derived.Test.YtphabopnbcgodaaSOwn
namespace Go.Proofs.Ytphabopnbcgodaa
open Go.RowKit
set_option linter.unusedSimpArgs false
set_option linter.unusedVariables false

/-- two rows that are not the same -/
class NeOw (v v' : Value) : Prop where h : ∀ g, v.ownBlock = some g → v'.ownBlock ≠ some g
instance XDis.ne {v v' : Value} [a : NeOw v v'] : XDis (XOw v') v := ⟨fun g h k => a.h g h k⟩
theorem NeOw.symm {v v' : Value} (a : NeOw v v') : NeOw v' v := ⟨fun g h k => a.h g k h⟩
theorem NeOw.nil (v : Value) : NeOw (.slice none 0 0) v := ⟨fun g h => by cases h⟩
theorem NeOw.step {v v' : Value} {lo W : World} {g n cap : Nat} [a : NeOw v v'] [r : OwR v' lo W] (hat : v.ownBlock = some g ∨ g = W.heap.size) : NeOw (.slice (some ⟨g, 0, none⟩) n cap) v' := ⟨fun k hk hv => by
  have hk : g = k := by simpa [Value.ownBlock] using hk
  subst hk
  rcases hat with h | h
  · exact a.h g h hv
  · have := (r.h g hv).2; omega⟩
theorem OwR.mono {v : Value} {lo W W' : World} [r : OwR v lo W] [b : LeB W W'] : OwR v lo W' := ⟨fun g hg => by have := r.h g hg; have := b.h; omega⟩
theorem xdis_lowP {X : Nat → Prop} {v : Value} {w lo hi : World} (hX : ∀ k, X k → k < w.heap.size) [a : OwR v lo hi] [b : LeB w lo] : XDis X v := ⟨fun g hg h => by have := hX g h; have := (a.h g hg).1; have := b.h; omega⟩

attribute [local go_sem high] has_cell has_frozen
set_option synthInstance.maxHeartbeats 2000000 in
set_option synthInstance.maxSize 4000 in
set_option maxHeartbeats 3200000 in
set_option maxRecDepth 100000 in
theorem parts_any (x : Sur) (X : Nat → Prop) (A : Option Addr) (c : Nat) (w : World) (hX : ∀ k, X k → k < w.heap.size) (sx : SSl X w x A c) (hl : x.len ≤ 1000000000) (hbx : x.All Bd) :
    Calls Try.prog 30 #[.agg #[.slice A x.len c]] w (RetParts X w (highP x) (realP (0, 1) x) (lowP x)) := by
  have lx := sx.cap
  have lx' := sx.le
  unfold maxLen at lx
  haveI ix := Tr.arg sx
  clear sx
  go_enter Try.func30, Try.ntmps30
  go_wp2_with (first | ((with_reducible refine at_dst (N := 1) rfl ?_); refine ev_box (cs := #[.slice A x.len c]) (t := 26) rfl ?hr1 ?_; (case hr1 => first | (go_simp; done) | (go_simp; rfl)); intro g1 v1 _ _ _ _) | ((with_reducible refine at_dst (N := 2) rfl ?_); refine ev_box (cs := #[.slice none 0 0]) (t := 26) rfl ?hr2 ?_; (case hr2 => first | (go_simp; done) | (go_simp; rfl)); intro g2 v2 _ _ _ _) | ((with_reducible refine at_dst (N := 3) rfl ?_); refine ev_box (cs := #[.int .i64 0, .int .i64 0]) (t := 29) rfl ?hr3 ?_; (case hr3 => first | (go_simp; done) | (go_simp; rfl)); intro g3 v3 _ _ _ _) | ((with_reducible refine at_dst (N := 4) rfl ?_); refine ev_box (cs := #[.slice none 0 0]) (t := 26) rfl ?hr4 ?_; (case hr4 => first | (go_simp; done) | (go_simp; rfl)); intro g4 v4 _ _ _ _) | (go_at_call 41; refine (whole_any _ _).mono ?_; rintro e11 w11 ⟨rfl, hb⟩; haveI : Bel _ w11 := ⟨hb⟩; clear hb) | ((with_reducible refine at_dst (N := 5) rfl ?_); refine ev_box (cs := #[.slice none 0 0]) (t := 26) rfl ?hr5 ?_; (case hr5 => first | (go_simp; done) | (go_simp; rfl)); intro g5 v5 _ _ _ _) | ((with_reducible refine at_dst (N := 6) rfl ?_); refine ev_box (cs := #[.int .i64 0, .int .i64 0]) (t := 29) rfl ?hr6 ?_; (case hr6 => first | (go_simp; done) | (go_simp; rfl)); intro g6 v6 _ _ _ _) | ((with_reducible refine at_dst (N := 7) rfl ?_); refine ev_box (cs := #[.slice none 0 0]) (t := 26) rfl ?hr7 ?_; (case hr7 => first | (go_simp; done) | (go_simp; rfl)); intro g7 v7 _ _ _ _))
  go_loopw [16] (fun s wr => ∃ (i : Nat) (vh vl : Value) (xh xl : List Value), s = .int .i64 i ∧ i ≤ x.len ∧ Has wr g5 (.cells #[vh] 26 (0, 0)) ∧ Has wr g6 (.cells #[.int .i64 (realP (0, 1) (x.take i)).1, .int .i64 (realP (0, 1) (x.take i)).2] 29 (0, 0)) ∧ Has wr g7 (.cells #[vl] 26 (0, 0)) ∧
      Own wr vh v7 58 3 (highP (x.take i)).len xh ∧ Own wr vl v7 58 3 (lowP (x.take i)).len xl ∧ TR wr (XV w X) (highP (x.take i)) xh ∧ TR wr (XV w X) (lowP (x.take i)) xl ∧ NeOw vh vl ∧ NeOw vl vh ∧ Kp v7 (XU (XE g5) (XU (XE g6) (XE g7))) wr ∧ Tr wr A (XV w X) x c) (fun s _ => x.len - (intOf s).toNat)
  case atStart => exact ⟨0, .slice none 0 0, .slice none 0 0, [], [], rfl, Nat.zero_le _, inferInstance, inferInstance, inferInstance, Own.nil _ _ _ _, Own.nil _ _ _ _, TR.nil _ _, TR.nil _ _, NeOw.nil _, NeOw.nil _, kp _ _ _, inferInstance⟩
  case round =>
    obtain ⟨i, vh, vl, xh, xl, rfl, hi, _, _, _, _, _, _, _, _, _, _, ix4⟩ := hrel
    clear ix
    haveI := Own.rg wr vh
    haveI := Own.rg wr vl
    have hi0' : (0 : Int) ≤ (i : Int) := by omega
    have hlh : (highP (x.take i)).len ≤ 1099511627776 := by have := highP_len (x.take i); rw [Sur.len_take x i hi] at this; omega
    have hll : (lowP (x.take i)).len ≤ 1099511627776 := by have := lowP_len (x.take i); rw [Sur.len_take x i hi] at this; omega
    by_cases h1 : i < x.len
    · obtain ⟨b, o, e, n, d, A1, d1, rfl, hxk, f0, f1, f2, se, in_, id_, hXb, hbl⟩ := ix4.h.at_ h1
      haveI : Tr wr A1 _ e d1 := ⟨se⟩
      have hbe := (Sur.all_drop hbx hxk).1
      have HH := Lib.hid (highP_step hxk)
      have HLo := Lib.hid (lowP_step hxk)
      have HR := Lib.hid (realP_step (a := (0, 1)) hxk)
      clear hxk se
      have h1' : (i : Int) < (x.len : Int) := by omega
      rcases order_range e .nil with q | q | q
      · have E1 := Lib.hid (show highP (x.take (i + 1)) = highP (x.take i) by rw [HH.out, q]; rfl)
        have E2 := Lib.hid (show lowP (x.take (i + 1)) = (lowP (x.take i)).app (.cons e n d .nil) by rw [HLo.out, q]; rfl)
        have E3 := Lib.hid (show realP (0, 1) (x.take (i + 1)) = realP (0, 1) (x.take i) by rw [HR.out, q]; rfl)
        go_wp2_with (first | ((with_reducible refine at_dst (N := 9) rfl ?_); refine ev_box (cs := #[.slice none 0 0, .int .i64 0, .int .i64 0]) (t := 58) rfl ?hr9 ?_; (case hr9 => first | (go_simp; done) | (go_simp; rfl)); intro g9 v9 _ _ _ _) | (go_at_call 37; refine (order_any _ e .nil _ XN A1 none d1 0 _ (Nat.le_refl _) hbe (by exact trivial) (tr _ A1) (SSl.nil _ _)).mono ?_; rintro e23 w23 ⟨he, hb⟩; rw [q] at he; subst he; haveI : Bel _ w23 := ⟨hb⟩; clear hb) | ((with_reducible refine at_dst (N := 27) rfl ?_); refine ev_sl (cs := #[.slice A1 e.len d1, .int .i64 n, .int .i64 d]) (t := 58) rfl ?hr27 ?_; (case hr27 => first | (go_simp; done) | (go_simp; rfl)); intro g27 v27 _ _ _ _) | (at_builtin; (with_reducible refine at_dst (N := 28) rfl ?_); go_must (refine ap_list (v := vl) rfl _ _ _ rfl rfl rfl rfl (by simp [Value.oneCell']) (by omega) ?_); intro gg cap wa _ _ _ hat _))
        haveI := NeOw.step (n := (lowP (x.take i)).len + 1) (cap := cap) (v := vl) (v' := vh) (W := v27) (lo := v7) (r := OwR.mono (W := wr)) hat
        haveI := (inferInstance : NeOw (.slice (some ⟨gg, 0, none⟩) ((lowP (x.take i)).len + 1) cap) vh).symm
        exact ⟨⟨i + 1, _, _, _, _, by go_num, by omega, inferInstance, by rw [E3.out]; infer_instance, inferInstance, by rw [E1.out]; infer_instance, by rw [E2.out]; exact Own.snoc inferInstance, by rw [E1.out]; infer_instance, by rw [E2.out]; exact TR.snoc (tr _ A1) in_ id_, inferInstance, inferInstance, kp _ _ _, inferInstance⟩, by simp [intOf]; omega⟩
      · have E1 := Lib.hid (show highP (x.take (i + 1)) = highP (x.take i) by rw [HH.out, q]; rfl)
        have E2 := Lib.hid (show lowP (x.take (i + 1)) = lowP (x.take i) by rw [HLo.out, q]; rfl)
        have E3 := Lib.hid (show realP (0, 1) (x.take (i + 1)) = (n, d) by rw [HR.out, q]; rfl)
        go_wp2_with (first | ((with_reducible refine at_dst (N := 9) rfl ?_); refine ev_box (cs := #[.slice none 0 0, .int .i64 0, .int .i64 0]) (t := 58) rfl ?hr9 ?_; (case hr9 => first | (go_simp; done) | (go_simp; rfl)); intro g9 v9 _ _ _ _) | (go_at_call 37; refine (order_any _ e .nil _ XN A1 none d1 0 _ (Nat.le_refl _) hbe (by exact trivial) (tr _ A1) (SSl.nil _ _)).mono ?_; rintro e23 w23 ⟨he, hb⟩; rw [q] at he; subst he; haveI : Bel _ w23 := ⟨hb⟩; clear hb))
        exact ⟨⟨i + 1, _, _, _, _, by go_num, by omega, inferInstance, by rw [E3.out]; infer_instance, inferInstance, by rw [E1.out]; infer_instance, by rw [E2.out]; infer_instance, by rw [E1.out]; infer_instance, by rw [E2.out]; infer_instance, inferInstance, inferInstance, kp _ _ _, inferInstance⟩, by simp [intOf]; omega⟩
      · have E1 := Lib.hid (show highP (x.take (i + 1)) = (highP (x.take i)).app (.cons e n d .nil) by rw [HH.out, q]; rfl)
        have E2 := Lib.hid (show lowP (x.take (i + 1)) = lowP (x.take i) by rw [HLo.out, q]; rfl)
        have E3 := Lib.hid (show realP (0, 1) (x.take (i + 1)) = realP (0, 1) (x.take i) by rw [HR.out, q]; rfl)
        go_wp2_with (first | ((with_reducible refine at_dst (N := 9) rfl ?_); refine ev_box (cs := #[.slice none 0 0, .int .i64 0, .int .i64 0]) (t := 58) rfl ?hr9 ?_; (case hr9 => first | (go_simp; done) | (go_simp; rfl)); intro g9 v9 _ _ _ _) | (go_at_call 37; refine (order_any _ e .nil _ XN A1 none d1 0 _ (Nat.le_refl _) hbe (by exact trivial) (tr _ A1) (SSl.nil _ _)).mono ?_; rintro e23 w23 ⟨he, hb⟩; rw [q] at he; subst he; haveI : Bel _ w23 := ⟨hb⟩; clear hb) | ((with_reducible refine at_dst (N := 35) rfl ?_); refine ev_sl (cs := #[.slice A1 e.len d1, .int .i64 n, .int .i64 d]) (t := 58) rfl ?hr35 ?_; (case hr35 => first | (go_simp; done) | (go_simp; rfl)); intro g35 v35 _ _ _ _) | (at_builtin; (with_reducible refine at_dst (N := 36) rfl ?_); go_must (refine ap_list (v := vh) rfl _ _ _ rfl rfl rfl rfl (by simp [Value.oneCell']) (by omega) ?_); intro gg cap wa _ _ _ hat _))
        haveI := NeOw.step (n := (highP (x.take i)).len + 1) (cap := cap) (v := vh) (v' := vl) (W := v35) (lo := v7) (r := OwR.mono (W := wr)) hat
        haveI := (inferInstance : NeOw (.slice (some ⟨gg, 0, none⟩) ((highP (x.take i)).len + 1) cap) vl).symm
        exact ⟨⟨i + 1, _, _, _, _, by go_num, by omega, inferInstance, by rw [E3.out]; infer_instance, inferInstance, by rw [E1.out]; exact Own.snoc inferInstance, by rw [E2.out]; infer_instance, by rw [E1.out]; exact TR.snoc (tr _ A1) in_ id_, by rw [E2.out]; infer_instance, inferInstance, inferInstance, kp _ _ _, inferInstance⟩, by simp [intOf]; omega⟩
    · obtain rfl : i = x.len := by omega
      obtain ⟨Ah, ch, rfl⟩ := own_slice (inferInstance : Own wr vh v7 _ 3 _ xh).h
      obtain ⟨Al, cl, rfl⟩ := own_slice (inferInstance : Own wr vl v7 _ 3 _ xl).h
      simp only [x.take_len] at *
      haveI : XDis X (.slice Ah (highP x).len ch) := xdis_lowP hX
      haveI : XDis X (.slice Al (lowP x).len cl) := xdis_lowP hX
      go_wp2
      refine wp_region_held_drew (S := (fun w' => w'.cell? ⟨g5, 0, none⟩ = some (.slice Ah (highP x).len ch) ∧ w'.cell? ⟨g6, 0, none⟩ = some (.int .i64 (realP (0, 1) x).1) ∧ w'.cell? ⟨g6, 1, none⟩ = some (.int .i64 (realP (0, 1) x).2) ∧ w'.cell? ⟨g7, 0, none⟩ = some (.slice Al (lowP x).len cl))) (by kernel_rfl) ?hSn1_ (fun hHeld => ?hRn1_)
      case hSn1_ => (exact ⟨has1, has2.1, has2.2, has1⟩)
      refine wpAnyH_take (i := 0) (oi := _) (v := ?vn1_1) rfl (by kernel_rfl) (by kernel_rfl) (by kernel_rfl) (fun _ _ _ h => h) (Or.inl ⟨by rfl, ?hyn1_1⟩) (by assumption) ?hRn1_1
      case hyn1_1 => (intro w hSw; (try dsimp only at hSw); go_simp; (try with_reducible rfl))
      try simp only [Act.put, List.getElem_toArray, List.getElem_cons_zero, List.getElem_cons_succ, List.setIfInBounds_toArray, List.set_cons_zero, List.set_cons_succ]
      refine wpAnyH_take (i := 1) (oi := _) (v := ?vn1_2) rfl (by kernel_rfl) (by kernel_rfl) (by kernel_rfl) (fun _ _ _ h => h) (Or.inl ⟨by rfl, ?hyn1_2⟩) (by assumption) ?hRn1_2
      case hyn1_2 => (intro w hSw; (try dsimp only at hSw); go_simp; (try with_reducible rfl))
      try simp only [Act.put, List.getElem_toArray, List.getElem_cons_zero, List.getElem_cons_succ, List.setIfInBounds_toArray, List.set_cons_zero, List.set_cons_succ]
      refine wpAnyH_take (i := 2) (oi := _) (v := ?vn1_3) rfl (by kernel_rfl) (by kernel_rfl) (by kernel_rfl) (fun _ _ _ h => h) (Or.inl ⟨by rfl, ?hyn1_3⟩) (by assumption) ?hRn1_3
      case hyn1_3 => (intro w hSw; (try dsimp only at hSw); go_simp; (try with_reducible rfl))
      try simp only [Act.put, List.getElem_toArray, List.getElem_cons_zero, List.getElem_cons_succ, List.setIfInBounds_toArray, List.set_cons_zero, List.set_cons_succ]
      refine wpAnyH_ready (rs := [3]) (by kernel_rfl) (by simp) ?_
      refine AllReadyH.cons (o := _) rfl (fun K hK => ?_) AllReadyH.nil
      go_simp
      refine hK.out _ _ ?hSn1_4 (fun hHeld => ?hRn1_4)
      case hSn1_4 => ((try dsimp only); exact ⟨has1, has2.1, has2.2, has1⟩)
      clear hK K
      try simp only [Act.put, List.getElem_toArray, List.getElem_cons_zero, List.getElem_cons_succ, List.setIfInBounds_toArray, List.set_cons_zero, List.set_cons_succ]
      refine wpAnyH_ready (rs := [4]) (by kernel_rfl) (by simp) ?_
      refine AllReadyH.cons (o := _) rfl (fun K hK => ?_) AllReadyH.nil
      go_simp
      refine hK.out _ _ ?hSn1_5 (fun hHeld => ?hRn1_5)
      case hSn1_5 => ((try dsimp only); exact ⟨has1, has2.1, has2.2, has1⟩)
      clear hK K
      try simp only [Act.put, List.getElem_toArray, List.getElem_cons_zero, List.getElem_cons_succ, List.setIfInBounds_toArray, List.set_cons_zero, List.set_cons_succ]
      refine wpAnyH_ready (rs := [5]) (by kernel_rfl) (by simp) ?_
      refine AllReadyH.cons (o := _) rfl (fun K hK => ?_) AllReadyH.nil
      go_simp
      refine hK.out _ _ ?hSn1_6 (fun hHeld => ?hRn1_6)
      case hSn1_6 => ((try dsimp only); exact ⟨has1, has2.1, has2.2, has1⟩)
      clear hK K
      try simp only [Act.put, List.getElem_toArray, List.getElem_cons_zero, List.getElem_cons_succ, List.setIfInBounds_toArray, List.set_cons_zero, List.set_cons_succ]
      refine wpAnyH_done (by kernel_rfl) ?_ _
      go_wp2
      refine bodyPost_ret (v := .tuple #[.agg #[.slice Ah (highP x).len ch], .agg #[.int .i64 (realP (0, 1) x).1, .int .i64 (realP (0, 1) x).2], .agg #[.slice Al (lowP x).len cl]]) (by simp [results, Try.results30, go_sem]) rfl ?_
      exact ⟨Ah, ch, Al, cl, rfl, sl_own X _ _ _ _, sl_own X _ _ _ _, ext _ _⟩
end Go.Proofs.Ytphabopnbcgodaa

namespace Go.Proofs.Ytphabopnbcgodaa
open Go.RowKit
set_option linter.unusedSimpArgs false
set_option linter.unusedVariables false

theorem highP_nodes : ∀ (x : Sur), (highP x).nodes ≤ x.nodes
  | .nil => Nat.le_refl _
  | .cons e n d r => by
    have := highP_nodes r
    simp only [highP]
    split <;> simp only [Sur.nodes] <;> omega
theorem lowP_nodes : ∀ (x : Sur), (lowP x).nodes ≤ x.nodes
  | .nil => Nat.le_refl _
  | .cons e n d r => by
    have := lowP_nodes r
    simp only [lowP]
    split <;> simp only [Sur.nodes] <;> omega
def ptH (x : Sur) : Sur := if sGood x = true then highP x else .nil
def ptL (x : Sur) : Sur := if sGood x = true then lowP x else .nil
def ptR (x : Sur) : Int × Int := if sGood x = true then realP (0, 1) x else (0, 0)
/-- the three parts, own ones, and whether there are any -/
def RetPts (w : World) (x : Sur) (e : Ending) (w' : World) : Prop :=
  ∃ A c A' c', e = .returned (.tuple #[.agg #[.slice A (ptH x).len c], .agg #[.int .i64 (ptR x).1, .int .i64 (ptR x).2], .agg #[.slice A' (ptL x).len c'], .bool (sGood x)]) ∧ SFresh w.heap.size w' (ptH x) A c ∧ SFresh w.heap.size w' (ptL x) A' c' ∧ Below w.heap.size w w'

attribute [local go_sem high] has_cell has_frozen
set_option synthInstance.maxHeartbeats 2000000 in
set_option synthInstance.maxSize 4000 in
set_option maxHeartbeats 3200000 in
set_option maxRecDepth 100000 in
theorem PartsOf_any (x : Sur) (X : Nat → Prop) (A : Option Addr) (c : Nat) (w : World) (sx : SSl X w x A c) :
    Calls Try.prog 7 #[.agg #[.slice A x.len c]] w (RetPts w x) := by
  haveI ix := Tr.arg (sx.more (Y := XN) (fun _ h => h.elim))
  clear sx
  cases gx : sGood x
  · have E1 := Lib.hid (show ptH x = .nil by simp [ptH, gx])
    have E2 := Lib.hid (show ptL x = .nil by simp [ptL, gx])
    have E3 := Lib.hid (show ptR x = (0, 0) by simp [ptR, gx])
    have E4 := Lib.hid gx
    go_enter Try.func7, Try.ntmps7
    go_wp2_with (first | ((with_reducible refine at_dst (N := 1) rfl ?_); refine ev_box (cs := #[.slice A x.len c]) (t := 26) rfl ?hr1 ?_; (case hr1 => first | (go_simp; done) | (go_simp; rfl)); intro g1 v1 _ _ _ _) | ((with_reducible refine at_dst (N := 2) rfl ?_); refine ev_box (cs := #[.slice none 0 0]) (t := 26) rfl ?hr2 ?_; (case hr2 => first | (go_simp; done) | (go_simp; rfl)); intro g2 v2 _ _ _ _) | ((with_reducible refine at_dst (N := 3) rfl ?_); refine ev_box (cs := #[.int .i64 0, .int .i64 0]) (t := 29) rfl ?hr3 ?_; (case hr3 => first | (go_simp; done) | (go_simp; rfl)); intro g3 v3 _ _ _ _) | ((with_reducible refine at_dst (N := 4) rfl ?_); refine ev_box (cs := #[.slice none 0 0]) (t := 26) rfl ?hr4 ?_; (case hr4 => first | (go_simp; done) | (go_simp; rfl)); intro g4 v4 _ _ _ _) | (go_at_call 29; refine (IsSurreal_any x _ A c _ (tr _ A)).mono ?_; rintro e5 w5 ⟨he, hb⟩; rw [gx] at he; subst he; haveI : Bel _ w5 := ⟨hb⟩; clear hb))
    refine bodyPost_ret (v := .tuple #[.agg #[.slice none 0 0], .agg #[.int .i64 0, .int .i64 0], .agg #[.slice none 0 0], .bool false]) (by simp [results, Try.results7, go_sem]) rfl ?_
    unfold RetPts
    rw [E1.out, E2.out, E3.out, E4.out]
    exact ⟨none, 0, none, 0, rfl, SFresh.nil _ _, SFresh.nil _ _, ext _ _⟩
  · have E1 := Lib.hid (show ptH x = highP x by simp [ptH, gx])
    have E2 := Lib.hid (show ptL x = lowP x by simp [ptL, gx])
    have E3 := Lib.hid (show ptR x = realP (0, 1) x by simp [ptR, gx])
    have E4 := Lib.hid gx
    have HB : Hid (x.len ≤ 1000000000 ∧ x.All Bd) := ⟨by have := (sGood_len gx).1; omega, Sur.All.mono (fun _ _ h => FOk.bd h) x (sGood_len gx).2.2⟩
    have HN1 : Hid ((highP x).nodes ≤ 100) := by have := highP_nodes x; have := (sGood_len gx).2.1; show _ ≤ _; omega
    have HN2 : Hid ((lowP x).nodes ≤ 100) := by have := lowP_nodes x; have := (sGood_len gx).2.1; show _ ≤ _; omega
    go_enter Try.func7, Try.ntmps7
    go_wp2_with (first | ((with_reducible refine at_dst (N := 1) rfl ?_); refine ev_box (cs := #[.slice A x.len c]) (t := 26) rfl ?hr1 ?_; (case hr1 => first | (go_simp; done) | (go_simp; rfl)); intro g1 v1 _ _ _ _) | ((with_reducible refine at_dst (N := 2) rfl ?_); refine ev_box (cs := #[.slice none 0 0]) (t := 26) rfl ?hr2 ?_; (case hr2 => first | (go_simp; done) | (go_simp; rfl)); intro g2 v2 _ _ _ _) | ((with_reducible refine at_dst (N := 3) rfl ?_); refine ev_box (cs := #[.int .i64 0, .int .i64 0]) (t := 29) rfl ?hr3 ?_; (case hr3 => first | (go_simp; done) | (go_simp; rfl)); intro g3 v3 _ _ _ _) | ((with_reducible refine at_dst (N := 4) rfl ?_); refine ev_box (cs := #[.slice none 0 0]) (t := 26) rfl ?hr4 ?_; (case hr4 => first | (go_simp; done) | (go_simp; rfl)); intro g4 v4 _ _ _ _) | (go_at_call 29; refine (IsSurreal_any x _ A c _ (tr _ A)).mono ?_; rintro e5 w5 ⟨he, hb⟩; rw [gx] at he; subst he; haveI : Bel _ w5 := ⟨hb⟩; clear hb) | (go_at_call 30; refine (parts_any x XN A c _ (xlt XN _) (trx XN _ A) HB.out.1 HB.out.2).mono ?_; rintro e17 w17 ⟨Ah, ch, Al, cl, rfl, hs, hs', hb⟩; haveI : Bel _ w17 := ⟨hb⟩; haveI := Tr.arg hs; haveI := Tr.arg hs'; clear hs hs' hb) | ((with_reducible refine at_dst (N := 6) rfl ?_); refine ev_box (cs := #[.slice none 0 0]) (t := 26) rfl ?hr6 ?_; (case hr6 => first | (go_simp; done) | (go_simp; rfl)); intro g6 v6 _ _ _ _) | ((with_reducible refine at_dst (N := 7) rfl ?_); refine ev_box (cs := #[.int .i64 0, .int .i64 0]) (t := 29) rfl ?hr7 ?_; (case hr7 => first | (go_simp; done) | (go_simp; rfl)); intro g7 v7 _ _ _ _) | ((with_reducible refine at_dst (N := 8) rfl ?_); refine ev_box (cs := #[.slice none 0 0]) (t := 26) rfl ?hr8 ?_; (case hr8 => first | (go_simp; done) | (go_simp; rfl)); intro g8 v8 _ _ _ _))
    refine wp_region_held_drew (S := (fun w' => w'.cell? ⟨g6, 0, none⟩ = some (.slice Ah (highP x).len ch) ∧ w'.cell? ⟨g7, 0, none⟩ = some (.int .i64 (realP (0, 1) x).1) ∧ w'.cell? ⟨g7, 1, none⟩ = some (.int .i64 (realP (0, 1) x).2) ∧ w'.cell? ⟨g8, 0, none⟩ = some (.slice Al (lowP x).len cl))) (by kernel_rfl) ?hSn1_ (fun hHeld => ?hRn1_)
    case hSn1_ => (exact ⟨has1, has2.1, has2.2, has1⟩)
    refine wpAnyH_take (i := 0) (oi := _) (v := ?vn1_1) rfl (by kernel_rfl) (by kernel_rfl) (by kernel_rfl) (fun _ _ _ h => h) (Or.inl ⟨by rfl, ?hyn1_1⟩) (by assumption) ?hRn1_1
    case hyn1_1 => (intro w hSw; (try dsimp only at hSw); go_simp; (try with_reducible rfl))
    try simp only [Act.put, List.getElem_toArray, List.getElem_cons_zero, List.getElem_cons_succ, List.setIfInBounds_toArray, List.set_cons_zero, List.set_cons_succ]
    refine wpAnyH_take (i := 2) (oi := _) (v := ?vn1_2) rfl (by kernel_rfl) (by kernel_rfl) (by kernel_rfl) (fun _ _ _ h => h) (Or.inl ⟨by rfl, ?hyn1_2⟩) (by assumption) ?hRn1_2
    case hyn1_2 => (intro w hSw; (try dsimp only at hSw); go_simp; (try with_reducible rfl))
    try simp only [Act.put, List.getElem_toArray, List.getElem_cons_zero, List.getElem_cons_succ, List.setIfInBounds_toArray, List.set_cons_zero, List.set_cons_succ]
    refine wpAnyH_take (i := 3) (oi := _) (v := ?vn1_3) rfl (by kernel_rfl) (by kernel_rfl) (by kernel_rfl) (fun _ _ _ h => h) (Or.inl ⟨by rfl, ?hyn1_3⟩) (by assumption) ?hRn1_3
    case hyn1_3 => (intro w hSw; (try dsimp only at hSw); go_simp; (try with_reducible rfl))
    try simp only [Act.put, List.getElem_toArray, List.getElem_cons_zero, List.getElem_cons_succ, List.setIfInBounds_toArray, List.set_cons_zero, List.set_cons_succ]
    refine wpAnyH_ready (rs := [1]) (by kernel_rfl) (by simp) ?_
    refine AllReadyH.cons (o := _) rfl (fun K hK => ?_) AllReadyH.nil
    go_simp
    ((go_at_call 31; refine (clone_any 100 (by omega) (highP x) _ Ah ch _ HN1.out (tr _ Ah)).mono ?_; rintro e22 w22 ⟨A22, c22, rfl, hf, hb⟩; haveI : Bel _ w22 := ⟨hb⟩; haveI := Fs.of hf; clear hf hb))
    go_wp2_with fail
    refine hK.out _ _ ?hSn1_4 (fun hHeld => ?hRn1_4)
    case hSn1_4 => ((try dsimp only); exact ⟨has1, has2.1, has2.2, has1⟩)
    clear hK K
    try simp only [Act.put, List.getElem_toArray, List.getElem_cons_zero, List.getElem_cons_succ, List.setIfInBounds_toArray, List.set_cons_zero, List.set_cons_succ]
    refine wpAnyH_ready (rs := [4]) (by kernel_rfl) (by simp) ?_
    refine AllReadyH.cons (o := _) rfl (fun K hK => ?_) AllReadyH.nil
    go_simp
    ((go_at_call 31; refine (clone_any 100 (by omega) (lowP x) _ Al cl _ HN2.out (tr _ Al)).mono ?_; rintro e25 w25 ⟨A25, c25, rfl, hf, hb⟩; haveI : Bel _ w25 := ⟨hb⟩; haveI := Fs.of hf; clear hf hb))
    go_wp2_with fail
    refine hK.out _ _ ?hSn1_5 (fun hHeld => ?hRn1_5)
    case hSn1_5 => ((try dsimp only); exact ⟨has1, has2.1, has2.2, has1⟩)
    clear hK K
    try simp only [Act.put, List.getElem_toArray, List.getElem_cons_zero, List.getElem_cons_succ, List.setIfInBounds_toArray, List.set_cons_zero, List.set_cons_succ]
    refine wpAnyH_ready (rs := [5]) (by kernel_rfl) (by simp) ?_
    refine AllReadyH.cons (o := _) rfl (fun K hK => ?_) AllReadyH.nil
    go_simp
    refine hK.out _ _ ?hSn1_6 (fun hHeld => ?hRn1_6)
    case hSn1_6 => ((try dsimp only); exact ⟨has1, has2.1, has2.2, has1⟩)
    clear hK K
    try simp only [Act.put, List.getElem_toArray, List.getElem_cons_zero, List.getElem_cons_succ, List.setIfInBounds_toArray, List.set_cons_zero, List.set_cons_succ]
    refine wpAnyH_ready (rs := [6]) (by kernel_rfl) (by simp) ?_
    refine AllReadyH.cons (o := _) rfl (fun K hK => ?_) AllReadyH.nil
    go_simp
    refine hK.out _ _ ?hSn1_7 (fun hHeld => ?hRn1_7)
    case hSn1_7 => ((try dsimp only); exact ⟨has1, has2.1, has2.2, has1⟩)
    clear hK K
    try simp only [Act.put, List.getElem_toArray, List.getElem_cons_zero, List.getElem_cons_succ, List.setIfInBounds_toArray, List.set_cons_zero, List.set_cons_succ]
    refine wpAnyH_ready (rs := [7]) (by kernel_rfl) (by simp) ?_
    refine AllReadyH.cons (o := _) rfl (fun K hK => ?_) AllReadyH.nil
    go_simp
    refine hK.out _ _ ?hSn1_8 (fun hHeld => ?hRn1_8)
    case hSn1_8 => ((try dsimp only); exact ⟨has1, has2.1, has2.2, has1⟩)
    clear hK K
    try simp only [Act.put, List.getElem_toArray, List.getElem_cons_zero, List.getElem_cons_succ, List.setIfInBounds_toArray, List.set_cons_zero, List.set_cons_succ]
    refine wpAnyH_take (i := 8) (oi := _) (v := ?vn1_9) rfl (by kernel_rfl) (by kernel_rfl) (by kernel_rfl) (fun _ _ _ h => h) (Or.inl ⟨by rfl, ?hyn1_9⟩) (by assumption) ?hRn1_9
    case hyn1_9 => (intro w hSw; (try dsimp only at hSw); go_simp; (try with_reducible rfl))
    try simp only [Act.put, List.getElem_toArray, List.getElem_cons_zero, List.getElem_cons_succ, List.setIfInBounds_toArray, List.set_cons_zero, List.set_cons_succ]
    refine wpAnyH_done (by kernel_rfl) ?_ _
    go_wp2
    refine bodyPost_ret (v := .tuple #[.agg #[.slice A22 (highP x).len c22], .agg #[.int .i64 (realP (0, 1) x).1, .int .i64 (realP (0, 1) x).2], .agg #[.slice A25 (lowP x).len c25], .bool true]) (by simp [results, Try.results7, go_sem]) rfl ?_
    unfold RetPts
    rw [E1.out, E2.out, E3.out, E4.out]
    exact ⟨A22, c22, A25, c25, rfl, fs _ A22 w, fs _ A25 w, ext _ _⟩
set_option synthInstance.maxHeartbeats 2000000 in
set_option synthInstance.maxSize 4000 in
set_option maxHeartbeats 3200000 in
set_option maxRecDepth 100000 in
theorem sPartsOf_any (x : Sur) (X : Nat → Prop) (A : Option Addr) (c : Nat) (w : World) (sx : SSl X w x A c) :
    Calls Try.prog 8 #[.agg #[.slice A x.len c]] w (RetPts w x) := by
  haveI ix := Tr.arg (sx.more (Y := XN) (fun _ h => h.elim))
  clear sx
  cases gx : sGood x
  · have E1 := Lib.hid (show ptH x = .nil by simp [ptH, gx])
    have E2 := Lib.hid (show ptL x = .nil by simp [ptL, gx])
    have E3 := Lib.hid (show ptR x = (0, 0) by simp [ptR, gx])
    have E4 := Lib.hid gx
    go_enter Try.func8, Try.ntmps8
    go_wp2_with (first | ((with_reducible refine at_dst (N := 1) rfl ?_); refine ev_box (cs := #[.slice A x.len c]) (t := 26) rfl ?hr1 ?_; (case hr1 => first | (go_simp; done) | (go_simp; rfl)); intro g1 v1 _ _ _ _) | ((with_reducible refine at_dst (N := 2) rfl ?_); refine ev_box (cs := #[.slice none 0 0]) (t := 26) rfl ?hr2 ?_; (case hr2 => first | (go_simp; done) | (go_simp; rfl)); intro g2 v2 _ _ _ _) | ((with_reducible refine at_dst (N := 3) rfl ?_); refine ev_box (cs := #[.int .i64 0, .int .i64 0]) (t := 29) rfl ?hr3 ?_; (case hr3 => first | (go_simp; done) | (go_simp; rfl)); intro g3 v3 _ _ _ _) | ((with_reducible refine at_dst (N := 4) rfl ?_); refine ev_box (cs := #[.slice none 0 0]) (t := 26) rfl ?hr4 ?_; (case hr4 => first | (go_simp; done) | (go_simp; rfl)); intro g4 v4 _ _ _ _) | (go_at_call 32; refine (suGood_any x _ A c _ (tr _ A)).mono ?_; rintro e5 w5 ⟨he, hb⟩; rw [gx] at he; subst he; haveI : Bel _ w5 := ⟨hb⟩; clear hb))
    refine bodyPost_ret (v := .tuple #[.agg #[.slice none 0 0], .agg #[.int .i64 0, .int .i64 0], .agg #[.slice none 0 0], .bool false]) (by simp [results, Try.results8, go_sem]) rfl ?_
    unfold RetPts
    rw [E1.out, E2.out, E3.out, E4.out]
    exact ⟨none, 0, none, 0, rfl, SFresh.nil _ _, SFresh.nil _ _, ext _ _⟩
  · have E1 := Lib.hid (show ptH x = highP x by simp [ptH, gx])
    have E2 := Lib.hid (show ptL x = lowP x by simp [ptL, gx])
    have E3 := Lib.hid (show ptR x = realP (0, 1) x by simp [ptR, gx])
    have E4 := Lib.hid gx
    have HL : Hid (x.len ≤ 1099511627776) := by have := (sGood_len gx).1; show _ ≤ _; omega
    have HB : Hid (x.len ≤ 1000000000 ∧ x.All Bd) := ⟨by have := (sGood_len gx).1; omega, Sur.All.mono (fun _ _ h => FOk.bd h) x (sGood_len gx).2.2⟩
    have HN1 : Hid ((highP x).nodes ≤ 100) := by have := highP_nodes x; have := (sGood_len gx).2.1; show _ ≤ _; omega
    have HN2 : Hid ((lowP x).nodes ≤ 100) := by have := lowP_nodes x; have := (sGood_len gx).2.1; show _ ≤ _; omega
    go_enter Try.func8, Try.ntmps8
    go_wp2_with (first | ((with_reducible refine at_dst (N := 1) rfl ?_); refine ev_box (cs := #[.slice A x.len c]) (t := 26) rfl ?hr1 ?_; (case hr1 => first | (go_simp; done) | (go_simp; rfl)); intro g1 v1 _ _ _ _) | ((with_reducible refine at_dst (N := 2) rfl ?_); refine ev_box (cs := #[.slice none 0 0]) (t := 26) rfl ?hr2 ?_; (case hr2 => first | (go_simp; done) | (go_simp; rfl)); intro g2 v2 _ _ _ _) | ((with_reducible refine at_dst (N := 3) rfl ?_); refine ev_box (cs := #[.int .i64 0, .int .i64 0]) (t := 29) rfl ?hr3 ?_; (case hr3 => first | (go_simp; done) | (go_simp; rfl)); intro g3 v3 _ _ _ _) | ((with_reducible refine at_dst (N := 4) rfl ?_); refine ev_box (cs := #[.slice none 0 0]) (t := 26) rfl ?hr4 ?_; (case hr4 => first | (go_simp; done) | (go_simp; rfl)); intro g4 v4 _ _ _ _) | (go_at_call 32; refine (suGood_any x _ A c _ (tr _ A)).mono ?_; rintro e5 w5 ⟨he, hb⟩; rw [gx] at he; subst he; haveI : Bel _ w5 := ⟨hb⟩; clear hb) | (go_at_call 33; refine (suParts_any x XN A c _ (xlt XN _) (trx XN _ A) HL.out).mono ?_; rintro e17 w17 ⟨Ah, ch, Al, cl, rfl, hs, hs', hb⟩; haveI : Bel _ w17 := ⟨hb⟩; haveI := Tr.arg hs; haveI := Tr.arg hs'; clear hs hs' hb) | ((with_reducible refine at_dst (N := 6) rfl ?_); refine ev_box (cs := #[.slice none 0 0]) (t := 26) rfl ?hr6 ?_; (case hr6 => first | (go_simp; done) | (go_simp; rfl)); intro g6 v6 _ _ _ _) | ((with_reducible refine at_dst (N := 7) rfl ?_); refine ev_box (cs := #[.int .i64 0, .int .i64 0]) (t := 29) rfl ?hr7 ?_; (case hr7 => first | (go_simp; done) | (go_simp; rfl)); intro g7 v7 _ _ _ _) | ((with_reducible refine at_dst (N := 8) rfl ?_); refine ev_box (cs := #[.slice none 0 0]) (t := 26) rfl ?hr8 ?_; (case hr8 => first | (go_simp; done) | (go_simp; rfl)); intro g8 v8 _ _ _ _))
    refine wp_region_held_drew (S := (fun w' => w'.cell? ⟨g6, 0, none⟩ = some (.slice Ah (highP x).len ch) ∧ w'.cell? ⟨g7, 0, none⟩ = some (.int .i64 (realP (0, 1) x).1) ∧ w'.cell? ⟨g7, 1, none⟩ = some (.int .i64 (realP (0, 1) x).2) ∧ w'.cell? ⟨g8, 0, none⟩ = some (.slice Al (lowP x).len cl))) (by kernel_rfl) ?hSn2_ (fun hHeld => ?hRn2_)
    case hSn2_ => (exact ⟨has1, has2.1, has2.2, has1⟩)
    refine wpAnyH_take (i := 0) (oi := _) (v := ?vn2_1) rfl (by kernel_rfl) (by kernel_rfl) (by kernel_rfl) (fun _ _ _ h => h) (Or.inl ⟨by rfl, ?hyn2_1⟩) (by assumption) ?hRn2_1
    case hyn2_1 => (intro w hSw; (try dsimp only at hSw); go_simp; (try with_reducible rfl))
    try simp only [Act.put, List.getElem_toArray, List.getElem_cons_zero, List.getElem_cons_succ, List.setIfInBounds_toArray, List.set_cons_zero, List.set_cons_succ]
    refine wpAnyH_take (i := 2) (oi := _) (v := ?vn2_2) rfl (by kernel_rfl) (by kernel_rfl) (by kernel_rfl) (fun _ _ _ h => h) (Or.inl ⟨by rfl, ?hyn2_2⟩) (by assumption) ?hRn2_2
    case hyn2_2 => (intro w hSw; (try dsimp only at hSw); go_simp; (try with_reducible rfl))
    try simp only [Act.put, List.getElem_toArray, List.getElem_cons_zero, List.getElem_cons_succ, List.setIfInBounds_toArray, List.set_cons_zero, List.set_cons_succ]
    refine wpAnyH_take (i := 3) (oi := _) (v := ?vn2_3) rfl (by kernel_rfl) (by kernel_rfl) (by kernel_rfl) (fun _ _ _ h => h) (Or.inl ⟨by rfl, ?hyn2_3⟩) (by assumption) ?hRn2_3
    case hyn2_3 => (intro w hSw; (try dsimp only at hSw); go_simp; (try with_reducible rfl))
    try simp only [Act.put, List.getElem_toArray, List.getElem_cons_zero, List.getElem_cons_succ, List.setIfInBounds_toArray, List.set_cons_zero, List.set_cons_succ]
    refine wpAnyH_ready (rs := [1]) (by kernel_rfl) (by simp) ?_
    refine AllReadyH.cons (o := _) rfl (fun K hK => ?_) AllReadyH.nil
    go_simp
    ((go_at_call 34; refine (suOwn_any 100 (by omega) (highP x) _ Ah ch _ HN1.out (tr _ Ah)).mono ?_; rintro e22 w22 ⟨A22, c22, rfl, hf, hb⟩; haveI : Bel _ w22 := ⟨hb⟩; haveI := Fs.of hf; clear hf hb))
    go_wp2_with fail
    refine hK.out _ _ ?hSn2_4 (fun hHeld => ?hRn2_4)
    case hSn2_4 => ((try dsimp only); exact ⟨has1, has2.1, has2.2, has1⟩)
    clear hK K
    try simp only [Act.put, List.getElem_toArray, List.getElem_cons_zero, List.getElem_cons_succ, List.setIfInBounds_toArray, List.set_cons_zero, List.set_cons_succ]
    refine wpAnyH_ready (rs := [4]) (by kernel_rfl) (by simp) ?_
    refine AllReadyH.cons (o := _) rfl (fun K hK => ?_) AllReadyH.nil
    go_simp
    ((go_at_call 34; refine (suOwn_any 100 (by omega) (lowP x) _ Al cl _ HN2.out (tr _ Al)).mono ?_; rintro e25 w25 ⟨A25, c25, rfl, hf, hb⟩; haveI : Bel _ w25 := ⟨hb⟩; haveI := Fs.of hf; clear hf hb))
    go_wp2_with fail
    refine hK.out _ _ ?hSn2_5 (fun hHeld => ?hRn2_5)
    case hSn2_5 => ((try dsimp only); exact ⟨has1, has2.1, has2.2, has1⟩)
    clear hK K
    try simp only [Act.put, List.getElem_toArray, List.getElem_cons_zero, List.getElem_cons_succ, List.setIfInBounds_toArray, List.set_cons_zero, List.set_cons_succ]
    refine wpAnyH_ready (rs := [5]) (by kernel_rfl) (by simp) ?_
    refine AllReadyH.cons (o := _) rfl (fun K hK => ?_) AllReadyH.nil
    go_simp
    refine hK.out _ _ ?hSn2_6 (fun hHeld => ?hRn2_6)
    case hSn2_6 => ((try dsimp only); exact ⟨has1, has2.1, has2.2, has1⟩)
    clear hK K
    try simp only [Act.put, List.getElem_toArray, List.getElem_cons_zero, List.getElem_cons_succ, List.setIfInBounds_toArray, List.set_cons_zero, List.set_cons_succ]
    refine wpAnyH_ready (rs := [6]) (by kernel_rfl) (by simp) ?_
    refine AllReadyH.cons (o := _) rfl (fun K hK => ?_) AllReadyH.nil
    go_simp
    refine hK.out _ _ ?hSn2_7 (fun hHeld => ?hRn2_7)
    case hSn2_7 => ((try dsimp only); exact ⟨has1, has2.1, has2.2, has1⟩)
    clear hK K
    try simp only [Act.put, List.getElem_toArray, List.getElem_cons_zero, List.getElem_cons_succ, List.setIfInBounds_toArray, List.set_cons_zero, List.set_cons_succ]
    refine wpAnyH_ready (rs := [7]) (by kernel_rfl) (by simp) ?_
    refine AllReadyH.cons (o := _) rfl (fun K hK => ?_) AllReadyH.nil
    go_simp
    refine hK.out _ _ ?hSn2_8 (fun hHeld => ?hRn2_8)
    case hSn2_8 => ((try dsimp only); exact ⟨has1, has2.1, has2.2, has1⟩)
    clear hK K
    try simp only [Act.put, List.getElem_toArray, List.getElem_cons_zero, List.getElem_cons_succ, List.setIfInBounds_toArray, List.set_cons_zero, List.set_cons_succ]
    refine wpAnyH_take (i := 8) (oi := _) (v := ?vn2_9) rfl (by kernel_rfl) (by kernel_rfl) (by kernel_rfl) (fun _ _ _ h => h) (Or.inl ⟨by rfl, ?hyn2_9⟩) (by assumption) ?hRn2_9
    case hyn2_9 => (intro w hSw; (try dsimp only at hSw); go_simp; (try with_reducible rfl))
    try simp only [Act.put, List.getElem_toArray, List.getElem_cons_zero, List.getElem_cons_succ, List.setIfInBounds_toArray, List.set_cons_zero, List.set_cons_succ]
    refine wpAnyH_done (by kernel_rfl) ?_ _
    go_wp2
    refine bodyPost_ret (v := .tuple #[.agg #[.slice A22 (highP x).len c22], .agg #[.int .i64 (realP (0, 1) x).1, .int .i64 (realP (0, 1) x).2], .agg #[.slice A25 (lowP x).len c25], .bool true]) (by simp [results, Try.results8, go_sem]) rfl ?_
    unfold RetPts
    rw [E1.out, E2.out, E3.out, E4.out]
    exact ⟨A22, c22, A25, c25, rfl, fs _ A22 w, fs _ A25 w, ext _ _⟩
end Go.Proofs.Ytphabopnbcgodaa

namespace Go.Proofs.Ytphabopnbcgodaa
open Go.RowKit
set_option linter.unusedSimpArgs false
set_option linter.unusedVariables false

def flr (n d : Int) : Int := if n < n.tdiv d * d then n.tdiv d - 1 else n.tdiv d
theorem tdiv_bd {n d : Int} (h : FOk n d) : -1000000 ≤ n.tdiv d ∧ n.tdiv d ≤ 1000000 ∧ -1000000 ≤ n.tdiv d * d ∧ n.tdiv d * d ≤ 1000000 ∧ 0 < d := by
  have hb := fracOk_iff.1 h
  have hd := h.pos
  have h1 : (n.tdiv d).natAbs ≤ n.natAbs := by rw [Int.natAbs_tdiv]; exact Nat.div_le_self _ _
  have h2 : (n.tdiv d * d).natAbs ≤ n.natAbs := by
    rw [Int.natAbs_mul, Int.natAbs_tdiv]
    exact Nat.div_mul_le_self _ _
  omega
/-- the whole part is the floor -/
theorem flr_spec {n d : Int} (h : FOk n d) : flr n d * d ≤ n ∧ n < (flr n d + 1) * d ∧ -1000001 ≤ flr n d ∧ flr n d ≤ 1000000 := by
  obtain ⟨a1, a2, a3, a4, hd⟩ := tdiv_bd h
  have e : n.tdiv d * d + n.tmod d = n := by rw [Int.mul_comm]; exact Int.mul_tdiv_add_tmod n d
  have m1 : n.tmod d < d := Int.tmod_lt_of_pos _ hd
  have m2 : -d < n.tmod d := by
    have := Int.lt_tmod_of_pos n hd
    omega
  unfold flr
  generalize n.tdiv d = q at *
  generalize n.tmod d = r at *
  have x1 : (q - 1) * d = q * d - d := by rw [Int.sub_mul]; omega
  have x2 : (q + 1) * d = q * d + d := by rw [Int.add_mul]; omega
  split
  · rw [show q - 1 + 1 = q by omega]; omega
  · omega

attribute [local go_sem high] has_cell has_frozen
set_option maxHeartbeats 800000 in
theorem floor_any (n d : Int) (w : World) (h : FOk n d) :
    Calls Try.prog 36 #[.agg #[.int .i64 n, .int .i64 d]] w fun e w' => e = .returned (.int .i64 (flr n d)) ∧ Below w.heap.size w w' := by
  obtain ⟨a1, a2, a3, a4, hd⟩ := tdiv_bd h
  have H : Hid (flr n d = if n < n.tdiv d * d then n.tdiv d - 1 else n.tdiv d) := rfl
  have hd0 : (d == 0) = false := by simp; omega
  have hdn : d ≠ 0 := by omega
  have w1 : IntKind.i64.wrap (n.tdiv d) = n.tdiv d := IntWalk.i64_in _ (by omega)
  have w2 : IntKind.i64.wrap (n.tdiv d * d) = n.tdiv d * d := IntWalk.i64_in _ (by omega)
  have w3 : IntKind.i64.wrap (n.tdiv d - 1) = n.tdiv d - 1 := IntWalk.i64_in _ (by omega)
  by_cases hq : n < n.tdiv d * d
  · have H2 := Lib.hid (H.out.trans (if_pos hq))
    go_enter Try.func36, Try.ntmps36
    go_wp2_with (first | ((with_reducible refine at_dst (N := 1) rfl ?_); refine ev_box (cs := #[.int .i64 n, .int .i64 d]) (t := 29) rfl ?hr1 ?_; (case hr1 => first | (go_simp; done) | (go_simp; rfl)); intro g1 v1 _ _ _ _))
    go_ret
    exact ⟨by rw [H2.out]; rfl, ext _ _⟩
  · have H2 := Lib.hid (H.out.trans (if_neg hq))
    go_enter Try.func36, Try.ntmps36
    go_wp2_with (first | ((with_reducible refine at_dst (N := 1) rfl ?_); refine ev_box (cs := #[.int .i64 n, .int .i64 d]) (t := 29) rfl ?hr1 ?_; (case hr1 => first | (go_simp; done) | (go_simp; rfl)); intro g1 v1 _ _ _ _))
    go_ret
    exact ⟨by rw [H2.out]; rfl, ext _ _⟩
set_option maxHeartbeats 800000 in
theorem shFloor_any (n d : Int) (w : World) (h : FOk n d) :
    Calls Try.prog 85 #[.agg #[.int .i64 n, .int .i64 d]] w fun e w' => e = .returned (.int .i64 (flr n d)) ∧ Below w.heap.size w w' := by
  obtain ⟨a1, a2, a3, a4, hd⟩ := tdiv_bd h
  have H : Hid (flr n d = if n < n.tdiv d * d then n.tdiv d - 1 else n.tdiv d) := rfl
  have hd0 : (d == 0) = false := by simp; omega
  have hdn : d ≠ 0 := by omega
  have w1 : IntKind.i64.wrap (n.tdiv d) = n.tdiv d := IntWalk.i64_in _ (by omega)
  have w2 : IntKind.i64.wrap (n.tdiv d * d) = n.tdiv d * d := IntWalk.i64_in _ (by omega)
  have w3 : IntKind.i64.wrap (n.tdiv d - 1) = n.tdiv d - 1 := IntWalk.i64_in _ (by omega)
  by_cases hq : n < n.tdiv d * d
  · have H2 := Lib.hid (H.out.trans (if_pos hq))
    go_enter Try.func85, Try.ntmps85
    go_wp2_with (first | ((with_reducible refine at_dst (N := 1) rfl ?_); refine ev_box (cs := #[.int .i64 n, .int .i64 d]) (t := 29) rfl ?hr1 ?_; (case hr1 => first | (go_simp; done) | (go_simp; rfl)); intro g1 v1 _ _ _ _))
    go_ret
    exact ⟨by rw [H2.out]; rfl, ext _ _⟩
  · have H2 := Lib.hid (H.out.trans (if_neg hq))
    go_enter Try.func85, Try.ntmps85
    go_wp2_with (first | ((with_reducible refine at_dst (N := 1) rfl ?_); refine ev_box (cs := #[.int .i64 n, .int .i64 d]) (t := 29) rfl ?hr1 ?_; (case hr1 => first | (go_simp; done) | (go_simp; rfl)); intro g1 v1 _ _ _ _))
    go_ret
    exact ⟨by rw [H2.out]; rfl, ext _ _⟩
end Go.Proofs.Ytphabopnbcgodaa

namespace Go.Proofs.Ytphabopnbcgodaa
open Go.RowKit
set_option linter.unusedSimpArgs false
set_option linter.unusedVariables false

/-- IsOmnific's answer -/
def omnB (x : Sur) : Bool := sGood x && (decide ((realP (0, 1) x).2 = 1) && decide ((lowP x).len = 0))
/-- FromFraction -/
def fromS (n d : Int) : Option Sur := told (termP .nil n d) (fracOk n d)
/-- CompareSurreals' answer -/
def cmpS (x y : Sur) : Int := if (sGood x && sGood y) = true then order x y else 0
def RetOmn (w : World) (x : Sur) (e : Ending) (w' : World) : Prop := e = .returned (.tuple #[.bool (omnB x), .bool (sGood x)]) ∧ Below w.heap.size w w'
def RetCmp (w : World) (x y : Sur) (e : Ending) (w' : World) : Prop := e = .returned (.tuple #[.int .i64 (cmpS x y), .bool (sGood x && sGood y)]) ∧ Below w.heap.size w w'

attribute [local go_sem high] has_cell has_frozen
set_option maxHeartbeats 3200000 in
set_option maxRecDepth 100000 in
theorem IsOmnific_any (x : Sur) (X : Nat → Prop) (A : Option Addr) (c : Nat) (w : World) (sx : SSl X w x A c) :
    Calls Try.prog 16 #[.agg #[.slice A x.len c]] w (RetOmn w x) := by
  haveI ix := Tr.arg (sx.more (Y := XN) (fun _ h => h.elim))
  clear sx
  cases gx : sGood x
  · have E1 := Lib.hid (show omnB x = false by simp [omnB, gx])
    have E4 := Lib.hid gx
    go_enter Try.func16, Try.ntmps16
    go_wp2_with (first | ((with_reducible refine at_dst (N := 1) rfl ?_); refine ev_box (cs := #[.slice A x.len c]) (t := 26) rfl ?hr1 ?_; (case hr1 => first | (go_simp; done) | (go_simp; rfl)); intro g1 v1 _ _ _ _) | (go_at_call 29; refine (IsSurreal_any x _ A c _ (tr _ A)).mono ?_; rintro e5 w5 ⟨he, hb⟩; rw [gx] at he; subst he; haveI : Bel _ w5 := ⟨hb⟩; clear hb))
    refine bodyPost_ret (v := .tuple #[.bool false, .bool false]) (by simp [results, Try.results16, go_sem]) rfl ?_
    unfold RetOmn
    rw [E1.out, E4.out]
    exact ⟨rfl, ext _ _⟩
  · have E4 := Lib.hid gx
    have HB : Hid (x.len ≤ 1000000000 ∧ x.All Bd) := ⟨by have := (sGood_len gx).1; omega, Sur.All.mono (fun _ _ h => FOk.bd h) x (sGood_len gx).2.2⟩
    by_cases hd : (realP (0, 1) x).2 = 1
    · have E1 := Lib.hid (show omnB x = decide ((lowP x).len = 0) by simp [omnB, gx, hd])
      have hd' := hd
      by_cases hl : (lowP x).len = 0
      · have E2 := Lib.hid (show omnB x = true by rw [E1.out]; simpa using hl)
        have E5 := Lib.hid hl
        have E6 := Lib.hid hd
        clear hl hd hd'
        go_enter Try.func16, Try.ntmps16
        go_upto_region 4 with (first | ((with_reducible refine at_dst (N := 1) rfl ?_); refine ev_box (cs := #[.slice A x.len c]) (t := 26) rfl ?hr1 ?_; (case hr1 => first | (go_simp; done) | (go_simp; rfl)); intro g1 v1 _ _ _ _) | (go_at_call 29; refine (IsSurreal_any x _ A c _ (tr _ A)).mono ?_; rintro e5 w5 ⟨he, hb⟩; rw [gx] at he; subst he; haveI : Bel _ w5 := ⟨hb⟩; clear hb) | (go_at_call 30; refine (parts_any x XN A c _ (xlt XN _) (trx XN _ A) HB.out.1 HB.out.2).mono ?_; rintro e17 w17 ⟨Ah, ch, Al, cl, rfl, hs, hs', hb⟩; haveI : Bel _ w17 := ⟨hb⟩; haveI := Tr.arg hs; haveI := Tr.arg hs'; clear hs hs' hb) | ((with_reducible refine at_dst (N := 4) rfl ?_); refine ev_box (cs := #[.slice none 0 0]) (t := 26) rfl ?hr4 ?_; (case hr4 => first | (go_simp; done) | (go_simp; rfl)); intro g4 v4 _ _ _ _) | ((with_reducible refine at_dst (N := 5) rfl ?_); refine ev_box (cs := #[.int .i64 0, .int .i64 0]) (t := 29) rfl ?hr5 ?_; (case hr5 => first | (go_simp; done) | (go_simp; rfl)); intro g5 v5 _ _ _ _) | ((with_reducible refine at_dst (N := 6) rfl ?_); refine ev_box (cs := #[.slice none 0 0]) (t := 26) rfl ?hr6 ?_; (case hr6 => first | (go_simp; done) | (go_simp; rfl)); intro g6 v6 _ _ _ _))
        have hd := E6.out
        have hl := E5.out
        go_wp2
        refine bodyPost_ret (v := .tuple #[.bool true, .bool true]) (by simp [results, Try.results16, go_sem]) rfl ?_
        unfold RetOmn
        rw [E2.out, E4.out]
        exact ⟨rfl, ext w _⟩
      · have E2 := Lib.hid (show omnB x = false by rw [E1.out]; simpa using hl)
        have E5 := Lib.hid hl
        have E6 := Lib.hid hd
        clear hl hd hd'
        go_enter Try.func16, Try.ntmps16
        go_upto_region 4 with (first | ((with_reducible refine at_dst (N := 1) rfl ?_); refine ev_box (cs := #[.slice A x.len c]) (t := 26) rfl ?hr1 ?_; (case hr1 => first | (go_simp; done) | (go_simp; rfl)); intro g1 v1 _ _ _ _) | (go_at_call 29; refine (IsSurreal_any x _ A c _ (tr _ A)).mono ?_; rintro e5 w5 ⟨he, hb⟩; rw [gx] at he; subst he; haveI : Bel _ w5 := ⟨hb⟩; clear hb) | (go_at_call 30; refine (parts_any x XN A c _ (xlt XN _) (trx XN _ A) HB.out.1 HB.out.2).mono ?_; rintro e17 w17 ⟨Ah, ch, Al, cl, rfl, hs, hs', hb⟩; haveI : Bel _ w17 := ⟨hb⟩; haveI := Tr.arg hs; haveI := Tr.arg hs'; clear hs hs' hb) | ((with_reducible refine at_dst (N := 4) rfl ?_); refine ev_box (cs := #[.slice none 0 0]) (t := 26) rfl ?hr4 ?_; (case hr4 => first | (go_simp; done) | (go_simp; rfl)); intro g4 v4 _ _ _ _) | ((with_reducible refine at_dst (N := 5) rfl ?_); refine ev_box (cs := #[.int .i64 0, .int .i64 0]) (t := 29) rfl ?hr5 ?_; (case hr5 => first | (go_simp; done) | (go_simp; rfl)); intro g5 v5 _ _ _ _) | ((with_reducible refine at_dst (N := 6) rfl ?_); refine ev_box (cs := #[.slice none 0 0]) (t := 26) rfl ?hr6 ?_; (case hr6 => first | (go_simp; done) | (go_simp; rfl)); intro g6 v6 _ _ _ _))
        have hd := E6.out
        have hl : (((lowP x).len : Int) == 0) = false := by have := E5.out; simp; omega
        go_wp2
        refine bodyPost_ret (v := .tuple #[.bool false, .bool true]) (by simp [results, Try.results16, go_sem]) rfl ?_
        unfold RetOmn
        rw [E2.out, E4.out]
        exact ⟨rfl, ext w _⟩
    · have E1 := Lib.hid (show omnB x = false by simp [omnB, hd])
      have hd' : ((realP (0, 1) x).2 == 1) = false := by simpa using hd
      clear hd
      go_enter Try.func16, Try.ntmps16
      go_wp2_with (first | ((with_reducible refine at_dst (N := 1) rfl ?_); refine ev_box (cs := #[.slice A x.len c]) (t := 26) rfl ?hr1 ?_; (case hr1 => first | (go_simp; done) | (go_simp; rfl)); intro g1 v1 _ _ _ _) | (go_at_call 29; refine (IsSurreal_any x _ A c _ (tr _ A)).mono ?_; rintro e5 w5 ⟨he, hb⟩; rw [gx] at he; subst he; haveI : Bel _ w5 := ⟨hb⟩; clear hb) | (go_at_call 30; refine (parts_any x XN A c _ (xlt XN _) (trx XN _ A) HB.out.1 HB.out.2).mono ?_; rintro e17 w17 ⟨Ah, ch, Al, cl, rfl, hs, hs', hb⟩; haveI : Bel _ w17 := ⟨hb⟩; haveI := Tr.arg hs; haveI := Tr.arg hs'; clear hs hs' hb) | ((with_reducible refine at_dst (N := 4) rfl ?_); refine ev_box (cs := #[.slice none 0 0]) (t := 26) rfl ?hr4 ?_; (case hr4 => first | (go_simp; done) | (go_simp; rfl)); intro g4 v4 _ _ _ _) | ((with_reducible refine at_dst (N := 5) rfl ?_); refine ev_box (cs := #[.int .i64 0, .int .i64 0]) (t := 29) rfl ?hr5 ?_; (case hr5 => first | (go_simp; done) | (go_simp; rfl)); intro g5 v5 _ _ _ _) | ((with_reducible refine at_dst (N := 6) rfl ?_); refine ev_box (cs := #[.slice none 0 0]) (t := 26) rfl ?hr6 ?_; (case hr6 => first | (go_simp; done) | (go_simp; rfl)); intro g6 v6 _ _ _ _))
      refine bodyPost_ret (v := .tuple #[.bool false, .bool true]) (by simp [results, Try.results16, go_sem]) rfl ?_
      unfold RetOmn
      rw [E1.out, E4.out]
      exact ⟨rfl, ext w _⟩

set_option maxHeartbeats 1600000 in
set_option maxRecDepth 100000 in
theorem FromFraction_any (n d : Int) (w : World) (in_ : I64 n) (id_ : I64 d) :
    Calls Try.prog 14 #[.agg #[.int .i64 n, .int .i64 d]] w (RetFreshB w (fromS n d)) := by
  go_enter Try.func14, Try.ntmps14
  go_wp2_with (first | ((with_reducible refine at_dst (N := 1) rfl ?_); refine ev_box (cs := #[.int .i64 n, .int .i64 d]) (t := 29) rfl ?hr1 ?_; (case hr1 => first | (go_simp; done) | (go_simp; rfl)); intro g1 v1 _ _ _ _) | ((with_reducible refine at_dst (N := 2) rfl ?_); refine ev_box (cs := #[.slice none 0 0]) (t := 26) rfl ?hr2 ?_; (case hr2 => first | (go_simp; done) | (go_simp; rfl)); intro g2 v2 _ _ _ _))
  refine wp_region_held_drew (S := (fun w' => w'.cell? ⟨g1, 0, none⟩ = some (.int .i64 n) ∧ w'.cell? ⟨g1, 1, none⟩ = some (.int .i64 d))) (by kernel_rfl) ?hSn1_ (fun hHeld => ?hRn1_)
  case hSn1_ => (exact has2)
  refine wpAnyH_take (i := 0) (oi := _) (v := ?vn1_1) rfl (by kernel_rfl) (by kernel_rfl) (by kernel_rfl) (fun _ _ _ h => h) (Or.inl ⟨by rfl, ?hyn1_1⟩) (by assumption) ?hRn1_1
  case hyn1_1 => (intro w hSw; (try dsimp only at hSw); go_simp; (try with_reducible rfl))
  try simp only [Act.put, List.getElem_toArray, List.getElem_cons_zero, List.getElem_cons_succ, List.setIfInBounds_toArray, List.set_cons_zero, List.set_cons_succ]
  refine wpAnyH_take (i := 2) (oi := _) (v := ?vn1_2) rfl (by kernel_rfl) (by kernel_rfl) (by kernel_rfl) (fun _ _ _ h => h) (Or.inl ⟨by rfl, ?hyn1_2⟩) (by assumption) ?hRn1_2
  case hyn1_2 => (intro w hSw; (try dsimp only at hSw); go_simp; (try with_reducible rfl))
  try simp only [Act.put, List.getElem_toArray, List.getElem_cons_zero, List.getElem_cons_succ, List.setIfInBounds_toArray, List.set_cons_zero, List.set_cons_succ]
  refine wpAnyH_ready (rs := [1]) (by kernel_rfl) (by simp) ?_
  refine AllReadyH.cons (o := _) rfl (fun K hK => ?_) AllReadyH.nil
  go_simp
  ((go_at_call 40; refine (real_any n d XN _ (xlt XN _) in_ id_).mono ?_; rintro e5 w5 ⟨A5, c5, rfl, hs, hb⟩; haveI : Bel _ w5 := ⟨hb⟩; haveI := Tr.arg hs; clear hs hb))
  go_wp2_with fail
  refine hK.out _ _ ?hSn1_3 (fun hHeld => ?hRn1_3)
  case hSn1_3 => ((try dsimp only); exact has2)
  clear hK K
  try simp only [Act.put, List.getElem_toArray, List.getElem_cons_zero, List.getElem_cons_succ, List.setIfInBounds_toArray, List.set_cons_zero, List.set_cons_succ]
  refine wpAnyH_ready (rs := [3]) (by kernel_rfl) (by simp) ?_
  refine AllReadyH.cons (o := _) rfl (fun K hK => ?_) AllReadyH.nil
  go_simp
  ((go_at_call 44; refine (IsFraction_any _ _ _).mono ?_; rintro e7 w7 ⟨rfl, hb⟩; haveI : Bel _ w7 := ⟨hb⟩; clear hb))
  go_wp2_with fail
  refine hK.out _ _ ?hSn1_4 (fun hHeld => ?hRn1_4)
  case hSn1_4 => ((try dsimp only); exact has2)
  clear hK K
  try simp only [Act.put, List.getElem_toArray, List.getElem_cons_zero, List.getElem_cons_succ, List.setIfInBounds_toArray, List.set_cons_zero, List.set_cons_succ]
  refine wpAnyH_ready (rs := [4]) (by kernel_rfl) (by simp) ?_
  refine AllReadyH.cons (o := _) rfl (fun K hK => ?_) AllReadyH.nil
  go_simp
  ((go_at_call 38; refine (toldSurreal_any (termP .nil n d) (fracOk n d) _ A5 c5 _ (tr _ A5)).mono ?_; rintro e8 w8 ⟨A8, c8, rfl, hf, hb⟩; haveI : Bel _ w8 := ⟨hb⟩; haveI := Fs.of hf; clear hf hb))
  go_wp2_with fail
  refine hK.out _ _ ?hSn1_5 (fun hHeld => ?hRn1_5)
  case hSn1_5 => ((try dsimp only); exact has2)
  clear hK K
  try simp only [Act.put, List.getElem_toArray, List.getElem_cons_zero, List.getElem_cons_succ, List.setIfInBounds_toArray, List.set_cons_zero, List.set_cons_succ]
  refine wpAnyH_take (i := 5) (oi := _) (v := ?vn1_6) rfl (by kernel_rfl) (by kernel_rfl) (by kernel_rfl) (fun _ _ _ h => h) (Or.inl ⟨by rfl, ?hyn1_6⟩) (by assumption) ?hRn1_6
  case hyn1_6 => (intro w hSw; (try dsimp only at hSw); go_simp; (try with_reducible rfl))
  try simp only [Act.put, List.getElem_toArray, List.getElem_cons_zero, List.getElem_cons_succ, List.setIfInBounds_toArray, List.set_cons_zero, List.set_cons_succ]
  refine wpAnyH_take (i := 6) (oi := _) (v := ?vn1_7) rfl (by kernel_rfl) (by kernel_rfl) (by kernel_rfl) (fun _ _ _ h => h) (Or.inl ⟨by rfl, ?hyn1_7⟩) (by assumption) ?hRn1_7
  case hyn1_7 => (intro w hSw; (try dsimp only at hSw); go_simp; (try with_reducible rfl))
  try simp only [Act.put, List.getElem_toArray, List.getElem_cons_zero, List.getElem_cons_succ, List.setIfInBounds_toArray, List.set_cons_zero, List.set_cons_succ]
  refine wpAnyH_ready (rs := [7]) (by kernel_rfl) (by simp) ?_
  refine AllReadyH.cons (o := _) rfl (fun K hK => ?_) AllReadyH.nil
  go_simp
  refine hK.out _ _ ?hSn1_8 (fun hHeld => ?hRn1_8)
  case hSn1_8 => ((try dsimp only); exact has2)
  clear hK K
  try simp only [Act.put, List.getElem_toArray, List.getElem_cons_zero, List.getElem_cons_succ, List.setIfInBounds_toArray, List.set_cons_zero, List.set_cons_succ]
  refine wpAnyH_take (i := 8) (oi := _) (v := ?vn1_9) rfl (by kernel_rfl) (by kernel_rfl) (by kernel_rfl) (fun _ _ _ h => h) (Or.inl ⟨by rfl, ?hyn1_9⟩) (by assumption) ?hRn1_9
  case hyn1_9 => (intro w hSw; (try dsimp only at hSw); go_simp; (try with_reducible rfl))
  try simp only [Act.put, List.getElem_toArray, List.getElem_cons_zero, List.getElem_cons_succ, List.setIfInBounds_toArray, List.set_cons_zero, List.set_cons_succ]
  refine wpAnyH_done (by kernel_rfl) ?_ _
  go_wp2
  refine bodyPost_ret (v := .tuple #[.agg #[.slice A8 ((told (termP .nil n d) (fracOk n d)).getD .nil).len c8], .bool (told (termP .nil n d) (fracOk n d)).isSome]) (by simp [results, Try.results14, go_sem]) rfl ?_
  exact ⟨A8, c8, rfl, fs _ A8 w, ext _ _⟩

set_option maxHeartbeats 1600000 in
set_option maxRecDepth 100000 in
theorem CompareSurreals_any (x y : Sur) (X Y : Nat → Prop) (A A' : Option Addr) (c c' : Nat) (w : World) (sx : SSl X w x A c) (sy : SSl Y w y A' c') :
    Calls Try.prog 17 #[.agg #[.slice A x.len c], .agg #[.slice A' y.len c']] w (RetCmp w x y) := by
  haveI ix := Tr.arg sx
  haveI iy := Tr.arg sy
  cases gg : (sGood x && sGood y)
  · have E1 := Lib.hid (show cmpS x y = 0 by simp [cmpS, gg])
    have E2 := Lib.hid gg
    go_enter Try.func17, Try.ntmps17
    go_wp2_with (first | ((with_reducible refine at_dst (N := 2) rfl ?_); refine ev_box (cs := #[.slice A x.len c]) (t := 26) rfl ?hr2 ?_; (case hr2 => first | (go_simp; done) | (go_simp; rfl)); intro g2 v2 _ _ _ _) | ((with_reducible refine at_dst (N := 3) rfl ?_); refine ev_box (cs := #[.slice A' y.len c']) (t := 26) rfl ?hr3 ?_; (case hr3 => first | (go_simp; done) | (go_simp; rfl)); intro g3 v3 _ _ _ _) | (go_at_call 45; refine (surreals_any x y _ _ A A' _ _ _ (tr _ A) (tr _ A')).mono ?_; rintro e8 w8 ⟨he, hb⟩; rw [gg] at he; subst he; haveI : Bel _ w8 := ⟨hb⟩; clear hb))
    refine bodyPost_ret (v := .tuple #[.int .i64 0, .bool false]) (by simp [results, Try.results17, go_sem]) rfl ?_
    unfold RetCmp
    rw [E1.out, E2.out]
    exact ⟨rfl, ext _ _⟩
  · have E1 := Lib.hid (show cmpS x y = order x y by simp only [cmpS, gg]; rfl)
    have E2 := Lib.hid gg
    have hgg : sGood x = true ∧ sGood y = true := by simpa using gg
    have HB : Hid (x.All Bd ∧ y.All Bd) := ⟨Sur.All.mono (fun _ _ h => FOk.bd h) x (sGood_len hgg.1).2.2, Sur.All.mono (fun _ _ h => FOk.bd h) y (sGood_len hgg.2).2.2⟩
    clear hgg
    go_enter Try.func17, Try.ntmps17
    go_wp2_with (first | ((with_reducible refine at_dst (N := 2) rfl ?_); refine ev_box (cs := #[.slice A x.len c]) (t := 26) rfl ?hr2 ?_; (case hr2 => first | (go_simp; done) | (go_simp; rfl)); intro g2 v2 _ _ _ _) | ((with_reducible refine at_dst (N := 3) rfl ?_); refine ev_box (cs := #[.slice A' y.len c']) (t := 26) rfl ?hr3 ?_; (case hr3 => first | (go_simp; done) | (go_simp; rfl)); intro g3 v3 _ _ _ _) | (go_at_call 45; refine (surreals_any x y _ _ A A' _ _ _ (tr _ A) (tr _ A')).mono ?_; rintro e8 w8 ⟨he, hb⟩; rw [gg] at he; subst he; haveI : Bel _ w8 := ⟨hb⟩; clear hb) | (go_at_call 37; refine (order_any _ x y _ _ A A' _ _ _ (Nat.le_refl _) HB.out.1 HB.out.2 (tr _ A) (tr _ A')).mono ?_; rintro e12 w12 ⟨rfl, hb⟩; haveI : Bel _ w12 := ⟨hb⟩; clear hb))
    refine bodyPost_ret (v := .tuple #[.int .i64 (order x y), .bool true]) (by simp [results, Try.results17, go_sem]) rfl ?_
    unfold RetCmp
    rw [E1.out, E2.out]
    exact ⟨rfl, ext _ _⟩
end Go.Proofs.Ytphabopnbcgodaa

namespace Go.Proofs.Ytphabopnbcgodaa
open Go.RowKit
set_option linter.unusedSimpArgs false
set_option linter.unusedVariables false

attribute [local go_sem high] has_cell has_frozen
set_option maxHeartbeats 800000 in
theorem qWhole_any (n : Int) (w : World) (in_ : I64 n) :
    Calls Try.prog 18 #[.int .i64 n] w (RetFresh w ((fromS n 1).getD .nil)) := by
  go_enter Try.func18, Try.ntmps18
  go_wp2_with (first | ((with_reducible refine at_dst (N := 2) rfl ?_); refine ev_box (cs := #[.slice none 0 0]) (t := 26) rfl ?hr2 ?_; (case hr2 => first | (go_simp; done) | (go_simp; rfl)); intro g2 v2 _ _ _ _) | (go_at_call 14; refine (FromFraction_any n 1 _ in_ (by unfold I64; omega)).mono ?_; rintro e8 w8 ⟨A8, c8, rfl, hf, hb⟩; haveI : Bel _ w8 := ⟨hb⟩; haveI := Fs.of hf; clear hf hb) | ((with_reducible refine at_dst (N := 3) rfl ?_); refine ev_box (cs := #[.slice none 0 0]) (t := 26) rfl ?hr3 ?_; (case hr3 => first | (go_simp; done) | (go_simp; rfl)); intro g3 v3 _ _ _ _))
  refine bodyPost_ret (v := .agg #[.slice A8 ((fromS n 1).getD .nil).len c8]) (by simp [results, Try.results18, go_sem]) rfl ?_
  exact ⟨A8, c8, rfl, fs _ A8 w, ext w _⟩
theorem fromS_one : fromS 1 1 = some (.cons .nil 1 1 .nil) := by
  unfold fromS told
  rw [if_pos (by decide)]
  simp [termP]
end Go.Proofs.Ytphabopnbcgodaa

namespace Go.Proofs.Ytphabopnbcgodaa
open Go.RowKit
set_option linter.unusedSimpArgs false
set_option linter.unusedVariables false

attribute [local go_sem high] has_cell has_frozen
set_option maxHeartbeats 1600000 in
set_option maxRecDepth 100000 in
theorem sLeadingOf_cons (e r : Sur) (n d : Int) (X : Nat → Prop) (A : Option Addr) (c : Nat) (w : World) (sx : SSl X w (.cons e n d r) A c) (gx : sGood (.cons e n d r) = true) :
    Calls Try.prog 11 #[.agg #[.slice A (r.len + 1) c]] w fun ex w' => ∃ A' c', ex = .returned (.tuple #[.agg #[.slice A' e.len c'], .agg #[.int .i64 n, .int .i64 d], .bool true]) ∧ SFresh w.heap.size w' e A' c' ∧ Below w.heap.size w w' := by
  haveI ix : Tr w A (XV w XN) (.cons e n d r) c := Tr.arg (sx.more (Y := XN) (fun _ h => h.elim))
  have lx := sx.cap
  have lx' := sx.le
  unfold maxLen at lx
  simp only [Sur.len] at lx'
  obtain ⟨b, o, e1, n1, dd1, A1, d1, rfl, hxk, q0, q1, q2, se, _, _, _, hbl⟩ := sx.at_ (k := 0) (by simp [Sur.len])
  simp only [Sur.drop] at hxk
  injection hxk with h1 h2 h3
  subst h1 h2 h3
  simp only [Nat.zero_mul, Nat.add_zero] at q0 q1 q2
  haveI := Tr.arg se
  clear se sx
  have HN : Hid (e.nodes ≤ 100) := by
    have := (sGood_len gx).2.1
    simp only [Sur.nodes] at this
    show _ ≤ _
    omega
  have Q0 : ∀ W, Ext w W → W.cell? ⟨b, o, none⟩ = some (.slice A1 e.len d1) := fun W h => ((h.h).cell hbl).trans q0
  have Q1 : ∀ W, Ext w W → W.cell? ⟨b, o + 1, none⟩ = some (.int .i64 n) := fun W h => ((h.h).cell hbl).trans q1
  have Q2 : ∀ W, Ext w W → W.cell? ⟨b, o + 2, none⟩ = some (.int .i64 d) := fun W h => ((h.h).cell hbl).trans q2
  have hl0 : ((r.len : Int) + 1 == 0) = false := by simp; omega
  generalize hA : some (⟨b, o, none⟩ : Addr) = A at *
  go_enter Try.func11, Try.ntmps11
  go_wp2_with (first | ((with_reducible refine at_dst (N := 1) rfl ?_); refine ev_box (cs := #[.slice A (r.len + 1) c]) (t := 26) rfl ?hr1 ?_; (case hr1 => first | (go_simp; done) | (go_simp; rfl)); intro g1 v1 _ _ _ _) | ((with_reducible refine at_dst (N := 2) rfl ?_); refine ev_box (cs := #[.slice none 0 0]) (t := 26) rfl ?hr2 ?_; (case hr2 => first | (go_simp; done) | (go_simp; rfl)); intro g2 v2 _ _ _ _) | ((with_reducible refine at_dst (N := 3) rfl ?_); refine ev_box (cs := #[.int .i64 0, .int .i64 0]) (t := 29) rfl ?hr3 ?_; (case hr3 => first | (go_simp; done) | (go_simp; rfl)); intro g3 v3 _ _ _ _) | (go_at_call 32; refine (suGood_any (.cons e n d r) _ A c _ (tr _ A)).mono ?_; rintro e5 w5 ⟨he, hb⟩; rw [gx] at he; subst he; haveI : Bel _ w5 := ⟨hb⟩; clear hb) | (go_at_call 35; refine (suZero_any (.cons e n d r) A c _).mono ?_; rintro e10 w10 ⟨rfl, hb⟩; haveI : Bel _ w10 := ⟨hb⟩; clear hb))
  subst hA
  refine wp_region_held_drew (S := (fun w' => w'.cell? ⟨g1, 0, none⟩ = some (.slice (some ⟨b, o, none⟩) (r.len + 1) c) ∧ w'.cell? ⟨b, o, none⟩ = some (.slice A1 e.len d1) ∧ w'.cell? ⟨b, o + 1, none⟩ = some (.int .i64 n) ∧ w'.cell? ⟨b, o + 2, none⟩ = some (.int .i64 d))) (by kernel_rfl) ?hSn1_ (fun hHeld => ?hRn1_)
  case hSn1_ => (exact ⟨has1, Q0 _ inferInstance, Q1 _ inferInstance, Q2 _ inferInstance⟩)
  refine wpAnyH_take (i := 0) (oi := _) (v := ?vn1_1) rfl (by kernel_rfl) (by kernel_rfl) (by kernel_rfl) (fun _ _ _ h => h) (Or.inl ⟨by rfl, ?hyn1_1⟩) (by assumption) ?hRn1_1
  case hyn1_1 => (intro w hSw; (try dsimp only at hSw); go_simp; (try with_reducible rfl))
  try simp only [Act.put, List.getElem_toArray, List.getElem_cons_zero, List.getElem_cons_succ, List.setIfInBounds_toArray, List.set_cons_zero, List.set_cons_succ]
  refine wpAnyH_take (i := 1) (oi := _) (v := ?vn1_2) rfl (by kernel_rfl) (by kernel_rfl) (by kernel_rfl) (fun _ _ _ h => h) (Or.inl ⟨by rfl, ?hyn1_2⟩) (by assumption) ?hRn1_2
  case hyn1_2 => (intro w hSw; (try dsimp only at hSw); go_simp; (try with_reducible rfl))
  try simp only [Act.put, List.getElem_toArray, List.getElem_cons_zero, List.getElem_cons_succ, List.setIfInBounds_toArray, List.set_cons_zero, List.set_cons_succ]
  refine wpAnyH_take (i := 2) (oi := _) (v := ?vn1_3) rfl (by kernel_rfl) (by kernel_rfl) (by kernel_rfl) (fun _ _ _ h => h) (Or.inl ⟨by rfl, ?hyn1_3⟩) (by assumption) ?hRn1_3
  case hyn1_3 => (intro w hSw; (try dsimp only at hSw); go_simp; (try with_reducible rfl))
  try simp only [Act.put, List.getElem_toArray, List.getElem_cons_zero, List.getElem_cons_succ, List.setIfInBounds_toArray, List.set_cons_zero, List.set_cons_succ]
  refine wpAnyH_take (i := 3) (oi := _) (v := ?vn1_4) rfl (by kernel_rfl) (by kernel_rfl) (by kernel_rfl) (fun _ _ _ h => h) (Or.inl ⟨by rfl, ?hyn1_4⟩) (by assumption) ?hRn1_4
  case hyn1_4 => (intro w hSw; (try dsimp only at hSw); go_simp; (try with_reducible rfl))
  try simp only [Act.put, List.getElem_toArray, List.getElem_cons_zero, List.getElem_cons_succ, List.setIfInBounds_toArray, List.set_cons_zero, List.set_cons_succ]
  refine wpAnyH_take (i := 4) (oi := _) (v := ?vn1_5) rfl (by kernel_rfl) (by kernel_rfl) (by kernel_rfl) (fun _ _ _ h => h) (Or.inl ⟨by rfl, ?hyn1_5⟩) (by assumption) ?hRn1_5
  case hyn1_5 => (intro w hSw; (try dsimp only at hSw); go_simp; (try with_reducible rfl))
  try simp only [Act.put, List.getElem_toArray, List.getElem_cons_zero, List.getElem_cons_succ, List.setIfInBounds_toArray, List.set_cons_zero, List.set_cons_succ]
  refine wpAnyH_take (i := 6) (oi := _) (v := ?vn1_6) rfl (by kernel_rfl) (by kernel_rfl) (by kernel_rfl) (fun _ _ _ h => h) (Or.inl ⟨by rfl, ?hyn1_6⟩) (by assumption) ?hRn1_6
  case hyn1_6 => (intro w hSw; (try dsimp only at hSw); go_simp; (try with_reducible rfl))
  try simp only [Act.put, List.getElem_toArray, List.getElem_cons_zero, List.getElem_cons_succ, List.setIfInBounds_toArray, List.set_cons_zero, List.set_cons_succ]
  refine wpAnyH_take (i := 7) (oi := _) (v := ?vn1_7) rfl (by kernel_rfl) (by kernel_rfl) (by kernel_rfl) (fun _ _ _ h => h) (Or.inl ⟨by rfl, ?hyn1_7⟩) (by assumption) ?hRn1_7
  case hyn1_7 => (intro w hSw; (try dsimp only at hSw); go_simp; (try with_reducible rfl))
  try simp only [Act.put, List.getElem_toArray, List.getElem_cons_zero, List.getElem_cons_succ, List.setIfInBounds_toArray, List.set_cons_zero, List.set_cons_succ]
  refine wpAnyH_take (i := 8) (oi := _) (v := ?vn1_8) rfl (by kernel_rfl) (by kernel_rfl) (by kernel_rfl) (fun _ _ _ h => h) (Or.inl ⟨by rfl, ?hyn1_8⟩) (by assumption) ?hRn1_8
  case hyn1_8 => (intro w hSw; (try dsimp only at hSw); go_simp; (try with_reducible rfl))
  try simp only [Act.put, List.getElem_toArray, List.getElem_cons_zero, List.getElem_cons_succ, List.setIfInBounds_toArray, List.set_cons_zero, List.set_cons_succ]
  refine wpAnyH_take (i := 9) (oi := _) (v := ?vn1_9) rfl (by kernel_rfl) (by kernel_rfl) (by kernel_rfl) (fun _ _ _ h => h) (Or.inl ⟨by rfl, ?hyn1_9⟩) (by assumption) ?hRn1_9
  case hyn1_9 => (intro w hSw; (try dsimp only at hSw); go_simp; (try with_reducible rfl))
  try simp only [Act.put, List.getElem_toArray, List.getElem_cons_zero, List.getElem_cons_succ, List.setIfInBounds_toArray, List.set_cons_zero, List.set_cons_succ]
  refine wpAnyH_take (i := 10) (oi := _) (v := ?vn1_10) rfl (by kernel_rfl) (by kernel_rfl) (by kernel_rfl) (fun _ _ _ h => h) (Or.inl ⟨by rfl, ?hyn1_10⟩) (by assumption) ?hRn1_10
  case hyn1_10 => (intro w hSw; (try dsimp only at hSw); go_simp; (try with_reducible rfl))
  try simp only [Act.put, List.getElem_toArray, List.getElem_cons_zero, List.getElem_cons_succ, List.setIfInBounds_toArray, List.set_cons_zero, List.set_cons_succ]
  refine wpAnyH_ready (rs := [5]) (by kernel_rfl) (by simp) ?_
  refine AllReadyH.cons (o := _) rfl (fun K hK => ?_) AllReadyH.nil
  go_simp
  ((go_at_call 34; refine (suOwn_any 100 (by omega) e _ A1 d1 _ HN.out (tr _ A1)).mono ?_; rintro e21 w21 ⟨A21, c21, rfl, hf, hb⟩; haveI : Bel _ w21 := ⟨hb⟩; haveI := Fs.of hf; clear hf hb))
  go_wp2_with fail
  refine hK.out _ _ ?hSn1_11 (fun hHeld => ?hRn1_11)
  case hSn1_11 => ((try dsimp only); exact ⟨has1, Q0 _ inferInstance, Q1 _ inferInstance, Q2 _ inferInstance⟩)
  clear hK K
  try simp only [Act.put, List.getElem_toArray, List.getElem_cons_zero, List.getElem_cons_succ, List.setIfInBounds_toArray, List.set_cons_zero, List.set_cons_succ]
  refine wpAnyH_ready (rs := [11]) (by kernel_rfl) (by simp) ?_
  refine AllReadyH.cons (o := _) rfl (fun K hK => ?_) AllReadyH.nil
  go_simp
  refine hK.out _ _ ?hSn1_12 (fun hHeld => ?hRn1_12)
  case hSn1_12 => ((try dsimp only); exact ⟨has1, Q0 _ inferInstance, Q1 _ inferInstance, Q2 _ inferInstance⟩)
  clear hK K
  try simp only [Act.put, List.getElem_toArray, List.getElem_cons_zero, List.getElem_cons_succ, List.setIfInBounds_toArray, List.set_cons_zero, List.set_cons_succ]
  refine wpAnyH_ready (rs := [12]) (by kernel_rfl) (by simp) ?_
  refine AllReadyH.cons (o := _) rfl (fun K hK => ?_) AllReadyH.nil
  go_simp
  refine hK.out _ _ ?hSn1_13 (fun hHeld => ?hRn1_13)
  case hSn1_13 => ((try dsimp only); exact ⟨has1, Q0 _ inferInstance, Q1 _ inferInstance, Q2 _ inferInstance⟩)
  clear hK K
  try simp only [Act.put, List.getElem_toArray, List.getElem_cons_zero, List.getElem_cons_succ, List.setIfInBounds_toArray, List.set_cons_zero, List.set_cons_succ]
  refine wpAnyH_take (i := 13) (oi := _) (v := ?vn1_14) rfl (by kernel_rfl) (by kernel_rfl) (by kernel_rfl) (fun _ _ _ h => h) (Or.inl ⟨by rfl, ?hyn1_14⟩) (by assumption) ?hRn1_14
  case hyn1_14 => (intro w hSw; (try dsimp only at hSw); go_simp; (try with_reducible rfl))
  try simp only [Act.put, List.getElem_toArray, List.getElem_cons_zero, List.getElem_cons_succ, List.setIfInBounds_toArray, List.set_cons_zero, List.set_cons_succ]
  refine wpAnyH_done (by kernel_rfl) ?_ _
  go_wp2
  refine bodyPost_ret (v := .tuple #[.agg #[.slice A21 e.len c21], .agg #[.int .i64 n, .int .i64 d], .bool true]) (by simp [results, Try.results11, go_sem]) rfl ?_
  exact ⟨A21, c21, rfl, fs _ A21 w, ext _ _⟩


/-- no first term -/
def RetNoLead (w : World) (e : Ending) (w' : World) : Prop := e = .returned (.tuple #[.agg #[.slice none 0 0], .agg #[.int .i64 0, .int .i64 0], .bool false]) ∧ Below w.heap.size w w'
set_option maxHeartbeats 1600000 in
set_option maxRecDepth 100000 in
theorem LeadingOf_bad (x : Sur) (X : Nat → Prop) (A : Option Addr) (c : Nat) (w : World) (sx : SSl X w x A c) (gx : sGood x = false) :
    Calls Try.prog 10 #[.agg #[.slice A x.len c]] w (RetNoLead w) := by
  haveI ix := Tr.arg sx
  clear sx
  go_enter Try.func10, Try.ntmps10
  go_wp2_with (first | ((with_reducible refine at_dst (N := 1) rfl ?_); refine ev_box (cs := #[.slice A x.len c]) (t := 26) rfl ?hr1 ?_; (case hr1 => first | (go_simp; done) | (go_simp; rfl)); intro g1 v1 _ _ _ _) | ((with_reducible refine at_dst (N := 2) rfl ?_); refine ev_box (cs := #[.slice none 0 0]) (t := 26) rfl ?hr2 ?_; (case hr2 => first | (go_simp; done) | (go_simp; rfl)); intro g2 v2 _ _ _ _) | ((with_reducible refine at_dst (N := 3) rfl ?_); refine ev_box (cs := #[.int .i64 0, .int .i64 0]) (t := 29) rfl ?hr3 ?_; (case hr3 => first | (go_simp; done) | (go_simp; rfl)); intro g3 v3 _ _ _ _) | (go_at_call 29; refine (IsSurreal_any x _ A c _ (tr _ A)).mono ?_; rintro e5 w5 ⟨he, hb⟩; rw [gx] at he; subst he; haveI : Bel _ w5 := ⟨hb⟩; clear hb))
  refine bodyPost_ret (v := .tuple #[.agg #[.slice none 0 0], .agg #[.int .i64 0, .int .i64 0], .bool false]) (by simp [results, Try.results10, go_sem]) rfl ?_
  exact ⟨rfl, ext _ _⟩
set_option maxHeartbeats 1600000 in
set_option maxRecDepth 100000 in
theorem sLeadingOf_bad (x : Sur) (X : Nat → Prop) (A : Option Addr) (c : Nat) (w : World) (sx : SSl X w x A c) (gx : sGood x = false) :
    Calls Try.prog 11 #[.agg #[.slice A x.len c]] w (RetNoLead w) := by
  haveI ix := Tr.arg sx
  clear sx
  go_enter Try.func11, Try.ntmps11
  go_wp2_with (first | ((with_reducible refine at_dst (N := 1) rfl ?_); refine ev_box (cs := #[.slice A x.len c]) (t := 26) rfl ?hr1 ?_; (case hr1 => first | (go_simp; done) | (go_simp; rfl)); intro g1 v1 _ _ _ _) | ((with_reducible refine at_dst (N := 2) rfl ?_); refine ev_box (cs := #[.slice none 0 0]) (t := 26) rfl ?hr2 ?_; (case hr2 => first | (go_simp; done) | (go_simp; rfl)); intro g2 v2 _ _ _ _) | ((with_reducible refine at_dst (N := 3) rfl ?_); refine ev_box (cs := #[.int .i64 0, .int .i64 0]) (t := 29) rfl ?hr3 ?_; (case hr3 => first | (go_simp; done) | (go_simp; rfl)); intro g3 v3 _ _ _ _) | (go_at_call 32; refine (suGood_any x _ A c _ (tr _ A)).mono ?_; rintro e5 w5 ⟨he, hb⟩; rw [gx] at he; subst he; haveI : Bel _ w5 := ⟨hb⟩; clear hb))
  refine bodyPost_ret (v := .tuple #[.agg #[.slice none 0 0], .agg #[.int .i64 0, .int .i64 0], .bool false]) (by simp [results, Try.results11, go_sem]) rfl ?_
  exact ⟨rfl, ext _ _⟩
set_option maxHeartbeats 1600000 in
set_option maxRecDepth 100000 in
theorem LeadingOf_nil (X : Nat → Prop) (A : Option Addr) (c : Nat) (w : World) (sx : SSl X w .nil A c) :
    Calls Try.prog 10 #[.agg #[.slice A 0 c]] w (RetNoLead w) := by
  haveI ix : Tr w A (XV w X) .nil c := Tr.arg sx
  clear sx
  have gx : sGood .nil = true := by decide
  go_enter Try.func10, Try.ntmps10
  go_wp2_with (first | ((with_reducible refine at_dst (N := 1) rfl ?_); refine ev_box (cs := #[.slice A 0 c]) (t := 26) rfl ?hr1 ?_; (case hr1 => first | (go_simp; done) | (go_simp; rfl)); intro g1 v1 _ _ _ _) | ((with_reducible refine at_dst (N := 2) rfl ?_); refine ev_box (cs := #[.slice none 0 0]) (t := 26) rfl ?hr2 ?_; (case hr2 => first | (go_simp; done) | (go_simp; rfl)); intro g2 v2 _ _ _ _) | ((with_reducible refine at_dst (N := 3) rfl ?_); refine ev_box (cs := #[.int .i64 0, .int .i64 0]) (t := 29) rfl ?hr3 ?_; (case hr3 => first | (go_simp; done) | (go_simp; rfl)); intro g3 v3 _ _ _ _) | (go_at_call 29; refine (IsSurreal_any .nil _ A c _ (tr _ A)).mono ?_; rintro e5 w5 ⟨he, hb⟩; rw [gx] at he; subst he; haveI : Bel _ w5 := ⟨hb⟩; clear hb))
  refine bodyPost_ret (v := .tuple #[.agg #[.slice none 0 0], .agg #[.int .i64 0, .int .i64 0], .bool false]) (by simp [results, Try.results10, go_sem]) rfl ?_
  exact ⟨rfl, ext _ _⟩
set_option maxHeartbeats 1600000 in
set_option maxRecDepth 100000 in
theorem sLeadingOf_nil (X : Nat → Prop) (A : Option Addr) (c : Nat) (w : World) (sx : SSl X w .nil A c) :
    Calls Try.prog 11 #[.agg #[.slice A 0 c]] w (RetNoLead w) := by
  haveI ix : Tr w A (XV w X) .nil c := Tr.arg sx
  clear sx
  have gx : sGood .nil = true := by decide
  go_enter Try.func11, Try.ntmps11
  go_wp2_with (first | ((with_reducible refine at_dst (N := 1) rfl ?_); refine ev_box (cs := #[.slice A 0 c]) (t := 26) rfl ?hr1 ?_; (case hr1 => first | (go_simp; done) | (go_simp; rfl)); intro g1 v1 _ _ _ _) | ((with_reducible refine at_dst (N := 2) rfl ?_); refine ev_box (cs := #[.slice none 0 0]) (t := 26) rfl ?hr2 ?_; (case hr2 => first | (go_simp; done) | (go_simp; rfl)); intro g2 v2 _ _ _ _) | ((with_reducible refine at_dst (N := 3) rfl ?_); refine ev_box (cs := #[.int .i64 0, .int .i64 0]) (t := 29) rfl ?hr3 ?_; (case hr3 => first | (go_simp; done) | (go_simp; rfl)); intro g3 v3 _ _ _ _) | (go_at_call 32; refine (suGood_any .nil _ A c _ (tr _ A)).mono ?_; rintro e5 w5 ⟨he, hb⟩; rw [gx] at he; subst he; haveI : Bel _ w5 := ⟨hb⟩; clear hb) | (go_at_call 35; refine (suZero_any .nil A c _).mono ?_; rintro e10 w10 ⟨rfl, hb⟩; haveI : Bel _ w10 := ⟨hb⟩; clear hb))
  refine bodyPost_ret (v := .tuple #[.agg #[.slice none 0 0], .agg #[.int .i64 0, .int .i64 0], .bool false]) (by simp [results, Try.results11, go_sem]) rfl ?_
  exact ⟨rfl, ext _ _⟩
set_option maxHeartbeats 1600000 in
set_option maxRecDepth 100000 in
theorem LeadingOf_cons (e r : Sur) (n d : Int) (X : Nat → Prop) (A : Option Addr) (c : Nat) (w : World) (sx : SSl X w (.cons e n d r) A c) (gx : sGood (.cons e n d r) = true) :
    Calls Try.prog 10 #[.agg #[.slice A (r.len + 1) c]] w fun ex w' => ∃ A' c', ex = .returned (.tuple #[.agg #[.slice A' e.len c'], .agg #[.int .i64 n, .int .i64 d], .bool true]) ∧ SFresh w.heap.size w' e A' c' ∧ Below w.heap.size w w' := by
  haveI ix : Tr w A (XV w XN) (.cons e n d r) c := Tr.arg (sx.more (Y := XN) (fun _ h => h.elim))
  have lx := sx.cap
  have lx' := sx.le
  unfold maxLen at lx
  simp only [Sur.len] at lx'
  obtain ⟨b, o, e1, n1, dd1, A1, d1, rfl, hxk, q0, q1, q2, se, _, _, _, hbl⟩ := sx.at_ (k := 0) (by simp [Sur.len])
  simp only [Sur.drop] at hxk
  injection hxk with h1 h2 h3
  subst h1 h2 h3
  simp only [Nat.zero_mul, Nat.add_zero] at q0 q1 q2
  haveI := Tr.arg se
  clear se sx
  have HN : Hid (e.nodes ≤ 100) := by
    have := (sGood_len gx).2.1
    simp only [Sur.nodes] at this
    show _ ≤ _
    omega
  have Q0 : ∀ W, Ext w W → W.cell? ⟨b, o, none⟩ = some (.slice A1 e.len d1) := fun W h => ((h.h).cell hbl).trans q0
  have Q1 : ∀ W, Ext w W → W.cell? ⟨b, o + 1, none⟩ = some (.int .i64 n) := fun W h => ((h.h).cell hbl).trans q1
  have Q2 : ∀ W, Ext w W → W.cell? ⟨b, o + 2, none⟩ = some (.int .i64 d) := fun W h => ((h.h).cell hbl).trans q2
  have hl0 : ((r.len : Int) + 1 == 0) = false := by simp; omega
  generalize hA : some (⟨b, o, none⟩ : Addr) = A at *
  go_enter Try.func10, Try.ntmps10
  go_wp2_with (first | ((with_reducible refine at_dst (N := 1) rfl ?_); refine ev_box (cs := #[.slice A (r.len + 1) c]) (t := 26) rfl ?hr1 ?_; (case hr1 => first | (go_simp; done) | (go_simp; rfl)); intro g1 v1 _ _ _ _) | ((with_reducible refine at_dst (N := 2) rfl ?_); refine ev_box (cs := #[.slice none 0 0]) (t := 26) rfl ?hr2 ?_; (case hr2 => first | (go_simp; done) | (go_simp; rfl)); intro g2 v2 _ _ _ _) | ((with_reducible refine at_dst (N := 3) rfl ?_); refine ev_box (cs := #[.int .i64 0, .int .i64 0]) (t := 29) rfl ?hr3 ?_; (case hr3 => first | (go_simp; done) | (go_simp; rfl)); intro g3 v3 _ _ _ _) | (go_at_call 29; refine (IsSurreal_any (.cons e n d r) _ A c _ (tr _ A)).mono ?_; rintro e5 w5 ⟨he, hb⟩; rw [gx] at he; subst he; haveI : Bel _ w5 := ⟨hb⟩; clear hb))
  subst hA
  refine wp_region_held_drew (S := (fun w' => w'.cell? ⟨g1, 0, none⟩ = some (.slice (some ⟨b, o, none⟩) (r.len + 1) c) ∧ w'.cell? ⟨b, o, none⟩ = some (.slice A1 e.len d1) ∧ w'.cell? ⟨b, o + 1, none⟩ = some (.int .i64 n) ∧ w'.cell? ⟨b, o + 2, none⟩ = some (.int .i64 d))) (by kernel_rfl) ?hSn2_ (fun hHeld => ?hRn2_)
  case hSn2_ => (exact ⟨has1, Q0 _ inferInstance, Q1 _ inferInstance, Q2 _ inferInstance⟩)
  refine wpAnyH_take (i := 0) (oi := _) (v := ?vn2_1) rfl (by kernel_rfl) (by kernel_rfl) (by kernel_rfl) (fun _ _ _ h => h) (Or.inl ⟨by rfl, ?hyn2_1⟩) (by assumption) ?hRn2_1
  case hyn2_1 => (intro w hSw; (try dsimp only at hSw); go_simp; (try with_reducible rfl))
  try simp only [Act.put, List.getElem_toArray, List.getElem_cons_zero, List.getElem_cons_succ, List.setIfInBounds_toArray, List.set_cons_zero, List.set_cons_succ]
  refine wpAnyH_take (i := 1) (oi := _) (v := ?vn2_2) rfl (by kernel_rfl) (by kernel_rfl) (by kernel_rfl) (fun _ _ _ h => h) (Or.inl ⟨by rfl, ?hyn2_2⟩) (by assumption) ?hRn2_2
  case hyn2_2 => (intro w hSw; (try dsimp only at hSw); go_simp; (try with_reducible rfl))
  try simp only [Act.put, List.getElem_toArray, List.getElem_cons_zero, List.getElem_cons_succ, List.setIfInBounds_toArray, List.set_cons_zero, List.set_cons_succ]
  refine wpAnyH_take (i := 2) (oi := _) (v := ?vn2_3) rfl (by kernel_rfl) (by kernel_rfl) (by kernel_rfl) (fun _ _ _ h => h) (Or.inl ⟨by rfl, ?hyn2_3⟩) (by assumption) ?hRn2_3
  case hyn2_3 => (intro w hSw; (try dsimp only at hSw); go_simp; (try with_reducible rfl))
  try simp only [Act.put, List.getElem_toArray, List.getElem_cons_zero, List.getElem_cons_succ, List.setIfInBounds_toArray, List.set_cons_zero, List.set_cons_succ]
  refine wpAnyH_take (i := 3) (oi := _) (v := ?vn2_4) rfl (by kernel_rfl) (by kernel_rfl) (by kernel_rfl) (fun _ _ _ h => h) (Or.inl ⟨by rfl, ?hyn2_4⟩) (by assumption) ?hRn2_4
  case hyn2_4 => (intro w hSw; (try dsimp only at hSw); go_simp; (try with_reducible rfl))
  try simp only [Act.put, List.getElem_toArray, List.getElem_cons_zero, List.getElem_cons_succ, List.setIfInBounds_toArray, List.set_cons_zero, List.set_cons_succ]
  refine wpAnyH_take (i := 4) (oi := _) (v := ?vn2_5) rfl (by kernel_rfl) (by kernel_rfl) (by kernel_rfl) (fun _ _ _ h => h) (Or.inl ⟨by rfl, ?hyn2_5⟩) (by assumption) ?hRn2_5
  case hyn2_5 => (intro w hSw; (try dsimp only at hSw); go_simp; (try with_reducible rfl))
  try simp only [Act.put, List.getElem_toArray, List.getElem_cons_zero, List.getElem_cons_succ, List.setIfInBounds_toArray, List.set_cons_zero, List.set_cons_succ]
  refine wpAnyH_take (i := 6) (oi := _) (v := ?vn2_6) rfl (by kernel_rfl) (by kernel_rfl) (by kernel_rfl) (fun _ _ _ h => h) (Or.inl ⟨by rfl, ?hyn2_6⟩) (by assumption) ?hRn2_6
  case hyn2_6 => (intro w hSw; (try dsimp only at hSw); go_simp; (try with_reducible rfl))
  try simp only [Act.put, List.getElem_toArray, List.getElem_cons_zero, List.getElem_cons_succ, List.setIfInBounds_toArray, List.set_cons_zero, List.set_cons_succ]
  refine wpAnyH_take (i := 7) (oi := _) (v := ?vn2_7) rfl (by kernel_rfl) (by kernel_rfl) (by kernel_rfl) (fun _ _ _ h => h) (Or.inl ⟨by rfl, ?hyn2_7⟩) (by assumption) ?hRn2_7
  case hyn2_7 => (intro w hSw; (try dsimp only at hSw); go_simp; (try with_reducible rfl))
  try simp only [Act.put, List.getElem_toArray, List.getElem_cons_zero, List.getElem_cons_succ, List.setIfInBounds_toArray, List.set_cons_zero, List.set_cons_succ]
  refine wpAnyH_take (i := 8) (oi := _) (v := ?vn2_8) rfl (by kernel_rfl) (by kernel_rfl) (by kernel_rfl) (fun _ _ _ h => h) (Or.inl ⟨by rfl, ?hyn2_8⟩) (by assumption) ?hRn2_8
  case hyn2_8 => (intro w hSw; (try dsimp only at hSw); go_simp; (try with_reducible rfl))
  try simp only [Act.put, List.getElem_toArray, List.getElem_cons_zero, List.getElem_cons_succ, List.setIfInBounds_toArray, List.set_cons_zero, List.set_cons_succ]
  refine wpAnyH_take (i := 9) (oi := _) (v := ?vn2_9) rfl (by kernel_rfl) (by kernel_rfl) (by kernel_rfl) (fun _ _ _ h => h) (Or.inl ⟨by rfl, ?hyn2_9⟩) (by assumption) ?hRn2_9
  case hyn2_9 => (intro w hSw; (try dsimp only at hSw); go_simp; (try with_reducible rfl))
  try simp only [Act.put, List.getElem_toArray, List.getElem_cons_zero, List.getElem_cons_succ, List.setIfInBounds_toArray, List.set_cons_zero, List.set_cons_succ]
  refine wpAnyH_take (i := 10) (oi := _) (v := ?vn2_10) rfl (by kernel_rfl) (by kernel_rfl) (by kernel_rfl) (fun _ _ _ h => h) (Or.inl ⟨by rfl, ?hyn2_10⟩) (by assumption) ?hRn2_10
  case hyn2_10 => (intro w hSw; (try dsimp only at hSw); go_simp; (try with_reducible rfl))
  try simp only [Act.put, List.getElem_toArray, List.getElem_cons_zero, List.getElem_cons_succ, List.setIfInBounds_toArray, List.set_cons_zero, List.set_cons_succ]
  refine wpAnyH_ready (rs := [5]) (by kernel_rfl) (by simp) ?_
  refine AllReadyH.cons (o := _) rfl (fun K hK => ?_) AllReadyH.nil
  go_simp
  ((go_at_call 31; refine (clone_any 100 (by omega) e _ A1 d1 _ HN.out (tr _ A1)).mono ?_; rintro e21 w21 ⟨A21, c21, rfl, hf, hb⟩; haveI : Bel _ w21 := ⟨hb⟩; haveI := Fs.of hf; clear hf hb))
  go_wp2_with fail
  refine hK.out _ _ ?hSn2_11 (fun hHeld => ?hRn2_11)
  case hSn2_11 => ((try dsimp only); exact ⟨has1, Q0 _ inferInstance, Q1 _ inferInstance, Q2 _ inferInstance⟩)
  clear hK K
  try simp only [Act.put, List.getElem_toArray, List.getElem_cons_zero, List.getElem_cons_succ, List.setIfInBounds_toArray, List.set_cons_zero, List.set_cons_succ]
  refine wpAnyH_ready (rs := [11]) (by kernel_rfl) (by simp) ?_
  refine AllReadyH.cons (o := _) rfl (fun K hK => ?_) AllReadyH.nil
  go_simp
  refine hK.out _ _ ?hSn2_12 (fun hHeld => ?hRn2_12)
  case hSn2_12 => ((try dsimp only); exact ⟨has1, Q0 _ inferInstance, Q1 _ inferInstance, Q2 _ inferInstance⟩)
  clear hK K
  try simp only [Act.put, List.getElem_toArray, List.getElem_cons_zero, List.getElem_cons_succ, List.setIfInBounds_toArray, List.set_cons_zero, List.set_cons_succ]
  refine wpAnyH_ready (rs := [12]) (by kernel_rfl) (by simp) ?_
  refine AllReadyH.cons (o := _) rfl (fun K hK => ?_) AllReadyH.nil
  go_simp
  refine hK.out _ _ ?hSn2_13 (fun hHeld => ?hRn2_13)
  case hSn2_13 => ((try dsimp only); exact ⟨has1, Q0 _ inferInstance, Q1 _ inferInstance, Q2 _ inferInstance⟩)
  clear hK K
  try simp only [Act.put, List.getElem_toArray, List.getElem_cons_zero, List.getElem_cons_succ, List.setIfInBounds_toArray, List.set_cons_zero, List.set_cons_succ]
  refine wpAnyH_take (i := 13) (oi := _) (v := ?vn2_14) rfl (by kernel_rfl) (by kernel_rfl) (by kernel_rfl) (fun _ _ _ h => h) (Or.inl ⟨by rfl, ?hyn2_14⟩) (by assumption) ?hRn2_14
  case hyn2_14 => (intro w hSw; (try dsimp only at hSw); go_simp; (try with_reducible rfl))
  try simp only [Act.put, List.getElem_toArray, List.getElem_cons_zero, List.getElem_cons_succ, List.setIfInBounds_toArray, List.set_cons_zero, List.set_cons_succ]
  refine wpAnyH_done (by kernel_rfl) ?_ _
  go_wp2
  refine bodyPost_ret (v := .tuple #[.agg #[.slice A21 e.len c21], .agg #[.int .i64 n, .int .i64 d], .bool true]) (by simp [results, Try.results10, go_sem]) rfl ?_
  exact ⟨A21, c21, rfl, fs _ A21 w, ext _ _⟩

/-- the first term: its exponent, its coefficient, whether there is one -/
def ldE : Sur → Sur
  | .nil => .nil
  | .cons e n d r => if sGood (.cons e n d r) = true then e else .nil
def ldC : Sur → Int × Int
  | .nil => (0, 0)
  | .cons e n d r => if sGood (.cons e n d r) = true then (n, d) else (0, 0)
def ldB (x : Sur) : Bool := sGood x && !decide (x.len = 0)
def RetLd (w : World) (x : Sur) (e : Ending) (w' : World) : Prop :=
  ∃ A c, e = .returned (.tuple #[.agg #[.slice A (ldE x).len c], .agg #[.int .i64 (ldC x).1, .int .i64 (ldC x).2], .bool (ldB x)]) ∧ SFresh w.heap.size w' (ldE x) A c ∧ Below w.heap.size w w'
theorem retLd_no {w w' : World} {x : Sur} {e : Ending} (h : RetNoLead w e w') (h1 : ldE x = .nil) (h2 : ldC x = (0, 0)) (h3 : ldB x = false) : RetLd w x e w' := by
  unfold RetLd
  rw [h1, h2, h3]
  exact ⟨none, 0, h.1, SFresh.nil _ _, h.2⟩
theorem LeadingOf_any (x : Sur) (X : Nat → Prop) (A : Option Addr) (c : Nat) (w : World) (sx : SSl X w x A c) :
    Calls Try.prog 10 #[.agg #[.slice A x.len c]] w (RetLd w x) := by
  cases x with
  | nil => exact (LeadingOf_nil X A c w sx).mono fun e w' h => retLd_no h rfl rfl rfl
  | cons e n d r =>
    cases gx : sGood (.cons e n d r)
    · exact (LeadingOf_bad _ X A c w sx gx).mono fun e w' h => retLd_no h (by simp [ldE, gx]) (by simp [ldC, gx]) (by simp [ldB, gx])
    · refine (LeadingOf_cons e r n d X A c w sx gx).mono fun ex w' h => ?_
      have h1 : ldE (.cons e n d r) = e := by simp [ldE, gx]
      have h2 : ldC (.cons e n d r) = (n, d) := by simp [ldC, gx]
      have h3 : ldB (.cons e n d r) = true := by simp [ldB, gx, Sur.len]
      unfold RetLd
      rw [h1, h2, h3]
      exact h
theorem sLeadingOf_any (x : Sur) (X : Nat → Prop) (A : Option Addr) (c : Nat) (w : World) (sx : SSl X w x A c) :
    Calls Try.prog 11 #[.agg #[.slice A x.len c]] w (RetLd w x) := by
  cases x with
  | nil => exact (sLeadingOf_nil X A c w sx).mono fun e w' h => retLd_no h rfl rfl rfl
  | cons e n d r =>
    cases gx : sGood (.cons e n d r)
    · exact (sLeadingOf_bad _ X A c w sx gx).mono fun e w' h => retLd_no h (by simp [ldE, gx]) (by simp [ldC, gx]) (by simp [ldB, gx])
    · refine (sLeadingOf_cons e r n d X A c w sx gx).mono fun ex w' h => ?_
      have h1 : ldE (.cons e n d r) = e := by simp [ldE, gx]
      have h2 : ldC (.cons e n d r) = (n, d) := by simp [ldC, gx]
      have h3 : ldB (.cons e n d r) = true := by simp [ldB, gx, Sur.len]
      unfold RetLd
      rw [h1, h2, h3]
      exact h
end Go.Proofs.Ytphabopnbcgodaa
