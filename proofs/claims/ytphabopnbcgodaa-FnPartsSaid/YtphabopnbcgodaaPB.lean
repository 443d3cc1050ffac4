/-
  Walks, the reference's side: the parts of a number, each in a row of its own.
  Walks, the reference's side: the greatest omnific integer below a number.
  Walks: IntegerPart, the program's and the reference's.
-/
import Derived.Test.YtphabopnbcgodaaPA
import Derived.Test.YtphabopnbcgodaaSOwn
import Derived.Test.YtphabopnbcgodaaSPut
import Derived.Deep.DeepCutAuto
import Derived.Test.YtphabopnbcgodaaWSumZ
namespace Go.Proofs.Ytphabopnbcgodaa
open Go.RowKit
set_option linter.unusedSimpArgs false
set_option linter.unusedVariables false

/-- the three parts in rows of their own, their exponents shared -/
def RetPartsO (X : Nat → Prop) (w : World) (h : Sur) (a : Int × Int) (l : Sur) (e : Ending) (w' : World) : Prop :=
  ∃ A c A' c' xh xl, e = .returned (.tuple #[.agg #[.slice A h.len c], .agg #[.int .i64 a.1, .int .i64 a.2], .agg #[.slice A' l.len c']]) ∧ w'.ownsRow w.heap.size 58 3 (.slice A h.len c) h.len xh ∧ TRow (XV w X) w' h xh ∧ w'.ownsRow w.heap.size 58 3 (.slice A' l.len c') l.len xl ∧ TRow (XV w X) w' l xl ∧ Below w.heap.size w w'
theorem partsO {X : Nat → Prop} (w W : World) {h l : Sur} {a : Int × Int} (A : Option Addr) (c : Nat) (A' : Option Addr) (c' : Nat) {lo lo' : World} (xh xl : List Value) [o : Own W (.slice A h.len c) lo 58 3 h.len xh] [o' : Own W (.slice A' l.len c') lo' 58 3 l.len xl] [t : TR W (XV w X) h xh] [t' : TR W (XV w X) l xl] [b : LeB w lo] [b' : LeB w lo'] [e : Ext w W] :
    RetPartsO X w h a l (.returned (.tuple #[.agg #[.slice A h.len c], .agg #[.int .i64 a.1, .int .i64 a.2], .agg #[.slice A' l.len c']])) W :=
  ⟨A, c, A', c', xh, xl, rfl, own_lower o.h b.h, t.h, own_lower o'.h b'.h, t'.h, e.h⟩
attribute [local go_sem high] has_cell has_frozen
set_option synthInstance.maxHeartbeats 2000000 in
set_option synthInstance.maxSize 4000 in
set_option maxHeartbeats 3200000 in
set_option maxRecDepth 100000 in
theorem suParts_own (x : Sur) (X : Nat → Prop) (A : Option Addr) (c : Nat) (w : World) (sx : SSl X w x A c) (hl : x.len ≤ 1000000000) :
    Calls Try.prog 33 #[.agg #[.slice A x.len c]] w (RetPartsO X w (highP x) (realP (0, 1) x) (lowP x)) := by
  have lx := sx.cap
  have lx' := sx.le
  unfold maxLen at lx
  haveI ix := Tr.arg sx
  clear sx
  go_enter Try.func33, Try.ntmps33
  go_wp2_with (first | ((with_reducible refine at_dst (N := 1) rfl ?_); refine ev_box (cs := #[.slice A x.len c]) (t := 26) rfl ?hr1 ?_; (case hr1 => first | (go_simp; done) | (go_simp; rfl)); intro g1 v1 _ _ _ _) | ((with_reducible refine at_dst (N := 2) rfl ?_); refine ev_box (cs := #[.slice none 0 0]) (t := 26) rfl ?hr2 ?_; (case hr2 => first | (go_simp; done) | (go_simp; rfl)); intro g2 v2 _ _ _ _) | ((with_reducible refine at_dst (N := 3) rfl ?_); refine ev_box (cs := #[.int .i64 0, .int .i64 0]) (t := 29) rfl ?hr3 ?_; (case hr3 => first | (go_simp; done) | (go_simp; rfl)); intro g3 v3 _ _ _ _) | ((with_reducible refine at_dst (N := 4) rfl ?_); refine ev_box (cs := #[.slice none 0 0]) (t := 26) rfl ?hr4 ?_; (case hr4 => first | (go_simp; done) | (go_simp; rfl)); intro g4 v4 _ _ _ _) | ((with_reducible refine at_dst (N := 5) rfl ?_); refine ev_box (cs := #[.slice none 0 0]) (t := 26) rfl ?hr5 ?_; (case hr5 => first | (go_simp; done) | (go_simp; rfl)); intro g5 v5 _ _ _ _) | ((with_reducible refine at_dst (N := 6) rfl ?_); refine ev_box (cs := #[.slice none 0 0]) (t := 26) rfl ?hr6 ?_; (case hr6 => first | (go_simp; done) | (go_simp; rfl)); intro g6 v6 _ _ _ _) | (go_at_call 74; refine (shInt_any _ _).mono ?_; rintro e11 w11 ⟨rfl, hb⟩; haveI : Bel _ w11 := ⟨hb⟩; clear hb) | ((with_reducible refine at_dst (N := 7) rfl ?_); refine ev_box (cs := #[.int .i64 0, .int .i64 0]) (t := 29) rfl ?hr7 ?_; (case hr7 => first | (go_simp; done) | (go_simp; rfl)); intro g7 v7 _ _ _ _))
  go_loopw [15] (fun s wr => ∃ (i : Nat) (vh vl : Value) (xh xl : List Value), s = .int .i64 i ∧ i ≤ x.len ∧ Has wr g5 (.cells #[vh] 26 (0, 0)) ∧ Has wr g7 (.cells #[.int .i64 (realP (0, 1) (x.take i)).1, .int .i64 (realP (0, 1) (x.take i)).2] 29 (0, 0)) ∧ Has wr g6 (.cells #[vl] 26 (0, 0)) ∧
      Own wr vh v7 58 3 (highP (x.take i)).len xh ∧ Own wr vl v7 58 3 (lowP (x.take i)).len xl ∧ TR wr (XV w X) (highP (x.take i)) xh ∧ TR wr (XV w X) (lowP (x.take i)) xl ∧ NeOw vh vl ∧ NeOw vl vh ∧ Kp v7 (XU (XE g5) (XU (XE g6) (XE g7))) wr ∧ Tr wr A (XV w X) x c) (fun s _ => x.len - (intOf s).toNat)
  case atStart => exact ⟨0, .slice none 0 0, .slice none 0 0, [], [], rfl, Nat.zero_le _, inferInstance, inferInstance, inferInstance, Own.nil _ _ _ _, Own.nil _ _ _ _, TR.nil _ _, TR.nil _ _, NeOw.nil _, NeOw.nil _, kp _ _ _, inferInstance⟩
  case round =>
    obtain ⟨i, vh, vl, xh, xl, rfl, hi, _, _, _, _, _, _, _, _, _, _, ix4⟩ := hrel
    clear ix
    haveI := Own.rg wr vh
    haveI := Own.rg wr vl
    have hi0' : (0 : Int) ≤ (i : Int) := by omega
    have hlh : (highP (x.take i)).len ≤ 1099511627776 := by have := highP_len (x.take i); rw [Sur.len_take x i hi] at this; omega
    have hll : (lowP (x.take i)).len ≤ 1099511627776 := by have := lowP_len (x.take i); rw [Sur.len_take x i hi] at this; omega
    by_cases h1 : i < x.len
    · obtain ⟨b, o, e, n, d, A1, d1, rfl, hxk, f0, f1, f2, se, in_, id_, hXb, hbl⟩ := ix4.h.at_ h1
      haveI : Tr wr A1 _ e d1 := ⟨se⟩
      have HH := Lib.hid (highP_step hxk)
      have HLo := Lib.hid (lowP_step hxk)
      have HR := Lib.hid (realP_step (a := (0, 1)) hxk)
      clear hxk se
      have h1' : (i : Int) < (x.len : Int) := by omega
      rcases order_range e .nil with q | q | q
      · have E1 := Lib.hid (show highP (x.take (i + 1)) = highP (x.take i) by rw [HH.out, q]; rfl)
        have E2 := Lib.hid (show lowP (x.take (i + 1)) = (lowP (x.take i)).app (.cons e n d .nil) by rw [HLo.out, q]; rfl)
        have E3 := Lib.hid (show realP (0, 1) (x.take (i + 1)) = realP (0, 1) (x.take i) by rw [HR.out, q]; rfl)
        go_wp2_with (first | ((with_reducible refine at_dst (N := 9) rfl ?_); refine ev_box (cs := #[.slice none 0 0, .int .i64 0, .int .i64 0]) (t := 58) rfl ?hr9 ?_; (case hr9 => first | (go_simp; done) | (go_simp; rfl)); intro g9 v9 _ _ _ _) | (go_at_call 81; refine (suSign_any e _ A1 d1 _ (tr _ A1)).mono ?_; rintro e23 w23 ⟨he, hb⟩; rw [q] at he; subst he; haveI : Bel _ w23 := ⟨hb⟩; clear hb) | ((with_reducible refine at_dst (N := 40) rfl ?_); refine ev_sl (cs := #[.slice A1 e.len d1, .int .i64 n, .int .i64 d]) (t := 58) rfl ?hr40 ?_; (case hr40 => first | (go_simp; done) | (go_simp; rfl)); intro g40 v40 _ _ _ _) | (at_builtin; (with_reducible refine at_dst (N := 41) rfl ?_); go_must (refine ap_list (v := vl) rfl _ _ _ rfl rfl rfl rfl (by simp [Value.oneCell']) (by omega) ?_); intro gg cap wa _ _ _ hat _))
        haveI := NeOw.step (n := (lowP (x.take i)).len + 1) (cap := cap) (v := vl) (v' := vh) (W := v40) (lo := v7) (r := OwR.mono (W := wr)) hat
        haveI := (inferInstance : NeOw (.slice (some ⟨gg, 0, none⟩) ((lowP (x.take i)).len + 1) cap) vh).symm
        exact ⟨⟨i + 1, _, _, _, _, by go_num, by omega, inferInstance, by rw [E3.out]; infer_instance, inferInstance, by rw [E1.out]; infer_instance, by rw [E2.out]; exact Own.snoc inferInstance, by rw [E1.out]; infer_instance, by rw [E2.out]; exact TR.snoc (tr _ A1) in_ id_, inferInstance, inferInstance, kp _ _ _, inferInstance⟩, by simp [intOf]; omega⟩
      · have E1 := Lib.hid (show highP (x.take (i + 1)) = highP (x.take i) by rw [HH.out, q]; rfl)
        have E2 := Lib.hid (show lowP (x.take (i + 1)) = lowP (x.take i) by rw [HLo.out, q]; rfl)
        have E3 := Lib.hid (show realP (0, 1) (x.take (i + 1)) = (n, d) by rw [HR.out, q]; rfl)
        go_wp2_with (first | ((with_reducible refine at_dst (N := 9) rfl ?_); refine ev_box (cs := #[.slice none 0 0, .int .i64 0, .int .i64 0]) (t := 58) rfl ?hr9 ?_; (case hr9 => first | (go_simp; done) | (go_simp; rfl)); intro g9 v9 _ _ _ _) | (go_at_call 81; refine (suSign_any e _ A1 d1 _ (tr _ A1)).mono ?_; rintro e23 w23 ⟨he, hb⟩; rw [q] at he; subst he; haveI : Bel _ w23 := ⟨hb⟩; clear hb))
        exact ⟨⟨i + 1, _, _, _, _, by go_num, by omega, inferInstance, by rw [E3.out]; infer_instance, inferInstance, by rw [E1.out]; infer_instance, by rw [E2.out]; infer_instance, by rw [E1.out]; infer_instance, by rw [E2.out]; infer_instance, inferInstance, inferInstance, kp _ _ _, inferInstance⟩, by simp [intOf]; omega⟩
      · have E1 := Lib.hid (show highP (x.take (i + 1)) = (highP (x.take i)).app (.cons e n d .nil) by rw [HH.out, q]; rfl)
        have E2 := Lib.hid (show lowP (x.take (i + 1)) = lowP (x.take i) by rw [HLo.out, q]; rfl)
        have E3 := Lib.hid (show realP (0, 1) (x.take (i + 1)) = realP (0, 1) (x.take i) by rw [HR.out, q]; rfl)
        go_wp2_with (first | ((with_reducible refine at_dst (N := 9) rfl ?_); refine ev_box (cs := #[.slice none 0 0, .int .i64 0, .int .i64 0]) (t := 58) rfl ?hr9 ?_; (case hr9 => first | (go_simp; done) | (go_simp; rfl)); intro g9 v9 _ _ _ _) | (go_at_call 81; refine (suSign_any e _ A1 d1 _ (tr _ A1)).mono ?_; rintro e23 w23 ⟨he, hb⟩; rw [q] at he; subst he; haveI : Bel _ w23 := ⟨hb⟩; clear hb) | ((with_reducible refine at_dst (N := 31) rfl ?_); refine ev_sl (cs := #[.slice A1 e.len d1, .int .i64 n, .int .i64 d]) (t := 58) rfl ?hr31 ?_; (case hr31 => first | (go_simp; done) | (go_simp; rfl)); intro g31 v31 _ _ _ _) | (at_builtin; (with_reducible refine at_dst (N := 32) rfl ?_); go_must (refine ap_list (v := vh) rfl _ _ _ rfl rfl rfl rfl (by simp [Value.oneCell']) (by omega) ?_); intro gg cap wa _ _ _ hat _))
        haveI := NeOw.step (n := (highP (x.take i)).len + 1) (cap := cap) (v := vh) (v' := vl) (W := v31) (lo := v7) (r := OwR.mono (W := wr)) hat
        haveI := (inferInstance : NeOw (.slice (some ⟨gg, 0, none⟩) ((highP (x.take i)).len + 1) cap) vl).symm
        exact ⟨⟨i + 1, _, _, _, _, by go_num, by omega, inferInstance, by rw [E3.out]; infer_instance, inferInstance, by rw [E1.out]; exact Own.snoc inferInstance, by rw [E2.out]; infer_instance, by rw [E1.out]; exact TR.snoc (tr _ A1) in_ id_, by rw [E2.out]; infer_instance, inferInstance, inferInstance, kp _ _ _, inferInstance⟩, by simp [intOf]; omega⟩
    · obtain rfl : i = x.len := by omega
      obtain ⟨Ah, ch, rfl⟩ := own_slice (inferInstance : Own wr vh v7 _ 3 _ xh).h
      obtain ⟨Al, cl, rfl⟩ := own_slice (inferInstance : Own wr vl v7 _ 3 _ xl).h
      simp only [x.take_len] at *
      go_wp2
      refine wp_region_held_drew (S := (fun w' => w'.cell? ⟨g5, 0, none⟩ = some (.slice Ah (highP x).len ch) ∧ w'.cell? ⟨g7, 0, none⟩ = some (.int .i64 (realP (0, 1) x).1) ∧ w'.cell? ⟨g7, 1, none⟩ = some (.int .i64 (realP (0, 1) x).2) ∧ w'.cell? ⟨g6, 0, none⟩ = some (.slice Al (lowP x).len cl))) (by kernel_rfl) ?hSn1_ (fun hHeld => ?hRn1_)
      case hSn1_ => (exact ⟨has1, has2.1, has2.2, has1⟩)
      refine wpAnyH_take (i := 0) (oi := _) (v := ?vn1_1) rfl (by kernel_rfl) (by kernel_rfl) (by kernel_rfl) (fun _ _ _ h => h) (Or.inl ⟨by rfl, ?hyn1_1⟩) (by assumption) ?hRn1_1
      case hyn1_1 => (intro w hSw; (try dsimp only at hSw); go_simp; (try with_reducible rfl))
      try simp only [Act.put, List.getElem_toArray, List.getElem_cons_zero, List.getElem_cons_succ, List.setIfInBounds_toArray, List.set_cons_zero, List.set_cons_succ]
      refine wpAnyH_take (i := 1) (oi := _) (v := ?vn1_2) rfl (by kernel_rfl) (by kernel_rfl) (by kernel_rfl) (fun _ _ _ h => h) (Or.inl ⟨by rfl, ?hyn1_2⟩) (by assumption) ?hRn1_2
      case hyn1_2 => (intro w hSw; (try dsimp only at hSw); go_simp; (try with_reducible rfl))
      try simp only [Act.put, List.getElem_toArray, List.getElem_cons_zero, List.getElem_cons_succ, List.setIfInBounds_toArray, List.set_cons_zero, List.set_cons_succ]
      refine wpAnyH_take (i := 2) (oi := _) (v := ?vn1_3) rfl (by kernel_rfl) (by kernel_rfl) (by kernel_rfl) (fun _ _ _ h => h) (Or.inl ⟨by rfl, ?hyn1_3⟩) (by assumption) ?hRn1_3
      case hyn1_3 => (intro w hSw; (try dsimp only at hSw); go_simp; (try with_reducible rfl))
      try simp only [Act.put, List.getElem_toArray, List.getElem_cons_zero, List.getElem_cons_succ, List.setIfInBounds_toArray, List.set_cons_zero, List.set_cons_succ]
      refine wpAnyH_ready (rs := [3]) (by kernel_rfl) (by simp) ?_
      refine AllReadyH.cons (o := _) rfl (fun K hK => ?_) AllReadyH.nil
      go_simp
      refine hK.out _ _ ?hSn1_4 (fun hHeld => ?hRn1_4)
      case hSn1_4 => ((try dsimp only); exact ⟨has1, has2.1, has2.2, has1⟩)
      clear hK K
      try simp only [Act.put, List.getElem_toArray, List.getElem_cons_zero, List.getElem_cons_succ, List.setIfInBounds_toArray, List.set_cons_zero, List.set_cons_succ]
      refine wpAnyH_ready (rs := [4]) (by kernel_rfl) (by simp) ?_
      refine AllReadyH.cons (o := _) rfl (fun K hK => ?_) AllReadyH.nil
      go_simp
      refine hK.out _ _ ?hSn1_5 (fun hHeld => ?hRn1_5)
      case hSn1_5 => ((try dsimp only); exact ⟨has1, has2.1, has2.2, has1⟩)
      clear hK K
      try simp only [Act.put, List.getElem_toArray, List.getElem_cons_zero, List.getElem_cons_succ, List.setIfInBounds_toArray, List.set_cons_zero, List.set_cons_succ]
      refine wpAnyH_ready (rs := [5]) (by kernel_rfl) (by simp) ?_
      refine AllReadyH.cons (o := _) rfl (fun K hK => ?_) AllReadyH.nil
      go_simp
      refine hK.out _ _ ?hSn1_6 (fun hHeld => ?hRn1_6)
      case hSn1_6 => ((try dsimp only); exact ⟨has1, has2.1, has2.2, has1⟩)
      clear hK K
      try simp only [Act.put, List.getElem_toArray, List.getElem_cons_zero, List.getElem_cons_succ, List.setIfInBounds_toArray, List.set_cons_zero, List.set_cons_succ]
      refine wpAnyH_done (by kernel_rfl) ?_ _
      go_wp2
      refine bodyPost_ret (v := .tuple #[.agg #[.slice Ah (highP x).len ch], .agg #[.int .i64 (realP (0, 1) x).1, .int .i64 (realP (0, 1) x).2], .agg #[.slice Al (lowP x).len cl]]) (by simp [results, Try.results33, go_sem]) rfl ?_
      exact partsO _ _ Ah ch Al cl _ _
end Go.Proofs.Ytphabopnbcgodaa

namespace Go.Proofs.Ytphabopnbcgodaa
open Go.RowKit
set_option linter.unusedSimpArgs false
set_option linter.unusedVariables false

theorem realP_ok : ∀ {x : Sur} {a : Int × Int}, x.All FOk → FOk a.1 a.2 → FOk (realP a x).1 (realP a x).2
  | .nil, _, _, h => h
  | .cons e n d r, a, hx, h => by
    simp only [realP]
    split
    · exact realP_ok hx.2.2 hx.2.1
    · exact realP_ok hx.2.2 h
/-- the whole part's number -/
def wholeN (x : Sur) : Int := if (realP (0, 1) x).2 = 1 ∧ order (lowP x) .nil < 0 then flr (realP (0, 1) x).1 (realP (0, 1) x).2 - 1 else flr (realP (0, 1) x).1 (realP (0, 1) x).2
def wholeS (x : Sur) : Sur := (highP x).app (termP .nil (wholeN x) 1)
section
variable {ops : Array Oper} {o : Oper} {a : Act} {Q : Exit → Act → World → Prop} {K : Act → World → Prop} {Z : Prop}
/-- some elements more behind a row of one's own, out of any slice -/
theorem ap_stepG {W : World} (hgd : o.guard = none) (s x : Operand) (t : TypeId) (ho : o.op = .call { callee := .builtin .append, args := #[s, x], argTypes := #[t, t] })
    {E : TypeId} {m bytes n : Nat} [el : Elem t E m bytes] {v : Value} {lo : World} {xs : List Value} [ow : Own W v lo E m n xs] (hs : a.eval s = v) {ad : Addr} {k c : Nat} (hx : a.eval x = .slice (some ad) k c) {cs : List Value} (hb : ∀ j u, cs[j]? = some u → W.cell? (ad.add j) = some u)
    (hl : cs.length = k * m) (h1 : ∀ u ∈ cs, u.oneCell' = true) (hk : 0 < k) (hn : n + k ≤ 1099511627776) [hlo : LeB lo W]
    (h : ∀ g cap w', Own w' (.slice (some ⟨g, 0, none⟩) (n + k) cap) lo E m (n + k) (xs ++ cs) → Kp W (XOw v) w' → OwR (.slice (some ⟨g, 0, none⟩) (n + k) cap) lo w' → K (a.put o.dst (.slice (some ⟨g, 0, none⟩) (n + k) cap)) w') : if Region.wanted o (yielded ops a.tmps) = true then Oper.wp Try.prog o a W K Q else Z := by
  obtain ⟨i, z, e1, e2, e3, e4, e5⟩ := el.hi
  refine step_append_lies W hgd s x t ho lo.heap.size E i z m bytes el.ht e1 e2 e3 e4 e5 el.hm v n xs hs ow.h ad k c cs hx hl hb h1 hk (by unfold maxLen; omega) (by have := Nat.mul_le_mul_left (n + k) el.hb; omega) hlo.h _ rfl ?_
  intro g cap w' hown hgrow hat hlt
  exact h g cap w' ⟨hown⟩ ⟨KpP.grown hgrow⟩ ⟨fun k hk => hown.lt k hk⟩
end

theorem SSl.nilX {X Y : Nat → Prop} {w w' : World} {A : Option Addr} {c : Nat} (h : SSl X w .nil A c) : SSl Y w' .nil A c := by
  obtain ⟨h1, h2, h3⟩ := h
  refine ⟨h1, h2, ?_⟩
  cases A with
  | none => exact h3
  | some a => exact ⟨h3.1, trivial⟩
attribute [local go_sem high] has_cell has_frozen
set_option maxHeartbeats 800000 in
theorem suReal_zero (w : World) : Calls Try.prog 94 #[.agg #[.int .i64 0, .int .i64 1]] w fun e w' => e = .returned (.agg #[.slice none 0 0]) ∧ Below w.heap.size w w' := by
  go_enter Try.func94, Try.ntmps94
  go_wp2_with (first | ((with_reducible refine at_dst (N := 1) rfl ?_); refine ev_box (cs := #[.int .i64 0, .int .i64 1]) (t := 29) rfl ?hr1 ?_; (case hr1 => first | (go_simp; done) | (go_simp; rfl)); intro g1 v1 _ _ _ _) | ((with_reducible refine at_dst (N := 2) rfl ?_); refine ev_box (cs := #[.slice none 0 0]) (t := 26) rfl ?hr2 ?_; (case hr2 => first | (go_simp; done) | (go_simp; rfl)); intro g2 v2 _ _ _ _) | (go_at_call 76; refine (suTerm_zero .nil 0 1 none 0 _ rfl).mono ?_; rintro e5 w5 ⟨rfl, hb⟩; haveI : Bel _ w5 := ⟨hb⟩; clear hb))
  refine bodyPost_ret (v := .agg #[.slice none 0 0]) (by simp [results, Try.results94, go_sem]) rfl ?_
  exact ⟨rfl, ext w _⟩
set_option maxHeartbeats 800000 in
theorem suInt_zero (w : World) : Calls Try.prog 56 #[.int .i64 0] w fun e w' => e = .returned (.agg #[.slice none 0 0]) ∧ Below w.heap.size w w' := by
  go_enter Try.func56, Try.ntmps56
  go_wp2_with (first | ((with_reducible refine at_dst (N := 2) rfl ?_); refine ev_box (cs := #[.slice none 0 0]) (t := 26) rfl ?hr2 ?_; (case hr2 => first | (go_simp; done) | (go_simp; rfl)); intro g2 v2 _ _ _ _) | (go_at_call 74; refine (shInt_any _ _).mono ?_; rintro e4 w4 ⟨rfl, hb⟩; haveI : Bel _ w4 := ⟨hb⟩; clear hb) | (go_at_call 94; refine (suReal_zero _).mono ?_; rintro e5 w5 ⟨rfl, hb⟩; haveI : Bel _ w5 := ⟨hb⟩; clear hb))
  refine bodyPost_ret (v := .agg #[.slice none 0 0]) (by simp [results, Try.results56, go_sem]) rfl ?_
  exact ⟨rfl, ext w _⟩
set_option synthInstance.maxHeartbeats 2000000 in
set_option synthInstance.maxSize 4000 in
set_option maxHeartbeats 3200000 in
set_option maxRecDepth 100000 in
theorem suWhole_any (x : Sur) (X : Nat → Prop) (A : Option Addr) (c : Nat) (w : World) (sx : SSl X w x A c) (gx : sGood x = true) :
    Calls Try.prog 43 #[.agg #[.slice A x.len c]] w (RetS XN w (wholeS x)) := by
  haveI ix := Tr.arg (sx.more (Y := XN) (fun _ h => h.elim))
  clear sx
  have HB : Hid (x.len ≤ 1000000000 ∧ FOk (realP (0, 1) x).1 (realP (0, 1) x).2) := ⟨by have := (sGood_len gx).1; omega, realP_ok (sGood_len gx).2.2 (show fracOk 0 1 = true by decide)⟩
  have HN : Hid (wholeN x = if (realP (0, 1) x).2 = 1 ∧ order (lowP x) .nil < 0 then flr (realP (0, 1) x).1 (realP (0, 1) x).2 - 1 else flr (realP (0, 1) x).1 (realP (0, 1) x).2) := rfl
  have hfb := flr_spec HB.out.2
  have hwf : IntKind.i64.wrap (flr (realP (0, 1) x).1 (realP (0, 1) x).2 - 1) = flr (realP (0, 1) x).1 (realP (0, 1) x).2 - 1 := IntWalk.i64_in _ (by omega)
  clear hfb
  obtain ⟨i0, hi0, iz0, iz1, iz2⟩ := info_parts infoST
  go_enter Try.func43, Try.ntmps43
  go_upto_region 3 with (first | ((with_reducible refine at_dst (N := 1) rfl ?_); refine ev_box (cs := #[.slice A x.len c]) (t := 26) rfl ?hr1 ?_; (case hr1 => first | (go_simp; done) | (go_simp; rfl)); intro g1 v1 _ _ _ _) | ((with_reducible refine at_dst (N := 2) rfl ?_); refine ev_box (cs := #[.slice none 0 0]) (t := 26) rfl ?hr2 ?_; (case hr2 => first | (go_simp; done) | (go_simp; rfl)); intro g2 v2 _ _ _ _) | (go_at_call 33; refine (suParts_own x (XV w XN) A c _ (trx (XV w XN) _ A) HB.out.1).mono ?_; rintro e9 w9 ⟨Ah, ch, Al, cl, xh, xl, rfl, h1, h2, h3, h4, hb⟩; haveI : Bel _ w9 := ⟨hb⟩; haveI := Own.of h1; haveI := Own.rg w9 (.slice Ah (highP x).len ch); haveI := TR.of h2; haveI := Own.of h3; haveI := Own.rg w9 (.slice Al (lowP x).len cl); haveI := TR.of h4; clear h1 h2 h3 h4 hb) | ((with_reducible refine at_dst (N := 3) rfl ?_); refine ev_box (cs := #[.slice none 0 0]) (t := 26) rfl ?hr3 ?_; (case hr3 => first | (go_simp; done) | (go_simp; rfl)); intro g3 v3 _ _ _ _) | ((with_reducible refine at_dst (N := 4) rfl ?_); refine ev_box (cs := #[.int .i64 0, .int .i64 0]) (t := 29) rfl ?hr4 ?_; (case hr4 => first | (go_simp; done) | (go_simp; rfl)); intro g4 v4 _ _ _ _) | ((with_reducible refine at_dst (N := 5) rfl ?_); refine ev_box (cs := #[.slice none 0 0]) (t := 26) rfl ?hr5 ?_; (case hr5 => first | (go_simp; done) | (go_simp; rfl)); intro g5 v5 _ _ _ _) | (go_at_call 85; refine (shFloor_any _ _ _ HB.out.2).mono ?_; rintro e14 w14 ⟨rfl, hb⟩; haveI : Bel _ w14 := ⟨hb⟩; clear hb))
  go_cut [23] (fun s23 wx => s23 = .bool (decide ((realP (0, 1) x).2 = 1 ∧ order (lowP x) .nil < 0)) ∧ Bel w14 wx)
  case first =>
    by_cases hd : (realP (0, 1) x).2 = 1
    · have hds : ((realP (0, 1) x).2 == 1) = true := by simpa using hd
      have E := Lib.hid (show decide ((realP (0, 1) x).2 = 1 ∧ order (lowP x) .nil < 0) = decide (order (lowP x) .nil < 0) by simp [hd])
      clear hd
      go_wp2_with ((go_at_call 81; refine (suSign_any (lowP x) XN Al cl _ (sl_own XN _ Al cl (lowP x))).mono ?_; rintro e21 w21 ⟨rfl, hb⟩; haveI : Bel _ w21 := ⟨hb⟩; clear hb))
      go_meet
      exact ⟨by rw [E.out], ⟨ext _ _⟩⟩
    · have hds : ((realP (0, 1) x).2 == 1) = false := by simpa using hd
      have E := Lib.hid (show decide ((realP (0, 1) x).2 = 1 ∧ order (lowP x) .nil < 0) = false by simp [hd])
      clear hd
      go_wp2_with ((go_at_call 81; refine (suSign_any (lowP x) XN Al cl _ (sl_own XN _ Al cl (lowP x))).mono ?_; rintro e21 w21 ⟨rfl, hb⟩; haveI : Bel _ w21 := ⟨hb⟩; clear hb))
      go_meet
      exact ⟨by rw [E.out], ⟨ext _ _⟩⟩
  case rest =>
    rename World => wx
    obtain ⟨rfl, _⟩ := hcut
    go_upto_if 23 with fail
    go_cut [6] (fun s6 wy => s6 = .int .i64 (wholeN x) ∧ Bel wx wy)
    case first =>
      by_cases hq : (realP (0, 1) x).2 = 1 ∧ order (lowP x) .nil < 0
      · have E := Lib.hid (HN.out.trans (if_pos hq))
        rw [show decide ((realP (0, 1) x).2 = 1 ∧ order (lowP x) .nil < 0) = true from decide_eq_true hq]
        clear hq
        go_wp2
        go_meet
        exact ⟨by rw [E.out], ⟨ext _ _⟩⟩
      · have E := Lib.hid (HN.out.trans (if_neg hq))
        rw [show decide ((realP (0, 1) x).2 = 1 ∧ order (lowP x) .nil < 0) = false from decide_eq_false hq]
        clear hq
        go_wp2
        go_meet
        exact ⟨by rw [E.out], ⟨ext _ _⟩⟩
    case rest =>
      rename World => wy
      obtain ⟨rfl, hby⟩ := hcut
      haveI : Bel wx wy := hby
      have hlh : (highP x).len ≤ 1000000000 := Nat.le_trans (highP_len x) HB.out.1
      have hiw : I64 (wholeN x) := by
        have h1 := flr_spec HB.out.2
        have h2 := HN.out
        unfold I64
        rw [h2]
        split <;> omega
      go_wp2
      by_cases hn : wholeN x = 0
      · have EW := Lib.hid (show wholeS x = highP x by unfold wholeS; rw [hn]; simp [termP, Sur.app_nil])
        have hfd : ∀ (A : Option Addr) (n c : Nat) (w : World), (Instr.field 26 (.agg #[.slice A n c]) 0).run Try.prog w = .ok (.slice A n c) w := fun _ _ _ _ => by kernel_rfl
        rw [hn]
        clear hn
        refine wp_region_held_drew (S := (fun w' => w'.cell? ⟨g3, 0, none⟩ = some (.slice Ah (highP x).len ch))) (by kernel_rfl) ?hSn1_ (fun hHeld => ?hRn1_)
        case hSn1_ => (exact has1)
        refine wpAnyH_take (i := 0) (oi := _) (v := ?vn1_1) rfl (by kernel_rfl) (by kernel_rfl) (by kernel_rfl) (fun _ _ _ h => h) (Or.inl ⟨by rfl, ?hyn1_1⟩) (by assumption) ?hRn1_1
        case hyn1_1 => (intro w hSw; (try dsimp only at hSw); go_simp; (try with_reducible rfl))
        try simp only [Act.put, List.getElem_toArray, List.getElem_cons_zero, List.getElem_cons_succ, List.setIfInBounds_toArray, List.set_cons_zero, List.set_cons_succ]
        refine wpAnyH_take (i := 1) (oi := _) (v := ?vn1_2) rfl (by kernel_rfl) (by kernel_rfl) (by kernel_rfl) (fun _ _ _ h => h) (Or.inl ⟨by rfl, ?hyn1_2⟩) (by assumption) ?hRn1_2
        case hyn1_2 => (intro w hSw; (try dsimp only at hSw); go_simp; (try with_reducible rfl))
        try simp only [Act.put, List.getElem_toArray, List.getElem_cons_zero, List.getElem_cons_succ, List.setIfInBounds_toArray, List.set_cons_zero, List.set_cons_succ]
        refine wpAnyH_take (i := 2) (oi := _) (v := ?vn1_3) rfl (by kernel_rfl) (by kernel_rfl) (by kernel_rfl) (fun _ _ _ h => h) (Or.inl ⟨by rfl, ?hyn1_3⟩) (by assumption) ?hRn1_3
        case hyn1_3 => (intro w hSw; (try dsimp only at hSw); go_simp; (try with_reducible rfl))
        try simp only [Act.put, List.getElem_toArray, List.getElem_cons_zero, List.getElem_cons_succ, List.setIfInBounds_toArray, List.set_cons_zero, List.set_cons_succ]
        refine wpAnyH_ready (rs := [3]) (by kernel_rfl) (by simp) ?_
        refine AllReadyH.cons (o := _) rfl (fun K hK => ?_) AllReadyH.nil
        go_simp
        ((go_at_call 56; refine (suInt_zero _).mono ?_; rintro e29 w29 ⟨rfl, hb⟩; haveI : Bel _ w29 := ⟨hb⟩; clear hb))
        go_wp2_with fail
        refine hK.out _ _ ?hSn1_4 (fun hHeld => ?hRn1_4)
        case hSn1_4 => ((try dsimp only); exact has1)
        clear hK K
        try simp only [Act.put, List.getElem_toArray, List.getElem_cons_zero, List.getElem_cons_succ, List.setIfInBounds_toArray, List.set_cons_zero, List.set_cons_succ]
        refine wpAnyH_take (i := 4) (oi := _) (v := ?vn1_5) rfl (by kernel_rfl) (by kernel_rfl) (by kernel_rfl) (fun _ _ _ h => h) (Or.inl ⟨by rfl, ?hyn1_5⟩) (by assumption) ?hRn1_5
        case hyn1_5 => (intro w hSw; (try dsimp only at hSw); go_simp; (try with_reducible rfl))
        try simp only [Act.put, List.getElem_toArray, List.getElem_cons_zero, List.getElem_cons_succ, List.setIfInBounds_toArray, List.set_cons_zero, List.set_cons_succ]
        refine wpAnyH_ready (rs := [5]) (by kernel_rfl) (by simp) ?_
        refine AllReadyH.cons (o := _) rfl (fun K hK => ?_) AllReadyH.nil
        (refine step_append_none (by rfl) _ _ _ (by rfl) _ 58 _ 3 Try.underlying24 hi0 (.slice Ah (highP x).len ch) (highP x).len xh (by rfl) (inferInstance : Own _ (.slice Ah (highP x).len ch) _ 58 3 (highP x).len xh).h (by rfl) ?_)
        refine hK.out _ _ ?hSn1_6 (fun hHeld => ?hRn1_6)
        case hSn1_6 => ((try dsimp only); exact has1)
        clear hK K
        try simp only [Act.put, List.getElem_toArray, List.getElem_cons_zero, List.getElem_cons_succ, List.setIfInBounds_toArray, List.set_cons_zero, List.set_cons_succ]
        refine wpAnyH_take (i := 6) (oi := _) (v := ?vn1_7) rfl (by kernel_rfl) (by kernel_rfl) (by kernel_rfl) (fun _ _ _ h => h) (Or.inl ⟨by rfl, ?hyn1_7⟩) (by assumption) ?hRn1_7
        case hyn1_7 => (intro w hSw; (try dsimp only at hSw); go_simp; (try with_reducible rfl))
        try simp only [Act.put, List.getElem_toArray, List.getElem_cons_zero, List.getElem_cons_succ, List.setIfInBounds_toArray, List.set_cons_zero, List.set_cons_succ]
        refine wpAnyH_ready (rs := [7]) (by kernel_rfl) (by simp) ?_
        refine AllReadyH.cons (o := _) rfl (fun K hK => ?_) AllReadyH.nil
        go_simp
        refine hK.out _ _ ?hSn1_8 (fun hHeld => ?hRn1_8)
        case hSn1_8 => ((try dsimp only); exact has1)
        clear hK K
        try simp only [Act.put, List.getElem_toArray, List.getElem_cons_zero, List.getElem_cons_succ, List.setIfInBounds_toArray, List.set_cons_zero, List.set_cons_succ]
        refine wpAnyH_done (by kernel_rfl) ?_ _
        go_wp2
        refine bodyPost_ret (v := .agg #[.slice Ah (highP x).len ch]) (by simp [results, Try.results43, go_sem]) rfl ?_
        rw [EW.out]
        exact ⟨Ah, ch, rfl, sl_own XN _ Ah ch (highP x), ext w _⟩
      · have E := Lib.hid (show termP .nil (wholeN x) 1 = .cons .nil (wholeN x) 1 .nil by simp [termP, hn])
        have EW := Lib.hid (show wholeS x = (highP x).app (.cons .nil (wholeN x) 1 .nil) by unfold wholeS; rw [E.out])
        have hfd : ∀ (A : Option Addr) (n c : Nat) (w : World), (Instr.field 26 (.agg #[.slice A n c]) 0).run Try.prog w = .ok (.slice A n c) w := fun _ _ _ _ => by kernel_rfl
        clear hn
        refine wp_region_held_drew (S := (fun w' => w'.cell? ⟨g3, 0, none⟩ = some (.slice Ah (highP x).len ch))) (by kernel_rfl) ?hSn2_ (fun hHeld => ?hRn2_)
        case hSn2_ => (exact has1)
        refine wpAnyH_take (i := 0) (oi := _) (v := ?vn2_1) rfl (by kernel_rfl) (by kernel_rfl) (by kernel_rfl) (fun _ _ _ h => h) (Or.inl ⟨by rfl, ?hyn2_1⟩) (by assumption) ?hRn2_1
        case hyn2_1 => (intro w hSw; (try dsimp only at hSw); go_simp; (try with_reducible rfl))
        try simp only [Act.put, List.getElem_toArray, List.getElem_cons_zero, List.getElem_cons_succ, List.setIfInBounds_toArray, List.set_cons_zero, List.set_cons_succ]
        refine wpAnyH_take (i := 1) (oi := _) (v := ?vn2_2) rfl (by kernel_rfl) (by kernel_rfl) (by kernel_rfl) (fun _ _ _ h => h) (Or.inl ⟨by rfl, ?hyn2_2⟩) (by assumption) ?hRn2_2
        case hyn2_2 => (intro w hSw; (try dsimp only at hSw); go_simp; (try with_reducible rfl))
        try simp only [Act.put, List.getElem_toArray, List.getElem_cons_zero, List.getElem_cons_succ, List.setIfInBounds_toArray, List.set_cons_zero, List.set_cons_succ]
        refine wpAnyH_take (i := 2) (oi := _) (v := ?vn2_3) rfl (by kernel_rfl) (by kernel_rfl) (by kernel_rfl) (fun _ _ _ h => h) (Or.inl ⟨by rfl, ?hyn2_3⟩) (by assumption) ?hRn2_3
        case hyn2_3 => (intro w hSw; (try dsimp only at hSw); go_simp; (try with_reducible rfl))
        try simp only [Act.put, List.getElem_toArray, List.getElem_cons_zero, List.getElem_cons_succ, List.setIfInBounds_toArray, List.set_cons_zero, List.set_cons_succ]
        refine wpAnyH_ready (rs := [3]) (by kernel_rfl) (by simp) ?_
        refine AllReadyH.cons (o := _) rfl (fun K hK => ?_) AllReadyH.nil
        go_simp
        ((go_at_call 56; refine (suInt_any (wholeN x) XN _ (xlt XN _) hiw).mono ?_; rintro e29 w29 ⟨A29, c29, he, hs, hb⟩; rw [E.out] at he hs; subst he; obtain ⟨b, o, e1, n1, dd1, A1, d1, rfl, hxk, q0, q1, q2, se, _, _, _, hbl⟩ := hs.at_ (k := 0) (by simp [Sur.len]); simp only [Sur.drop] at hxk; injection hxk with k1 k2 k3; subst k1 k2 k3; simp only [Nat.zero_mul, Nat.add_zero] at q0 q1 q2; haveI : Bel _ w29 := ⟨hb⟩; haveI := Tr.arg hs; haveI := Tr.arg se; clear hb))
        go_wp2_with fail
        refine hK.out _ _ ?hSn2_4 (fun hHeld => ?hRn2_4)
        case hSn2_4 => ((try dsimp only); exact has1)
        clear hK K
        try simp only [Act.put, List.getElem_toArray, List.getElem_cons_zero, List.getElem_cons_succ, List.setIfInBounds_toArray, List.set_cons_zero, List.set_cons_succ]
        refine wpAnyH_take (i := 4) (oi := _) (v := ?vn2_5) rfl (by kernel_rfl) (by kernel_rfl) (by kernel_rfl) (fun _ _ _ h => h) (Or.inl ⟨by rfl, ?hyn2_5⟩) (by assumption) ?hRn2_5
        case hyn2_5 => (intro w hSw; (try dsimp only at hSw); go_simp; (try with_reducible rfl))
        try simp only [Act.put, List.getElem_toArray, List.getElem_cons_zero, List.getElem_cons_succ, List.setIfInBounds_toArray, List.set_cons_zero, List.set_cons_succ]
        refine wpAnyH_ready (rs := [5]) (by kernel_rfl) (by simp) ?_
        refine AllReadyH.cons (o := _) rfl (fun K hK => ?_) AllReadyH.nil
        (refine ap_stepG (v := .slice Ah (highP x).len ch) (ad := ⟨b, o, none⟩) (k := 1) (c := c29) (cs := [.slice A1 (Sur.nil).len d1, .int .i64 (wholeN x), .int .i64 1]) (by rfl) _ _ _ (by rfl) (by rfl) (by rfl) ?_ (by rfl) (by simp [Value.oneCell']) (by omega) (by omega) ?_; (focus (intro j u hj; rcases j with _|_|_|j <;> simp at hj <;> subst hj <;> simp [Addr.add] <;> assumption)); intro gg cap wa _ _ _)
        refine hK.out _ _ ?hSn2_6 (fun hHeld => ?hRn2_6)
        case hSn2_6 => ((try dsimp only); exact has1)
        clear hK K
        try simp only [Act.put, List.getElem_toArray, List.getElem_cons_zero, List.getElem_cons_succ, List.setIfInBounds_toArray, List.set_cons_zero, List.set_cons_succ]
        refine wpAnyH_take (i := 6) (oi := _) (v := ?vn2_7) rfl (by kernel_rfl) (by kernel_rfl) (by kernel_rfl) (fun _ _ _ h => h) (Or.inl ⟨by rfl, ?hyn2_7⟩) (by assumption) ?hRn2_7
        case hyn2_7 => (intro w hSw; (try dsimp only at hSw); go_simp; (try with_reducible rfl))
        try simp only [Act.put, List.getElem_toArray, List.getElem_cons_zero, List.getElem_cons_succ, List.setIfInBounds_toArray, List.set_cons_zero, List.set_cons_succ]
        refine wpAnyH_ready (rs := [7]) (by kernel_rfl) (by simp) ?_
        refine AllReadyH.cons (o := _) rfl (fun K hK => ?_) AllReadyH.nil
        go_simp
        refine hK.out _ _ ?hSn2_8 (fun hHeld => ?hRn2_8)
        case hSn2_8 => ((try dsimp only); exact has1)
        clear hK K
        try simp only [Act.put, List.getElem_toArray, List.getElem_cons_zero, List.getElem_cons_succ, List.setIfInBounds_toArray, List.set_cons_zero, List.set_cons_succ]
        refine wpAnyH_done (by kernel_rfl) ?_ _
        go_wp2
        refine bodyPost_ret (v := .agg #[.slice (some ⟨gg, 0, none⟩) ((highP x).len + 1) cap]) (by simp [results, Try.results43, go_sem]) rfl ?_
        rw [EW.out]
        haveI : Own wa (.slice (some ⟨gg, 0, none⟩) ((highP x).app (.cons .nil (wholeN x) 1 .nil)).len cap) _ 58 3 ((highP x).app (.cons .nil (wholeN x) 1 .nil)).len (xh ++ [.slice A1 (Sur.nil).len d1, .int .i64 (wholeN x), .int .i64 1]) := by rw [Sur.len_snoc]; infer_instance
        haveI : OwR (.slice (some ⟨gg, 0, none⟩) ((highP x).app (.cons .nil (wholeN x) 1 .nil)).len cap) _ wa := Own.rg wa _
        haveI : TR wa (XV v2 (XV w XN)) ((highP x).app (.cons .nil (wholeN x) 1 .nil)) (xh ++ [.slice A1 (Sur.nil).len d1, .int .i64 (wholeN x), .int .i64 1]) := TR.snoc (SSl.nilX (tr w29 A1)) hiw (by unfold I64; omega)
        exact ⟨some ⟨gg, 0, none⟩, cap, by rw [Sur.len_snoc], sl_own XN _ _ cap _, ext w _⟩
end Go.Proofs.Ytphabopnbcgodaa

namespace Go.Proofs.Ytphabopnbcgodaa
open Go.RowKit
set_option linter.unusedSimpArgs false
set_option linter.unusedVariables false

/-- IntegerPart -/
def intS (x : Sur) : Option Sur := told (wholeS x) (sGood x)
theorem sumP_highW (n : Int) : ∀ (x : Sur), sumP (highP x) (termP .nil n 1) = some ((highP x).app (termP .nil n 1)) := by
  intro x
  by_cases hn : n = 0
  · simp only [termP, if_pos hn, Sur.app_nil]
    cases highP x <;> simp [sumP]
  · simp only [termP, if_neg hn]
    induction x with
    | nil => simp [highP, sumP, Sur.app]
    | cons e n' d' r _ ih =>
      simp only [highP]
      split
      · rename_i q
        simp only [Sur.app]
        rw [sumP, if_pos q, ih]; rfl
      · exact ih
theorem highP_exF : ∀ {x : Sur}, x.All FOk → ExF (highP x)
  | .nil, _ => trivial
  | .cons e n d r, h => by
    simp only [highP]
    split
    · exact ⟨h.1, highP_exF h.2.2⟩
    · exact highP_exF h.2.2
theorem lowP_all : ∀ {x : Sur}, x.All FOk → (lowP x).All FOk
  | .nil, _ => trivial
  | .cons e n d r, h => by
    simp only [lowP]
    split
    · exact ⟨h.1, h.2.1, lowP_all h.2.2⟩
    · exact lowP_all h.2.2
theorem term_exF (n : Int) : ExF (termP .nil n 1) := by unfold termP; split <;> simp [ExF, Sur.All]
theorem term_len (n : Int) : (termP .nil n 1).len ≤ 1 := by unfold termP; split <;> simp [Sur.len]

attribute [local go_sem high] has_cell has_frozen
set_option maxHeartbeats 1600000 in
set_option maxRecDepth 100000 in
theorem sIntegerPart_any (x : Sur) (X : Nat → Prop) (A : Option Addr) (c : Nat) (w : World) (sx : SSl X w x A c) :
    Calls Try.prog 13 #[.agg #[.slice A x.len c]] w (RetFreshB w (intS x)) := by
  haveI ix := Tr.arg sx
  clear sx
  cases gx : sGood x
  · have H := Lib.hid (show intS x = none by simp [intS, told, gx])
    go_enter Try.func13, Try.ntmps13
    go_wp2_with (first | ((with_reducible refine at_dst (N := 1) rfl ?_); refine ev_box (cs := #[.slice A x.len c]) (t := 26) rfl ?hr1 ?_; (case hr1 => first | (go_simp; done) | (go_simp; rfl)); intro g1 v1 _ _ _ _) | ((with_reducible refine at_dst (N := 2) rfl ?_); refine ev_box (cs := #[.slice none 0 0]) (t := 26) rfl ?hr2 ?_; (case hr2 => first | (go_simp; done) | (go_simp; rfl)); intro g2 v2 _ _ _ _) | (go_at_call 32; refine (suGood_any x _ A c _ (tr _ A)).mono ?_; rintro e5 w5 ⟨he, hb⟩; rw [gx] at he; subst he; haveI : Bel _ w5 := ⟨hb⟩; clear hb))
    refine bodyPost_ret (v := .tuple #[.agg #[.slice none 0 0], .bool false]) (by simp [results, Try.results13, go_sem]) rfl ?_
    rw [H.out]
    exact ⟨none, 0, rfl, SFresh.nil _ _, ext w _⟩
  · have HG := Lib.hid gx
    have HE := Lib.hid (show told (wholeS x) true = intS x by unfold intS; rw [gx])
    go_enter Try.func13, Try.ntmps13
    go_wp2_with (first | ((with_reducible refine at_dst (N := 1) rfl ?_); refine ev_box (cs := #[.slice A x.len c]) (t := 26) rfl ?hr1 ?_; (case hr1 => first | (go_simp; done) | (go_simp; rfl)); intro g1 v1 _ _ _ _) | ((with_reducible refine at_dst (N := 2) rfl ?_); refine ev_box (cs := #[.slice none 0 0]) (t := 26) rfl ?hr2 ?_; (case hr2 => first | (go_simp; done) | (go_simp; rfl)); intro g2 v2 _ _ _ _) | (go_at_call 32; refine (suGood_any x _ A c _ (tr _ A)).mono ?_; rintro e5 w5 ⟨he, hb⟩; rw [gx] at he; subst he; haveI : Bel _ w5 := ⟨hb⟩; clear hb) | (go_at_call 43; refine (suWhole_any x _ A c _ (tr _ A) HG.out).mono ?_; rintro e9 w9 ⟨A9, c9, rfl, hs, hb⟩; haveI : Bel _ w9 := ⟨hb⟩; haveI := Tr.arg hs; clear hs hb) | (go_at_call 42; refine (suIf_any (wholeS x) _ A9 c9 _ (tr _ A9)).mono ?_; rintro e10 w10 ⟨A10, c10, he, hf, hb⟩; rw [HE.out] at he hf; subst he; haveI : Bel _ w10 := ⟨hb⟩; haveI := Fs.of hf; clear hf hb))
    refine bodyPost_ret (v := .tuple #[.agg #[.slice A10 ((intS x).getD .nil).len c10], .bool (intS x).isSome]) (by simp [results, Try.results13, go_sem]) rfl ?_
    exact ⟨A10, c10, rfl, fs _ A10 w, ext w _⟩

set_option synthInstance.maxHeartbeats 2000000 in
set_option synthInstance.maxSize 4000 in
set_option maxHeartbeats 3200000 in
set_option maxRecDepth 100000 in
theorem IntegerPart_any (x : Sur) (X : Nat → Prop) (A : Option Addr) (c : Nat) (w : World) (sx : SSl X w x A c) :
    Calls Try.prog 12 #[.agg #[.slice A x.len c]] w (RetFreshB w (intS x)) := by
  haveI ix := Tr.arg (sx.more (Y := XN) (fun _ h => h.elim))
  clear sx
  cases gx : sGood x
  · have H := Lib.hid (show intS x = none by simp [intS, told, gx])
    go_enter Try.func12, Try.ntmps12
    go_wp2_with (first | ((with_reducible refine at_dst (N := 1) rfl ?_); refine ev_box (cs := #[.slice A x.len c]) (t := 26) rfl ?hr1 ?_; (case hr1 => first | (go_simp; done) | (go_simp; rfl)); intro g1 v1 _ _ _ _) | ((with_reducible refine at_dst (N := 2) rfl ?_); refine ev_box (cs := #[.slice none 0 0]) (t := 26) rfl ?hr2 ?_; (case hr2 => first | (go_simp; done) | (go_simp; rfl)); intro g2 v2 _ _ _ _) | (go_at_call 29; refine (IsSurreal_any x _ A c _ (tr _ A)).mono ?_; rintro e5 w5 ⟨he, hb⟩; rw [gx] at he; subst he; haveI : Bel _ w5 := ⟨hb⟩; clear hb))
    refine bodyPost_ret (v := .tuple #[.agg #[.slice none 0 0], .bool false]) (by simp [results, Try.results12, go_sem]) rfl ?_
    rw [H.out]
    exact ⟨none, 0, rfl, SFresh.nil _ _, ext w _⟩
  · have HE := Lib.hid (show told (wholeS x) true = intS x by unfold intS; rw [gx])
    have hall := (sGood_len gx).2.2
    have HX := Lib.hid (highP_exF hall)
    have HB : Hid (x.len ≤ 1000000000 ∧ x.All Bd ∧ FOk (realP (0, 1) x).1 (realP (0, 1) x).2 ∧ (lowP x).All Bd) := ⟨by have := (sGood_len gx).1; omega, Sur.All.mono (fun _ _ h => FOk.bd h) x hall, realP_ok hall (show fracOk 0 1 = true by decide), Sur.All.mono (fun _ _ h => FOk.bd h) _ (lowP_all hall)⟩
    clear hall
    have HN : Hid (wholeN x = if (realP (0, 1) x).2 = 1 ∧ order (lowP x) .nil < 0 then flr (realP (0, 1) x).1 (realP (0, 1) x).2 - 1 else flr (realP (0, 1) x).1 (realP (0, 1) x).2) := rfl
    have hfb := flr_spec HB.out.2.2.1
    have hwf : IntKind.i64.wrap (flr (realP (0, 1) x).1 (realP (0, 1) x).2 - 1) = flr (realP (0, 1) x).1 (realP (0, 1) x).2 - 1 := IntWalk.i64_in _ (by omega)
    have hiw : I64 (wholeN x) := by
      have h2 := HN.out
      unfold I64
      rw [h2]
      split <;> omega
    have hls : (highP x).len + (termP .nil (wholeN x) 1).len ≤ 1099511627776 := by have := highP_len x; have := HB.out.1; have := term_len (wholeN x); omega
    clear hfb
    go_enter Try.func12, Try.ntmps12
    go_upto_region 5 with (first | ((with_reducible refine at_dst (N := 1) rfl ?_); refine ev_box (cs := #[.slice A x.len c]) (t := 26) rfl ?hr1 ?_; (case hr1 => first | (go_simp; done) | (go_simp; rfl)); intro g1 v1 _ _ _ _) | ((with_reducible refine at_dst (N := 2) rfl ?_); refine ev_box (cs := #[.slice none 0 0]) (t := 26) rfl ?hr2 ?_; (case hr2 => first | (go_simp; done) | (go_simp; rfl)); intro g2 v2 _ _ _ _) | (go_at_call 29; refine (IsSurreal_any x _ A c _ (tr _ A)).mono ?_; rintro e5 w5 ⟨he, hb⟩; rw [gx] at he; subst he; haveI : Bel _ w5 := ⟨hb⟩; clear hb) | (go_at_call 30; refine (parts_any x XN A c _ (xlt XN _) (trx XN _ A) HB.out.1 HB.out.2.1).mono ?_; rintro e14 w14 ⟨Ah, ch, Al, cl, rfl, hs, hs', hb⟩; haveI : Bel _ w14 := ⟨hb⟩; haveI := Tr.arg hs; haveI := Tr.arg hs'; clear hs hs' hb) | ((with_reducible refine at_dst (N := 4) rfl ?_); refine ev_box (cs := #[.slice none 0 0]) (t := 26) rfl ?hr4 ?_; (case hr4 => first | (go_simp; done) | (go_simp; rfl)); intro g4 v4 _ _ _ _) | ((with_reducible refine at_dst (N := 5) rfl ?_); refine ev_box (cs := #[.int .i64 0, .int .i64 0]) (t := 29) rfl ?hr5 ?_; (case hr5 => first | (go_simp; done) | (go_simp; rfl)); intro g5 v5 _ _ _ _) | ((with_reducible refine at_dst (N := 6) rfl ?_); refine ev_box (cs := #[.slice none 0 0]) (t := 26) rfl ?hr6 ?_; (case hr6 => first | (go_simp; done) | (go_simp; rfl)); intro g6 v6 _ _ _ _) | (go_at_call 36; refine (floor_any _ _ _ HB.out.2.2.1).mono ?_; rintro e19 w19 ⟨rfl, hb⟩; haveI : Bel _ w19 := ⟨hb⟩; clear hb))
    go_cut [28] (fun s28 wx => s28 = .bool (decide ((realP (0, 1) x).2 = 1 ∧ order (lowP x) .nil < 0)) ∧ Bel w19 wx)
    case first =>
      by_cases hd : (realP (0, 1) x).2 = 1
      · have hds : ((realP (0, 1) x).2 == 1) = true := by simpa using hd
        have E := Lib.hid (show decide ((realP (0, 1) x).2 = 1 ∧ order (lowP x) .nil < 0) = decide (order (lowP x) .nil < 0) by simp [hd])
        clear hd
        go_wp2_with ((go_at_call 37; refine (order_any _ (lowP x) .nil _ XN Al none cl 0 _ (Nat.le_refl _) HB.out.2.2.2 (by exact trivial) (tr _ Al) (SSl.nil _ _)).mono ?_; rintro e26 w26 ⟨rfl, hb⟩; haveI : Bel _ w26 := ⟨hb⟩; clear hb))
        go_meet
        exact ⟨by rw [E.out], ⟨ext _ _⟩⟩
      · have hds : ((realP (0, 1) x).2 == 1) = false := by simpa using hd
        have E := Lib.hid (show decide ((realP (0, 1) x).2 = 1 ∧ order (lowP x) .nil < 0) = false by simp [hd])
        clear hd
        go_wp2_with ((go_at_call 37; refine (order_any _ (lowP x) .nil _ XN Al none cl 0 _ (Nat.le_refl _) HB.out.2.2.2 (by exact trivial) (tr _ Al) (SSl.nil _ _)).mono ?_; rintro e26 w26 ⟨rfl, hb⟩; haveI : Bel _ w26 := ⟨hb⟩; clear hb))
        go_meet
        exact ⟨by rw [E.out], ⟨ext _ _⟩⟩
    case rest =>
      rename World => wx
      obtain ⟨rfl, _⟩ := hcut
      go_upto_if 28 with fail
      go_cut [7] (fun s7 wy => s7 = .int .i64 (wholeN x) ∧ Bel wx wy)
      case first =>
        by_cases hq : (realP (0, 1) x).2 = 1 ∧ order (lowP x) .nil < 0
        · have E := Lib.hid (HN.out.trans (if_pos hq))
          rw [show decide ((realP (0, 1) x).2 = 1 ∧ order (lowP x) .nil < 0) = true from decide_eq_true hq]
          clear hq
          go_wp2
          go_meet
          exact ⟨by rw [E.out], ⟨ext _ _⟩⟩
        · have E := Lib.hid (HN.out.trans (if_neg hq))
          rw [show decide ((realP (0, 1) x).2 = 1 ∧ order (lowP x) .nil < 0) = false from decide_eq_false hq]
          clear hq
          go_wp2
          go_meet
          exact ⟨by rw [E.out], ⟨ext _ _⟩⟩
      case rest =>
        rename World => wy
        obtain ⟨rfl, hby⟩ := hcut
        haveI : Bel wx wy := hby
        go_wp2
        refine wp_region_held_drew (S := (fun w' => w'.cell? ⟨g4, 0, none⟩ = some (.slice Ah (highP x).len ch))) (by kernel_rfl) ?hSn1_ (fun hHeld => ?hRn1_)
        case hSn1_ => (exact has1)
        refine wpAnyH_take (i := 0) (oi := _) (v := ?vn1_1) rfl (by kernel_rfl) (by kernel_rfl) (by kernel_rfl) (fun _ _ _ h => h) (Or.inl ⟨by rfl, ?hyn1_1⟩) (by assumption) ?hRn1_1
        case hyn1_1 => (intro w hSw; (try dsimp only at hSw); go_simp; (try with_reducible rfl))
        try simp only [Act.put, List.getElem_toArray, List.getElem_cons_zero, List.getElem_cons_succ, List.setIfInBounds_toArray, List.set_cons_zero, List.set_cons_succ]
        refine wpAnyH_take (i := 1) (oi := _) (v := ?vn1_2) rfl (by kernel_rfl) (by kernel_rfl) (by kernel_rfl) (fun _ _ _ h => h) (Or.inl ⟨by rfl, ?hyn1_2⟩) (by assumption) ?hRn1_2
        case hyn1_2 => (intro w hSw; (try dsimp only at hSw); go_simp; (try with_reducible rfl))
        try simp only [Act.put, List.getElem_toArray, List.getElem_cons_zero, List.getElem_cons_succ, List.setIfInBounds_toArray, List.set_cons_zero, List.set_cons_succ]
        refine wpAnyH_ready (rs := [2]) (by kernel_rfl) (by simp) ?_
        refine AllReadyH.cons (o := _) rfl (fun K hK => ?_) AllReadyH.nil
        go_simp
        ((go_at_call 41; refine (whole_any _ _).mono ?_; rintro e33 w33 ⟨rfl, hb⟩; haveI : Bel _ w33 := ⟨hb⟩; clear hb))
        go_wp2_with fail
        refine hK.out _ _ ?hSn1_3 (fun hHeld => ?hRn1_3)
        case hSn1_3 => ((try dsimp only); exact has1)
        clear hK K
        try simp only [Act.put, List.getElem_toArray, List.getElem_cons_zero, List.getElem_cons_succ, List.setIfInBounds_toArray, List.set_cons_zero, List.set_cons_succ]
        refine wpAnyH_ready (rs := [3]) (by kernel_rfl) (by simp) ?_
        refine AllReadyH.cons (o := _) rfl (fun K hK => ?_) AllReadyH.nil
        go_simp
        ((go_at_call 40; refine (real_any (wholeN x) 1 XN _ (xlt XN _) hiw (by unfold I64; omega)).mono ?_; rintro e34 w34 ⟨A34, c34, rfl, hs, hb⟩; haveI : Bel _ w34 := ⟨hb⟩; haveI := Tr.arg hs; clear hs hb))
        go_wp2_with fail
        refine hK.out _ _ ?hSn1_4 (fun hHeld => ?hRn1_4)
        case hSn1_4 => ((try dsimp only); exact has1)
        clear hK K
        try simp only [Act.put, List.getElem_toArray, List.getElem_cons_zero, List.getElem_cons_succ, List.setIfInBounds_toArray, List.set_cons_zero, List.set_cons_succ]
        refine wpAnyH_ready (rs := [4]) (by kernel_rfl) (by simp) ?_
        refine AllReadyH.cons (o := _) rfl (fun K hK => ?_) AllReadyH.nil
        go_simp
        ((go_at_call 39; refine (sum_ex (highP x) (termP .nil (wholeN x) 1) XN Ah A34 _ _ _ (xlt XN _) (trx XN _ Ah) (trx XN _ A34) HX.out (term_exF _) hls).mono ?_; rintro e35 w35 ⟨A35, c35, he, hs, hb⟩; rw [sumP_highW] at he hs; subst he; haveI : Bel _ w35 := ⟨hb⟩; haveI := Tr.arg hs; clear hs hb))
        go_wp2_with fail
        refine hK.out _ _ ?hSn1_5 (fun hHeld => ?hRn1_5)
        case hSn1_5 => ((try dsimp only); exact has1)
        clear hK K
        try simp only [Act.put, List.getElem_toArray, List.getElem_cons_zero, List.getElem_cons_succ, List.setIfInBounds_toArray, List.set_cons_zero, List.set_cons_succ]
        refine wpAnyH_take (i := 5) (oi := _) (v := ?vn1_6) rfl (by kernel_rfl) (by kernel_rfl) (by kernel_rfl) (fun _ _ _ h => h) (Or.inl ⟨by rfl, ?hyn1_6⟩) (by assumption) ?hRn1_6
        case hyn1_6 => (intro w hSw; (try dsimp only at hSw); go_simp; (try with_reducible rfl))
        try simp only [Act.put, List.getElem_toArray, List.getElem_cons_zero, List.getElem_cons_succ, List.setIfInBounds_toArray, List.set_cons_zero, List.set_cons_succ]
        refine wpAnyH_take (i := 6) (oi := _) (v := ?vn1_7) rfl (by kernel_rfl) (by kernel_rfl) (by kernel_rfl) (fun _ _ _ h => h) (Or.inl ⟨by rfl, ?hyn1_7⟩) (by assumption) ?hRn1_7
        case hyn1_7 => (intro w hSw; (try dsimp only at hSw); go_simp; (try with_reducible rfl))
        try simp only [Act.put, List.getElem_toArray, List.getElem_cons_zero, List.getElem_cons_succ, List.setIfInBounds_toArray, List.set_cons_zero, List.set_cons_succ]
        refine wpAnyH_ready (rs := [7]) (by kernel_rfl) (by simp) ?_
        refine AllReadyH.cons (o := _) rfl (fun K hK => ?_) AllReadyH.nil
        go_simp
        ((go_at_call 38; refine (toldSurreal_any (wholeS x) true _ A35 c35 _ (tr _ A35)).mono ?_; rintro e38 w38 ⟨A38, c38, he, hf, hb⟩; rw [HE.out] at he hf; subst he; haveI : Bel _ w38 := ⟨hb⟩; haveI := Fs.of hf; clear hf hb))
        go_wp2_with fail
        refine hK.out _ _ ?hSn1_8 (fun hHeld => ?hRn1_8)
        case hSn1_8 => ((try dsimp only); exact has1)
        clear hK K
        try simp only [Act.put, List.getElem_toArray, List.getElem_cons_zero, List.getElem_cons_succ, List.setIfInBounds_toArray, List.set_cons_zero, List.set_cons_succ]
        refine wpAnyH_take (i := 8) (oi := _) (v := ?vn1_9) rfl (by kernel_rfl) (by kernel_rfl) (by kernel_rfl) (fun _ _ _ h => h) (Or.inl ⟨by rfl, ?hyn1_9⟩) (by assumption) ?hRn1_9
        case hyn1_9 => (intro w hSw; (try dsimp only at hSw); go_simp; (try with_reducible rfl))
        try simp only [Act.put, List.getElem_toArray, List.getElem_cons_zero, List.getElem_cons_succ, List.setIfInBounds_toArray, List.set_cons_zero, List.set_cons_succ]
        refine wpAnyH_take (i := 9) (oi := _) (v := ?vn1_10) rfl (by kernel_rfl) (by kernel_rfl) (by kernel_rfl) (fun _ _ _ h => h) (Or.inl ⟨by rfl, ?hyn1_10⟩) (by assumption) ?hRn1_10
        case hyn1_10 => (intro w hSw; (try dsimp only at hSw); go_simp; (try with_reducible rfl))
        try simp only [Act.put, List.getElem_toArray, List.getElem_cons_zero, List.getElem_cons_succ, List.setIfInBounds_toArray, List.set_cons_zero, List.set_cons_succ]
        refine wpAnyH_ready (rs := [10]) (by kernel_rfl) (by simp) ?_
        refine AllReadyH.cons (o := _) rfl (fun K hK => ?_) AllReadyH.nil
        go_simp
        refine hK.out _ _ ?hSn1_11 (fun hHeld => ?hRn1_11)
        case hSn1_11 => ((try dsimp only); exact has1)
        clear hK K
        try simp only [Act.put, List.getElem_toArray, List.getElem_cons_zero, List.getElem_cons_succ, List.setIfInBounds_toArray, List.set_cons_zero, List.set_cons_succ]
        refine wpAnyH_take (i := 11) (oi := _) (v := ?vn1_12) rfl (by kernel_rfl) (by kernel_rfl) (by kernel_rfl) (fun _ _ _ h => h) (Or.inl ⟨by rfl, ?hyn1_12⟩) (by assumption) ?hRn1_12
        case hyn1_12 => (intro w hSw; (try dsimp only at hSw); go_simp; (try with_reducible rfl))
        try simp only [Act.put, List.getElem_toArray, List.getElem_cons_zero, List.getElem_cons_succ, List.setIfInBounds_toArray, List.set_cons_zero, List.set_cons_succ]
        refine wpAnyH_done (by kernel_rfl) ?_ _
        go_wp2
        refine bodyPost_ret (v := .tuple #[.agg #[.slice A38 ((intS x).getD .nil).len c38], .bool (intS x).isSome]) (by simp [results, Try.results12, go_sem]) rfl ?_
        exact ⟨A38, c38, rfl, fs _ A38 w, ext w _⟩
end Go.Proofs.Ytphabopnbcgodaa
