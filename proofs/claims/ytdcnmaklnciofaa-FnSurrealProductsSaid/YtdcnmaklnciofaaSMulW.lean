/-
  Walks: OmegaTo, LeadingOf of a right number; the reference's MultiplySurreals; the sign that the laws read.
-/
import Derived.Test.YtdcnmaklnciofaaSMapFn
import Derived.Test.YtdcnmaklnciofaaSAdd
import Derived.Test.YtdcnmaklnciofaaWTold
import Derived.Deep.Cut
namespace Go.Proofs.Ytdcnmaklnciofaa
open Go.RowKit
set_option linter.unusedSimpArgs false
set_option linter.unusedVariables false

attribute [local go_sem high] has_cell has_frozen
set_option maxHeartbeats 1600000 in
set_option maxRecDepth 100000 in
theorem OmegaTo_any (x : Sur) (X : Nat → Prop) (A : Option Addr) (c : Nat) (w : World) (sx : SSl X w x A c) :
    Calls Try.prog 20 #[.agg #[.slice A x.len c]] w (RetFreshB w (omS x)) := by
  haveI ix := Tr.arg (sx.more (Y := XN) (fun _ h => h.elim))
  clear sx
  cases gx : sGood x
  · have H := Lib.hid (show omS x = none by simp [omS, told, gx])
    go_enter Try.func20, Try.ntmps20
    go_wp2_with (first | ((with_reducible refine at_dst (N := 1) rfl ?_); refine ev_box (cs := #[.slice A x.len c]) (t := 26) rfl ?hr1 ?_; (case hr1 => first | (go_simp; done) | (go_simp; rfl)); intro g1 v1 _ _ _ _) | ((with_reducible refine at_dst (N := 2) rfl ?_); refine ev_box (cs := #[.slice none 0 0]) (t := 26) rfl ?hr2 ?_; (case hr2 => first | (go_simp; done) | (go_simp; rfl)); intro g2 v2 _ _ _ _) | (go_at_call 50; refine (IsSurreal_any _ _ A c _ (tr _ A)).mono ?_; rintro e5 w5 ⟨he, hb⟩; rw [gx] at he; subst he; haveI : Bel _ w5 := ⟨hb⟩; clear hb))
    refine bodyPost_ret (v := .tuple #[.agg #[.slice none 0 0], .bool false]) (by simp [results, Try.results20, go_sem]) rfl ?_
    rw [H.out]
    exact ⟨none, 0, rfl, SFresh.nil _ _, ext _ _⟩
  · have HE := Lib.hid (show told (termP x 1 1) true = omS x by unfold omS; rw [gx])
    go_enter Try.func20, Try.ntmps20
    go_wp2_with (first | ((with_reducible refine at_dst (N := 1) rfl ?_); refine ev_box (cs := #[.slice A x.len c]) (t := 26) rfl ?hr1 ?_; (case hr1 => first | (go_simp; done) | (go_simp; rfl)); intro g1 v1 _ _ _ _) | ((with_reducible refine at_dst (N := 2) rfl ?_); refine ev_box (cs := #[.slice none 0 0]) (t := 26) rfl ?hr2 ?_; (case hr2 => first | (go_simp; done) | (go_simp; rfl)); intro g2 v2 _ _ _ _) | (go_at_call 50; refine (IsSurreal_any _ _ A c _ (tr _ A)).mono ?_; rintro e5 w5 ⟨he, hb⟩; rw [gx] at he; subst he; haveI : Bel _ w5 := ⟨hb⟩; clear hb))
    refine wp_region_held_drew (S := (fun w' => w'.cell? ⟨g1, 0, none⟩ = some (.slice A x.len c))) (by kernel_rfl) ?hSn1_ (fun hHeld => ?hRn1_)
    case hSn1_ => (exact has1)
    refine wpAnyH_take (i := 0) (oi := _) (v := ?vn1_1) rfl (by kernel_rfl) (by kernel_rfl) (by kernel_rfl) (fun _ _ _ h => h) (Or.inl ⟨by rfl, ?hyn1_1⟩) (by assumption) ?hRn1_1
    case hyn1_1 => (intro w hSw; (try dsimp only at hSw); go_simp; (try with_reducible rfl))
    try simp only [Act.put, List.getElem_toArray, List.getElem_cons_zero, List.getElem_cons_succ, List.setIfInBounds_toArray, List.set_cons_zero, List.set_cons_succ]
    refine wpAnyH_ready (rs := [1]) (by kernel_rfl) (by simp) ?_
    refine AllReadyH.cons (o := _) rfl (fun K hK => ?_) AllReadyH.nil
    go_simp
    ((go_at_call 59; refine (whole_any _ _).mono ?_; rintro e9 w9 ⟨rfl, hb⟩; haveI : Bel _ w9 := ⟨hb⟩; clear hb))
    go_wp2_with fail
    refine hK.out _ _ ?hSn1_2 (fun hHeld => ?hRn1_2)
    case hSn1_2 => ((try dsimp only); exact has1)
    clear hK K
    try simp only [Act.put, List.getElem_toArray, List.getElem_cons_zero, List.getElem_cons_succ, List.setIfInBounds_toArray, List.set_cons_zero, List.set_cons_succ]
    refine wpAnyH_ready (rs := [2]) (by kernel_rfl) (by simp) ?_
    refine AllReadyH.cons (o := _) rfl (fun K hK => ?_) AllReadyH.nil
    go_simp
    ((go_at_call 58; refine (term_any x 1 1 XN A c _ (xlt XN _) (trx XN _ A) (by unfold I64; omega) (by unfold I64; omega)).mono ?_; rintro e10 w10 ⟨A10, c10, rfl, hs, hb⟩; haveI : Bel _ w10 := ⟨hb⟩; haveI := Tr.arg hs; clear hs hb))
    go_wp2_with fail
    refine hK.out _ _ ?hSn1_3 (fun hHeld => ?hRn1_3)
    case hSn1_3 => ((try dsimp only); exact has1)
    clear hK K
    try simp only [Act.put, List.getElem_toArray, List.getElem_cons_zero, List.getElem_cons_succ, List.setIfInBounds_toArray, List.set_cons_zero, List.set_cons_succ]
    refine wpAnyH_ready (rs := [3]) (by kernel_rfl) (by simp) ?_
    refine AllReadyH.cons (o := _) rfl (fun K hK => ?_) AllReadyH.nil
    go_simp
    ((go_at_call 46; refine (toldSurreal_any (termP x 1 1) true _ A10 c10 _ (tr _ A10)).mono ?_; rintro e11 w11 ⟨A11, c11, he, hf, hb⟩; rw [HE.out] at he hf; subst he; haveI : Bel _ w11 := ⟨hb⟩; haveI := Fs.of hf; clear hf hb))
    go_wp2_with fail
    refine hK.out _ _ ?hSn1_4 (fun hHeld => ?hRn1_4)
    case hSn1_4 => ((try dsimp only); exact has1)
    clear hK K
    try simp only [Act.put, List.getElem_toArray, List.getElem_cons_zero, List.getElem_cons_succ, List.setIfInBounds_toArray, List.set_cons_zero, List.set_cons_succ]
    refine wpAnyH_take (i := 4) (oi := _) (v := ?vn1_5) rfl (by kernel_rfl) (by kernel_rfl) (by kernel_rfl) (fun _ _ _ h => h) (Or.inl ⟨by rfl, ?hyn1_5⟩) (by assumption) ?hRn1_5
    case hyn1_5 => (intro w hSw; (try dsimp only at hSw); go_simp; (try with_reducible rfl))
    try simp only [Act.put, List.getElem_toArray, List.getElem_cons_zero, List.getElem_cons_succ, List.setIfInBounds_toArray, List.set_cons_zero, List.set_cons_succ]
    refine wpAnyH_take (i := 5) (oi := _) (v := ?vn1_6) rfl (by kernel_rfl) (by kernel_rfl) (by kernel_rfl) (fun _ _ _ h => h) (Or.inl ⟨by rfl, ?hyn1_6⟩) (by assumption) ?hRn1_6
    case hyn1_6 => (intro w hSw; (try dsimp only at hSw); go_simp; (try with_reducible rfl))
    try simp only [Act.put, List.getElem_toArray, List.getElem_cons_zero, List.getElem_cons_succ, List.setIfInBounds_toArray, List.set_cons_zero, List.set_cons_succ]
    refine wpAnyH_ready (rs := [6]) (by kernel_rfl) (by simp) ?_
    refine AllReadyH.cons (o := _) rfl (fun K hK => ?_) AllReadyH.nil
    go_simp
    refine hK.out _ _ ?hSn1_7 (fun hHeld => ?hRn1_7)
    case hSn1_7 => ((try dsimp only); exact has1)
    clear hK K
    try simp only [Act.put, List.getElem_toArray, List.getElem_cons_zero, List.getElem_cons_succ, List.setIfInBounds_toArray, List.set_cons_zero, List.set_cons_succ]
    refine wpAnyH_take (i := 7) (oi := _) (v := ?vn1_8) rfl (by kernel_rfl) (by kernel_rfl) (by kernel_rfl) (fun _ _ _ h => h) (Or.inl ⟨by rfl, ?hyn1_8⟩) (by assumption) ?hRn1_8
    case hyn1_8 => (intro w hSw; (try dsimp only at hSw); go_simp; (try with_reducible rfl))
    try simp only [Act.put, List.getElem_toArray, List.getElem_cons_zero, List.getElem_cons_succ, List.setIfInBounds_toArray, List.set_cons_zero, List.set_cons_succ]
    refine wpAnyH_done (by kernel_rfl) ?_ _
    go_wp2
    refine bodyPost_ret (v := .tuple #[.agg #[.slice A11 ((omS x).getD .nil).len c11], .bool (omS x).isSome]) (by simp [results, Try.results20, go_sem]) rfl ?_
    exact ⟨A11, c11, rfl, fs _ A11 w, ext _ _⟩

set_option maxHeartbeats 1600000 in
set_option maxRecDepth 100000 in
theorem LeadingOf_cons (e r : Sur) (n d : Int) (X : Nat → Prop) (A : Option Addr) (c : Nat) (w : World) (sx : SSl X w (.cons e n d r) A c) (gx : sGood (.cons e n d r) = true) :
    Calls Try.prog 21 #[.agg #[.slice A (r.len + 1) c]] w fun ex w' => ∃ A' c', ex = .returned (.tuple #[.agg #[.slice A' e.len c'], .agg #[.int .i64 n, .int .i64 d], .bool true]) ∧ SFresh w.heap.size w' e A' c' ∧ Below w.heap.size w w' := by
  haveI ix : Tr w A (XV w XN) (.cons e n d r) c := Tr.arg (sx.more (Y := XN) (fun _ h => h.elim))
  have lx := sx.cap
  have lx' := sx.le
  unfold maxLen at lx
  simp only [Sur.len] at lx'
  obtain ⟨b, o, e1, n1, dd1, A1, d1, rfl, hxk, q0, q1, q2, se, _, _, _, hbl⟩ := sx.at_ (k := 0) (by simp [Sur.len])
  simp only [Sur.drop] at hxk
  injection hxk with h1 h2 h3
  subst h1 h2 h3
  simp only [Nat.zero_mul, Nat.add_zero] at q0 q1 q2
  haveI := Tr.arg se
  clear se sx
  have HN : Hid (e.nodes ≤ 100) := by
    have := (sGood_len gx).2.1
    simp only [Sur.nodes] at this
    show _ ≤ _
    omega
  have Q0 : ∀ W, Ext w W → W.cell? ⟨b, o, none⟩ = some (.slice A1 e.len d1) := fun W h => ((h.h).cell hbl).trans q0
  have Q1 : ∀ W, Ext w W → W.cell? ⟨b, o + 1, none⟩ = some (.int .i64 n) := fun W h => ((h.h).cell hbl).trans q1
  have Q2 : ∀ W, Ext w W → W.cell? ⟨b, o + 2, none⟩ = some (.int .i64 d) := fun W h => ((h.h).cell hbl).trans q2
  have hl0 : ((r.len : Int) + 1 == 0) = false := by simp; omega
  generalize hA : some (⟨b, o, none⟩ : Addr) = A at *
  go_enter Try.func21, Try.ntmps21
  go_wp2_with (first | ((with_reducible refine at_dst (N := 1) rfl ?_); refine ev_box (cs := #[.slice A (r.len + 1) c]) (t := 26) rfl ?hr1 ?_; (case hr1 => first | (go_simp; done) | (go_simp; rfl)); intro g1 v1 _ _ _ _) | ((with_reducible refine at_dst (N := 2) rfl ?_); refine ev_box (cs := #[.slice none 0 0]) (t := 26) rfl ?hr2 ?_; (case hr2 => first | (go_simp; done) | (go_simp; rfl)); intro g2 v2 _ _ _ _) | ((with_reducible refine at_dst (N := 3) rfl ?_); refine ev_box (cs := #[.int .i64 0, .int .i64 0]) (t := 34) rfl ?hr3 ?_; (case hr3 => first | (go_simp; done) | (go_simp; rfl)); intro g3 v3 _ _ _ _) | (go_at_call 50; refine (IsSurreal_any (.cons e n d r) _ A c _ (tr _ A)).mono ?_; rintro e5 w5 ⟨he, hb⟩; rw [gx] at he; subst he; haveI : Bel _ w5 := ⟨hb⟩; clear hb))
  subst hA
  refine wp_region_held_drew (S := (fun w' => w'.cell? ⟨g1, 0, none⟩ = some (.slice (some ⟨b, o, none⟩) (r.len + 1) c) ∧ w'.cell? ⟨b, o, none⟩ = some (.slice A1 e.len d1) ∧ w'.cell? ⟨b, o + 1, none⟩ = some (.int .i64 n) ∧ w'.cell? ⟨b, o + 2, none⟩ = some (.int .i64 d))) (by kernel_rfl) ?hSn2_ (fun hHeld => ?hRn2_)
  case hSn2_ => (exact ⟨has1, Q0 _ inferInstance, Q1 _ inferInstance, Q2 _ inferInstance⟩)
  refine wpAnyH_take (i := 0) (oi := _) (v := ?vn2_1) rfl (by kernel_rfl) (by kernel_rfl) (by kernel_rfl) (fun _ _ _ h => h) (Or.inl ⟨by rfl, ?hyn2_1⟩) (by assumption) ?hRn2_1
  case hyn2_1 => (intro w hSw; (try dsimp only at hSw); go_simp; (try with_reducible rfl))
  try simp only [Act.put, List.getElem_toArray, List.getElem_cons_zero, List.getElem_cons_succ, List.setIfInBounds_toArray, List.set_cons_zero, List.set_cons_succ]
  refine wpAnyH_take (i := 1) (oi := _) (v := ?vn2_2) rfl (by kernel_rfl) (by kernel_rfl) (by kernel_rfl) (fun _ _ _ h => h) (Or.inl ⟨by rfl, ?hyn2_2⟩) (by assumption) ?hRn2_2
  case hyn2_2 => (intro w hSw; (try dsimp only at hSw); go_simp; (try with_reducible rfl))
  try simp only [Act.put, List.getElem_toArray, List.getElem_cons_zero, List.getElem_cons_succ, List.setIfInBounds_toArray, List.set_cons_zero, List.set_cons_succ]
  refine wpAnyH_take (i := 2) (oi := _) (v := ?vn2_3) rfl (by kernel_rfl) (by kernel_rfl) (by kernel_rfl) (fun _ _ _ h => h) (Or.inl ⟨by rfl, ?hyn2_3⟩) (by assumption) ?hRn2_3
  case hyn2_3 => (intro w hSw; (try dsimp only at hSw); go_simp; (try with_reducible rfl))
  try simp only [Act.put, List.getElem_toArray, List.getElem_cons_zero, List.getElem_cons_succ, List.setIfInBounds_toArray, List.set_cons_zero, List.set_cons_succ]
  refine wpAnyH_take (i := 3) (oi := _) (v := ?vn2_4) rfl (by kernel_rfl) (by kernel_rfl) (by kernel_rfl) (fun _ _ _ h => h) (Or.inl ⟨by rfl, ?hyn2_4⟩) (by assumption) ?hRn2_4
  case hyn2_4 => (intro w hSw; (try dsimp only at hSw); go_simp; (try with_reducible rfl))
  try simp only [Act.put, List.getElem_toArray, List.getElem_cons_zero, List.getElem_cons_succ, List.setIfInBounds_toArray, List.set_cons_zero, List.set_cons_succ]
  refine wpAnyH_take (i := 4) (oi := _) (v := ?vn2_5) rfl (by kernel_rfl) (by kernel_rfl) (by kernel_rfl) (fun _ _ _ h => h) (Or.inl ⟨by rfl, ?hyn2_5⟩) (by assumption) ?hRn2_5
  case hyn2_5 => (intro w hSw; (try dsimp only at hSw); go_simp; (try with_reducible rfl))
  try simp only [Act.put, List.getElem_toArray, List.getElem_cons_zero, List.getElem_cons_succ, List.setIfInBounds_toArray, List.set_cons_zero, List.set_cons_succ]
  refine wpAnyH_take (i := 6) (oi := _) (v := ?vn2_6) rfl (by kernel_rfl) (by kernel_rfl) (by kernel_rfl) (fun _ _ _ h => h) (Or.inl ⟨by rfl, ?hyn2_6⟩) (by assumption) ?hRn2_6
  case hyn2_6 => (intro w hSw; (try dsimp only at hSw); go_simp; (try with_reducible rfl))
  try simp only [Act.put, List.getElem_toArray, List.getElem_cons_zero, List.getElem_cons_succ, List.setIfInBounds_toArray, List.set_cons_zero, List.set_cons_succ]
  refine wpAnyH_take (i := 7) (oi := _) (v := ?vn2_7) rfl (by kernel_rfl) (by kernel_rfl) (by kernel_rfl) (fun _ _ _ h => h) (Or.inl ⟨by rfl, ?hyn2_7⟩) (by assumption) ?hRn2_7
  case hyn2_7 => (intro w hSw; (try dsimp only at hSw); go_simp; (try with_reducible rfl))
  try simp only [Act.put, List.getElem_toArray, List.getElem_cons_zero, List.getElem_cons_succ, List.setIfInBounds_toArray, List.set_cons_zero, List.set_cons_succ]
  refine wpAnyH_take (i := 8) (oi := _) (v := ?vn2_8) rfl (by kernel_rfl) (by kernel_rfl) (by kernel_rfl) (fun _ _ _ h => h) (Or.inl ⟨by rfl, ?hyn2_8⟩) (by assumption) ?hRn2_8
  case hyn2_8 => (intro w hSw; (try dsimp only at hSw); go_simp; (try with_reducible rfl))
  try simp only [Act.put, List.getElem_toArray, List.getElem_cons_zero, List.getElem_cons_succ, List.setIfInBounds_toArray, List.set_cons_zero, List.set_cons_succ]
  refine wpAnyH_take (i := 9) (oi := _) (v := ?vn2_9) rfl (by kernel_rfl) (by kernel_rfl) (by kernel_rfl) (fun _ _ _ h => h) (Or.inl ⟨by rfl, ?hyn2_9⟩) (by assumption) ?hRn2_9
  case hyn2_9 => (intro w hSw; (try dsimp only at hSw); go_simp; (try with_reducible rfl))
  try simp only [Act.put, List.getElem_toArray, List.getElem_cons_zero, List.getElem_cons_succ, List.setIfInBounds_toArray, List.set_cons_zero, List.set_cons_succ]
  refine wpAnyH_take (i := 10) (oi := _) (v := ?vn2_10) rfl (by kernel_rfl) (by kernel_rfl) (by kernel_rfl) (fun _ _ _ h => h) (Or.inl ⟨by rfl, ?hyn2_10⟩) (by assumption) ?hRn2_10
  case hyn2_10 => (intro w hSw; (try dsimp only at hSw); go_simp; (try with_reducible rfl))
  try simp only [Act.put, List.getElem_toArray, List.getElem_cons_zero, List.getElem_cons_succ, List.setIfInBounds_toArray, List.set_cons_zero, List.set_cons_succ]
  refine wpAnyH_ready (rs := [5]) (by kernel_rfl) (by simp) ?_
  refine AllReadyH.cons (o := _) rfl (fun K hK => ?_) AllReadyH.nil
  go_simp
  ((go_at_call 60; refine (clone_any 100 (by omega) e _ A1 d1 _ HN.out (tr _ A1)).mono ?_; rintro e21 w21 ⟨A21, c21, rfl, hf, hb⟩; haveI : Bel _ w21 := ⟨hb⟩; haveI := Fs.of hf; clear hf hb))
  go_wp2_with fail
  refine hK.out _ _ ?hSn2_11 (fun hHeld => ?hRn2_11)
  case hSn2_11 => ((try dsimp only); exact ⟨has1, Q0 _ inferInstance, Q1 _ inferInstance, Q2 _ inferInstance⟩)
  clear hK K
  try simp only [Act.put, List.getElem_toArray, List.getElem_cons_zero, List.getElem_cons_succ, List.setIfInBounds_toArray, List.set_cons_zero, List.set_cons_succ]
  refine wpAnyH_ready (rs := [11]) (by kernel_rfl) (by simp) ?_
  refine AllReadyH.cons (o := _) rfl (fun K hK => ?_) AllReadyH.nil
  go_simp
  refine hK.out _ _ ?hSn2_12 (fun hHeld => ?hRn2_12)
  case hSn2_12 => ((try dsimp only); exact ⟨has1, Q0 _ inferInstance, Q1 _ inferInstance, Q2 _ inferInstance⟩)
  clear hK K
  try simp only [Act.put, List.getElem_toArray, List.getElem_cons_zero, List.getElem_cons_succ, List.setIfInBounds_toArray, List.set_cons_zero, List.set_cons_succ]
  refine wpAnyH_ready (rs := [12]) (by kernel_rfl) (by simp) ?_
  refine AllReadyH.cons (o := _) rfl (fun K hK => ?_) AllReadyH.nil
  go_simp
  refine hK.out _ _ ?hSn2_13 (fun hHeld => ?hRn2_13)
  case hSn2_13 => ((try dsimp only); exact ⟨has1, Q0 _ inferInstance, Q1 _ inferInstance, Q2 _ inferInstance⟩)
  clear hK K
  try simp only [Act.put, List.getElem_toArray, List.getElem_cons_zero, List.getElem_cons_succ, List.setIfInBounds_toArray, List.set_cons_zero, List.set_cons_succ]
  refine wpAnyH_take (i := 13) (oi := _) (v := ?vn2_14) rfl (by kernel_rfl) (by kernel_rfl) (by kernel_rfl) (fun _ _ _ h => h) (Or.inl ⟨by rfl, ?hyn2_14⟩) (by assumption) ?hRn2_14
  case hyn2_14 => (intro w hSw; (try dsimp only at hSw); go_simp; (try with_reducible rfl))
  try simp only [Act.put, List.getElem_toArray, List.getElem_cons_zero, List.getElem_cons_succ, List.setIfInBounds_toArray, List.set_cons_zero, List.set_cons_succ]
  refine wpAnyH_done (by kernel_rfl) ?_ _
  go_wp2
  refine bodyPost_ret (v := .tuple #[.agg #[.slice A21 e.len c21], .agg #[.int .i64 n, .int .i64 d], .bool true]) (by simp [results, Try.results21, go_sem]) rfl ?_
  exact ⟨A21, c21, rfl, fs _ A21 w, ext _ _⟩

set_option maxHeartbeats 1600000 in
set_option maxRecDepth 100000 in
theorem sMultiplySurreals_any (x y : Sur) (X Y : Nat → Prop) (A A' : Option Addr) (c c' : Nat) (w : World) (sx : SSl X w x A c) (sy : SSl Y w y A' c') :
    Calls Try.prog 18 #[.agg #[.slice A x.len c], .agg #[.slice A' y.len c']] w (RetFreshB w (mulS x y)) := by
  haveI ix := Tr.arg sx
  haveI iy := Tr.arg sy
  cases gx : sGood x
  · have H := Lib.hid (show mulS x y = none by simp [mulS, gx])
    go_enter Try.func18, Try.ntmps18
    go_wp2_with (first | ((with_reducible refine at_dst (N := 2) rfl ?_); refine ev_box (cs := #[.slice A x.len c]) (t := 26) rfl ?hr2 ?_; (case hr2 => first | (go_simp; done) | (go_simp; rfl)); intro g2 v2 _ _ _ _) | ((with_reducible refine at_dst (N := 3) rfl ?_); refine ev_box (cs := #[.slice A' y.len c']) (t := 26) rfl ?hr3 ?_; (case hr3 => first | (go_simp; done) | (go_simp; rfl)); intro g3 v3 _ _ _ _) | ((with_reducible refine at_dst (N := 4) rfl ?_); refine ev_box (cs := #[.slice none 0 0]) (t := 26) rfl ?hr4 ?_; (case hr4 => first | (go_simp; done) | (go_simp; rfl)); intro g4 v4 _ _ _ _) | ((fail_if_success (have _q := w7)); go_at_call 41; refine (suGood_any x _ A _ _ (tr _ A)).mono ?_; rintro e7 w7 ⟨he, hb⟩; rw [gx] at he; subst he; haveI : Bel _ w7 := ⟨hb⟩; clear hb))
    refine bodyPost_ret (v := .tuple #[.agg #[.slice none 0 0], .bool false]) (by simp [results, Try.results18, go_sem]) rfl ?_
    rw [H.out]
    exact ⟨none, 0, rfl, SFresh.nil _ _, ext _ _⟩
  · cases gy : sGood y
    · have H := Lib.hid (show mulS x y = none by simp [mulS, gx, gy])
      go_enter Try.func18, Try.ntmps18
      go_wp2_with (first | ((with_reducible refine at_dst (N := 2) rfl ?_); refine ev_box (cs := #[.slice A x.len c]) (t := 26) rfl ?hr2 ?_; (case hr2 => first | (go_simp; done) | (go_simp; rfl)); intro g2 v2 _ _ _ _) | ((with_reducible refine at_dst (N := 3) rfl ?_); refine ev_box (cs := #[.slice A' y.len c']) (t := 26) rfl ?hr3 ?_; (case hr3 => first | (go_simp; done) | (go_simp; rfl)); intro g3 v3 _ _ _ _) | ((with_reducible refine at_dst (N := 4) rfl ?_); refine ev_box (cs := #[.slice none 0 0]) (t := 26) rfl ?hr4 ?_; (case hr4 => first | (go_simp; done) | (go_simp; rfl)); intro g4 v4 _ _ _ _) | ((fail_if_success (have _q := w7)); go_at_call 41; refine (suGood_any x _ A _ _ (tr _ A)).mono ?_; rintro e7 w7 ⟨he, hb⟩; rw [gx] at he; subst he; haveI : Bel _ w7 := ⟨hb⟩; clear hb) | ((fail_if_success (have _q := w11)); go_at_call 41; refine (suGood_any y _ A' _ _ (tr _ A')).mono ?_; rintro e11 w11 ⟨he, hb⟩; rw [gy] at he; subst he; haveI : Bel _ w11 := ⟨hb⟩; clear hb))
      refine bodyPost_ret (v := .tuple #[.agg #[.slice none 0 0], .bool false]) (by simp [results, Try.results18, go_sem]) rfl ?_
      rw [H.out]
      exact ⟨none, 0, rfl, SFresh.nil _ _, ext _ _⟩
    · have HE := Lib.hid (prodS_mulS gx gy)
      have HGX := Lib.hid gx
      have HGY := Lib.hid gy
      go_enter Try.func18, Try.ntmps18
      go_wp2_with (first | ((with_reducible refine at_dst (N := 2) rfl ?_); refine ev_box (cs := #[.slice A x.len c]) (t := 26) rfl ?hr2 ?_; (case hr2 => first | (go_simp; done) | (go_simp; rfl)); intro g2 v2 _ _ _ _) | ((with_reducible refine at_dst (N := 3) rfl ?_); refine ev_box (cs := #[.slice A' y.len c']) (t := 26) rfl ?hr3 ?_; (case hr3 => first | (go_simp; done) | (go_simp; rfl)); intro g3 v3 _ _ _ _) | ((with_reducible refine at_dst (N := 4) rfl ?_); refine ev_box (cs := #[.slice none 0 0]) (t := 26) rfl ?hr4 ?_; (case hr4 => first | (go_simp; done) | (go_simp; rfl)); intro g4 v4 _ _ _ _) | ((fail_if_success (have _q := w7)); go_at_call 41; refine (suGood_any x _ A _ _ (tr _ A)).mono ?_; rintro e7 w7 ⟨he, hb⟩; rw [gx] at he; subst he; haveI : Bel _ w7 := ⟨hb⟩; clear hb) | ((fail_if_success (have _q := w11)); go_at_call 41; refine (suGood_any y _ A' _ _ (tr _ A')).mono ?_; rintro e11 w11 ⟨he, hb⟩; rw [gy] at he; subst he; haveI : Bel _ w11 := ⟨hb⟩; clear hb) | (go_at_call 55; refine (suProduct_any x y _ _ A A' _ _ _ (tr _ A) (tr _ A') HGX.out HGY.out).mono ?_; rintro e17 w17 ⟨A17, c17, he, hf, hb⟩; rw [HE.out] at he hf; subst he; haveI : Bel _ w17 := ⟨hb⟩; haveI := Fs.of hf; clear hf hb))
      refine bodyPost_ret (v := .tuple #[.agg #[.slice A17 ((mulS x y).getD .nil).len c17], .bool (mulS x y).isSome]) (by simp [results, Try.results18, go_sem]) rfl ?_
      exact ⟨A17, c17, rfl, fs _ A17 w, ext _ _⟩

set_option maxHeartbeats 1600000 in
set_option maxRecDepth 100000 in
theorem qSign_any (x : Sur) (X : Nat → Prop) (A : Option Addr) (c : Nat) (w : World) (sx : SSl X w x A c) :
    Calls Try.prog 19 #[.agg #[.slice A x.len c]] w fun ex w' => ex = .returned (.int .i64 (sgS x)) ∧ Below w.heap.size w w' := by
  have lx := sx.cap
  have lx' := sx.le
  unfold maxLen at lx
  cases x with
  | nil =>
    have H := Lib.hid (show sgS .nil = 0 from rfl)
    simp only [Sur.len] at *
    clear sx
    go_enter Try.func19, Try.ntmps19
    go_wp2_with (first | ((with_reducible refine at_dst (N := 1) rfl ?_); refine ev_box (cs := #[.slice A 0 c]) (t := 26) rfl ?hr1 ?_; (case hr1 => first | (go_simp; done) | (go_simp; rfl)); intro g1 v1 _ _ _ _))
    go_ret
    exact ⟨by rw [H.out]; rfl, ext _ _⟩
  | cons e n d r =>
    obtain ⟨b, o, e1, n1, dd1, A1, d1, rfl, hxk, q0, q1, q2, se, _, _, _, hbl⟩ := sx.at_ (k := 0) (by simp [Sur.len])
    simp only [Sur.drop] at hxk
    injection hxk with h1 h2 h3
    subst h1 h2 h3
    simp only [Nat.zero_mul, Nat.add_zero] at q0 q1 q2
    clear se sx
    simp only [Sur.len] at *
    have hl0 : ((r.len : Int) + 1 == 0) = false := by simp; omega
    by_cases hn : 0 < n
    · have H := Lib.hid (show sgS (.cons e n d r) = 1 by simp only [sgS, if_pos hn])
      go_enter Try.func19, Try.ntmps19
      go_upto_region 3 with (first | ((with_reducible refine at_dst (N := 1) rfl ?_); refine ev_box (cs := #[.slice (some ⟨b, o, none⟩) (r.len + 1) c]) (t := 26) rfl ?hr1 ?_; (case hr1 => first | (go_simp; done) | (go_simp; rfl)); intro g1 v1 _ _ _ _))
      have Q1 : v1.cell? ⟨b, o + 1, none⟩ = some (.int .i64 n) := ((ext w v1).cell hbl).trans q1
      go_wp2
      go_ret
      exact ⟨by rw [H.out]; rfl, ext _ _⟩
    · have H := Lib.hid (show sgS (.cons e n d r) = -1 by simp only [sgS, if_neg hn])
      go_enter Try.func19, Try.ntmps19
      go_upto_region 3 with (first | ((with_reducible refine at_dst (N := 1) rfl ?_); refine ev_box (cs := #[.slice (some ⟨b, o, none⟩) (r.len + 1) c]) (t := 26) rfl ?hr1 ?_; (case hr1 => first | (go_simp; done) | (go_simp; rfl)); intro g1 v1 _ _ _ _))
      have Q1 : v1.cell? ⟨b, o + 1, none⟩ = some (.int .i64 n) := ((ext w v1).cell hbl).trans q1
      go_wp2
      go_ret
      exact ⟨by rw [H.out]; rfl, ext _ _⟩
end Go.Proofs.Ytdcnmaklnciofaa
