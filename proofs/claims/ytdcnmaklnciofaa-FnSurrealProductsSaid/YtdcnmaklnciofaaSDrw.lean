/-
  The draws that the laws on surreal numbers call.
-/
import Derived.Test.YtdcnmaklnciofaaSAny
import Derived.Test.YtdcnmaklnciofaaSAdd
namespace Go.Proofs.Ytdcnmaklnciofaa
open Go.RowKit
set_option linter.unusedSimpArgs false
set_option linter.unusedVariables false

/-- bytes that can be read -/
def Bytes (w : World) (A : Option Addr) (n : Nat) : Prop := CodeOk w w.heap.size A n
theorem Bytes.below {w W : World} {A : Option Addr} {n : Nat} (h : Bytes w A n) (hb : Below w.heap.size w W) : Bytes W A n := by
  intro i hi
  obtain ⟨cb, o, b, h1, h2, h3, h4⟩ := CodeOk.keep (w1 := W) h (fun j hj => hb.block j hj) i hi
  exact ⟨cb, o, b, h1, Nat.lt_of_lt_of_le h2 hb.size, h3, h4⟩
theorem Cur.start {w W : World} {g : Nat} {A : Option Addr} {n c : Nat} (h : Bytes w A n) (hn : n ≤ 1048576) [a : Ext w W] [b : GeB w g] [e : Has W g (.cells #[.slice A n c, .int .i64 0, .int .u64 0] 57 (0, 0))] : Cur W g 0 := ⟨by
  refine ⟨A, n, c, 0, 0, ⟨e.h, fun i hi => ?_, by omega, by omega⟩, by omega⟩
  obtain ⟨cb, o, b', h1, h2, h3, h4⟩ := CodeOk.keep (w1 := W) h (fun j hj => a.h.block j hj) i hi
  have := b.h
  exact ⟨cb, o, b', h1, by omega, h3, h4⟩⟩
instance XSub.nn {X : Nat → Prop} : XSub XN X := ⟨fun k h => h.elim⟩
theorem negP_all : ∀ {x : Sur}, x.All FOk → (negP x).All FOk
  | .nil, _ => trivial
  | .cons e n d r, h => ⟨h.1, by rw [FOk.negI h.2.1]; exact h.2.1.neg, negP_all h.2.2⟩

attribute [local go_sem high] has_cell has_frozen
set_option synthInstance.maxHeartbeats 2000000 in
set_option synthInstance.maxSize 4000 in
set_option maxHeartbeats 3200000 in
set_option maxRecDepth 100000 in
theorem drawAdd_any (A : Option Addr) (n c : Nat) (w : World) (hco : Bytes w A n) (hn : n ≤ 1048576) :
    Calls Try.prog 8 #[.slice A n c] w fun e w' => ∃ (x y : Sur) (B B' : Option Addr) (d d' : Nat), e = .returned (.tuple #[.agg #[.slice B x.len d], .agg #[.slice B' y.len d']]) ∧ SSl XN w' x B d ∧ SSl XN w' y B' d' ∧ x.len ≤ 1000 ∧ y.len ≤ 10000 ∧ Below w.heap.size w w' := by
  go_enter Try.func8, Try.ntmps8
  go_wp2_with (first | ((with_reducible refine at_dst (N := 2) rfl ?_); refine ev_box (cs := #[.slice none 0 0]) (t := 26) rfl ?hr2 ?_; (case hr2 => first | (go_simp; done) | (go_simp; rfl)); intro g2 v2 _ _ _ _) | ((with_reducible refine at_dst (N := 3) rfl ?_); refine ev_box (cs := #[.slice none 0 0]) (t := 26) rfl ?hr3 ?_; (case hr3 => first | (go_simp; done) | (go_simp; rfl)); intro g3 v3 _ _ _ _) | (((with_reducible refine at_dst (N := 10) rfl ?_); refine ev_box (cs := #[.slice A n c, .int .i64 0, .int .u64 0]) (t := 57) rfl ?hr10 ?_; (case hr10 => first | (go_simp; done) | (go_simp; rfl)); intro g v10 _ _ _ _); haveI := Cur.start (W := v10) (g := g) hco hn) | ((fail_if_success (have _q := x12)); go_at_call 39; refine (anySurreal_any g _ _ (by omega)).mono ?_; rintro e12 w12 ⟨x12, A12, c12, rfl, hs, hl12, h1, h2⟩; haveI := h1; haveI := h2; haveI := Tr.arg hs; clear hs h1 h2) | ((with_reducible refine at_dst (N := 5) rfl ?_); refine ev_box (cs := #[.slice none 0 0]) (t := 26) rfl ?hr5 ?_; (case hr5 => first | (go_simp; done) | (go_simp; rfl)); intro g5 v5 _ _ _ _) | ((fail_if_success (have _q := r14)); go_at_call 40; refine (one_any _ g _ _ (by omega) (by omega)).mono ?_; rintro e14 w14 ⟨r14, rfl, h1, h2⟩; haveI := h1; haveI := h2; clear h1 h2) | (go_at_call 41; refine (suGood_any x12 _ A12 _ _ (tr _ A12)).mono ?_; rintro e17 w17 ⟨rfl, hb⟩; haveI : Bel _ w17 := ⟨hb⟩; clear hb) | (go_at_call 43; refine (suNeg_any x12 (XL v10) A12 c12 _ (xl_lt v10 _) (trx (XL v10) _ A12) (by omega)).mono ?_; rintro e21 w21 ⟨A21, c21, rfl, hs, hb⟩; haveI : Bel _ w21 := ⟨hb⟩; haveI := Tr.arg hs; clear hs hb) | (go_at_call 44; refine (surreal_any 1 (by omega) _ _ g _ _ rfl (by simp only [cS]; omega)).mono ?_; rintro e23 w23 ⟨x23, A23, c23, rfl, h0, hx23, hl23, h1, h2⟩; simp only [cS] at h2; haveI := h0; haveI := h1; haveI := h2; clear h0 h1 h2) | (go_at_call 42; refine (suPlus_any (negP x12) x23 (XL v10) A21 A23 _ _ _ (xl_lt v10 _) (trx (XL v10) _ A21) (trx (XL v10) _ A23) (negP_all (sGood_len (by assumption)).2.2) hx23 (by rw [negP_len]; omega)).mono ?_; rintro e24 w24 ⟨A24, c24, rfl, hs, hb⟩; haveI : Bel _ w24 := ⟨hb⟩; haveI := Tr.arg hs; clear hs hb) | ((with_reducible refine at_dst (N := 6) rfl ?_); refine ev_box (cs := #[.slice none 0 0]) (t := 26) rfl ?hr6 ?_; (case hr6 => first | (go_simp; done) | (go_simp; rfl)); intro g6 v6 _ _ _ _))
  · skip
    refine wp_region_held_drew (S := (fun w' => w'.cell? ⟨g5, 0, none⟩ = some (.slice A12 x12.len c12) ∧ w'.cell? ⟨g6, 0, none⟩ = some (.slice A24 ((plusP (negP x12) x23).getD .nil).len c24))) (by kernel_rfl) ?hSn1_ (fun hHeld => ?hRn1_)
    case hSn1_ => (exact ⟨has1, has1⟩)
    refine wpAnyH_take (i := 0) (oi := _) (v := ?vn1_1) rfl (by kernel_rfl) (by kernel_rfl) (by kernel_rfl) (fun _ _ _ h => h) (Or.inl ⟨by rfl, ?hyn1_1⟩) (by assumption) ?hRn1_1
    case hyn1_1 => (intro w hSw; (try dsimp only at hSw); go_simp; (try with_reducible rfl))
    try simp only [Act.put, List.getElem_toArray, List.getElem_cons_zero, List.getElem_cons_succ, List.setIfInBounds_toArray, List.set_cons_zero, List.set_cons_succ]
    refine wpAnyH_take (i := 1) (oi := _) (v := ?vn1_2) rfl (by kernel_rfl) (by kernel_rfl) (by kernel_rfl) (fun _ _ _ h => h) (Or.inl ⟨by rfl, ?hyn1_2⟩) (by assumption) ?hRn1_2
    case hyn1_2 => (intro w hSw; (try dsimp only at hSw); go_simp; (try with_reducible rfl))
    try simp only [Act.put, List.getElem_toArray, List.getElem_cons_zero, List.getElem_cons_succ, List.setIfInBounds_toArray, List.set_cons_zero, List.set_cons_succ]
    refine wpAnyH_ready (rs := [2]) (by kernel_rfl) (by simp) ?_
    refine AllReadyH.cons (o := _) rfl (fun K hK => ?_) AllReadyH.nil
    go_simp
    refine hK.out _ _ ?hSn1_3 (fun hHeld => ?hRn1_3)
    case hSn1_3 => ((try dsimp only); exact ⟨has1, has1⟩)
    clear hK K
    try simp only [Act.put, List.getElem_toArray, List.getElem_cons_zero, List.getElem_cons_succ, List.setIfInBounds_toArray, List.set_cons_zero, List.set_cons_succ]
    refine wpAnyH_ready (rs := [3]) (by kernel_rfl) (by simp) ?_
    refine AllReadyH.cons (o := _) rfl (fun K hK => ?_) AllReadyH.nil
    go_simp
    refine hK.out _ _ ?hSn1_4 (fun hHeld => ?hRn1_4)
    case hSn1_4 => ((try dsimp only); exact ⟨has1, has1⟩)
    clear hK K
    try simp only [Act.put, List.getElem_toArray, List.getElem_cons_zero, List.getElem_cons_succ, List.setIfInBounds_toArray, List.set_cons_zero, List.set_cons_succ]
    refine wpAnyH_done (by kernel_rfl) ?_ _
    go_wp2
    refine bodyPost_ret (v := .tuple #[.agg #[.slice A12 x12.len c12], .agg #[.slice A24 ((plusP (negP x12) x23).getD .nil).len c24]]) (by simp [results, Try.results8, go_sem]) rfl ?_
    refine ⟨x12, _, A12, A24, c12, c24, rfl, trx XN _ A12, trx XN _ A24, by omega, ?_, ext _ _⟩
    rcases hq : plusP (negP x12) x23 with _ | z
    · simp [Sur.len]
    · have := (plusP_all (negP_all (sGood_len (by assumption)).2.2) hx23 hq).2
      rw [negP_len] at this
      simp only [Option.getD_some]
      omega
  · skip
    refine wp_region_held_drew (S := (fun w' => w'.cell? ⟨g5, 0, none⟩ = some (.slice A12 x12.len c12))) (by kernel_rfl) ?hSn2_ (fun hHeld => ?hRn2_)
    case hSn2_ => (exact has1)
    refine wpAnyH_take (i := 0) (oi := _) (v := ?vn2_1) rfl (by kernel_rfl) (by kernel_rfl) (by kernel_rfl) (fun _ _ _ h => h) (Or.inl ⟨by rfl, ?hyn2_1⟩) (by assumption) ?hRn2_1
    case hyn2_1 => (intro w hSw; (try dsimp only at hSw); go_simp; (try with_reducible rfl))
    try simp only [Act.put, List.getElem_toArray, List.getElem_cons_zero, List.getElem_cons_succ, List.setIfInBounds_toArray, List.set_cons_zero, List.set_cons_succ]
    refine wpAnyH_take (i := 1) (oi := _) (v := ?vn2_2) rfl (by kernel_rfl) (by kernel_rfl) (by kernel_rfl) (fun _ _ _ h => h) (Or.inl ⟨by rfl, ?hyn2_2⟩) (by assumption) ?hRn2_2
    case hyn2_2 => (intro w hSw; (try dsimp only at hSw); go_simp; (try with_reducible rfl))
    try simp only [Act.put, List.getElem_toArray, List.getElem_cons_zero, List.getElem_cons_succ, List.setIfInBounds_toArray, List.set_cons_zero, List.set_cons_succ]
    refine wpAnyH_ready (rs := [2]) (by kernel_rfl) (by simp) ?_
    refine AllReadyH.cons (o := _) rfl (fun K hK => ?_) AllReadyH.nil
    go_simp
    (((fail_if_success (have _q := x32)); go_at_call 39; refine (anySurreal_any g _ _ (by omega)).mono ?_; rintro e32 w32 ⟨x32, A32, c32, rfl, hs, hl32, h1, h2⟩; haveI := h1; haveI := h2; haveI := Tr.arg hs; clear hs h1 h2))
    go_wp2_with fail
    refine hK.out _ _ ?hSn2_3 (fun hHeld => ?hRn2_3)
    case hSn2_3 => ((try dsimp only); exact has1)
    clear hK K
    try simp only [Act.put, List.getElem_toArray, List.getElem_cons_zero, List.getElem_cons_succ, List.setIfInBounds_toArray, List.set_cons_zero, List.set_cons_succ]
    refine wpAnyH_ready (rs := [3]) (by kernel_rfl) (by simp) ?_
    refine AllReadyH.cons (o := _) rfl (fun K hK => ?_) AllReadyH.nil
    go_simp
    refine hK.out _ _ ?hSn2_4 (fun hHeld => ?hRn2_4)
    case hSn2_4 => ((try dsimp only); exact has1)
    clear hK K
    try simp only [Act.put, List.getElem_toArray, List.getElem_cons_zero, List.getElem_cons_succ, List.setIfInBounds_toArray, List.set_cons_zero, List.set_cons_succ]
    refine wpAnyH_ready (rs := [4]) (by kernel_rfl) (by simp) ?_
    refine AllReadyH.cons (o := _) rfl (fun K hK => ?_) AllReadyH.nil
    go_simp
    refine hK.out _ _ ?hSn2_5 (fun hHeld => ?hRn2_5)
    case hSn2_5 => ((try dsimp only); exact has1)
    clear hK K
    try simp only [Act.put, List.getElem_toArray, List.getElem_cons_zero, List.getElem_cons_succ, List.setIfInBounds_toArray, List.set_cons_zero, List.set_cons_succ]
    refine wpAnyH_done (by kernel_rfl) ?_ _
    go_wp2
    refine bodyPost_ret (v := .tuple #[.agg #[.slice A12 x12.len c12], .agg #[.slice A32 x32.len c32]]) (by simp [results, Try.results8, go_sem]) rfl ?_
    exact ⟨x12, x32, A12, A32, c12, c32, rfl, trx XN _ A12, trx XN _ A32, by omega, by omega, ext _ _⟩
  · skip
    refine wp_region_held_drew (S := (fun w' => w'.cell? ⟨g5, 0, none⟩ = some (.slice A12 x12.len c12))) (by kernel_rfl) ?hSn3_ (fun hHeld => ?hRn3_)
    case hSn3_ => (exact has1)
    refine wpAnyH_take (i := 0) (oi := _) (v := ?vn3_1) rfl (by kernel_rfl) (by kernel_rfl) (by kernel_rfl) (fun _ _ _ h => h) (Or.inl ⟨by rfl, ?hyn3_1⟩) (by assumption) ?hRn3_1
    case hyn3_1 => (intro w hSw; (try dsimp only at hSw); go_simp; (try with_reducible rfl))
    try simp only [Act.put, List.getElem_toArray, List.getElem_cons_zero, List.getElem_cons_succ, List.setIfInBounds_toArray, List.set_cons_zero, List.set_cons_succ]
    refine wpAnyH_take (i := 1) (oi := _) (v := ?vn3_2) rfl (by kernel_rfl) (by kernel_rfl) (by kernel_rfl) (fun _ _ _ h => h) (Or.inl ⟨by rfl, ?hyn3_2⟩) (by assumption) ?hRn3_2
    case hyn3_2 => (intro w hSw; (try dsimp only at hSw); go_simp; (try with_reducible rfl))
    try simp only [Act.put, List.getElem_toArray, List.getElem_cons_zero, List.getElem_cons_succ, List.setIfInBounds_toArray, List.set_cons_zero, List.set_cons_succ]
    refine wpAnyH_ready (rs := [2]) (by kernel_rfl) (by simp) ?_
    refine AllReadyH.cons (o := _) rfl (fun K hK => ?_) AllReadyH.nil
    go_simp
    (((fail_if_success (have _q := x32)); go_at_call 39; refine (anySurreal_any g _ _ (by omega)).mono ?_; rintro e32 w32 ⟨x32, A32, c32, rfl, hs, hl32, h1, h2⟩; haveI := h1; haveI := h2; haveI := Tr.arg hs; clear hs h1 h2))
    go_wp2_with fail
    refine hK.out _ _ ?hSn3_3 (fun hHeld => ?hRn3_3)
    case hSn3_3 => ((try dsimp only); exact has1)
    clear hK K
    try simp only [Act.put, List.getElem_toArray, List.getElem_cons_zero, List.getElem_cons_succ, List.setIfInBounds_toArray, List.set_cons_zero, List.set_cons_succ]
    refine wpAnyH_ready (rs := [3]) (by kernel_rfl) (by simp) ?_
    refine AllReadyH.cons (o := _) rfl (fun K hK => ?_) AllReadyH.nil
    go_simp
    refine hK.out _ _ ?hSn3_4 (fun hHeld => ?hRn3_4)
    case hSn3_4 => ((try dsimp only); exact has1)
    clear hK K
    try simp only [Act.put, List.getElem_toArray, List.getElem_cons_zero, List.getElem_cons_succ, List.setIfInBounds_toArray, List.set_cons_zero, List.set_cons_succ]
    refine wpAnyH_ready (rs := [4]) (by kernel_rfl) (by simp) ?_
    refine AllReadyH.cons (o := _) rfl (fun K hK => ?_) AllReadyH.nil
    go_simp
    refine hK.out _ _ ?hSn3_5 (fun hHeld => ?hRn3_5)
    case hSn3_5 => ((try dsimp only); exact has1)
    clear hK K
    try simp only [Act.put, List.getElem_toArray, List.getElem_cons_zero, List.getElem_cons_succ, List.setIfInBounds_toArray, List.set_cons_zero, List.set_cons_succ]
    refine wpAnyH_done (by kernel_rfl) ?_ _
    go_wp2
    refine bodyPost_ret (v := .tuple #[.agg #[.slice A12 x12.len c12], .agg #[.slice A32 x32.len c32]]) (by simp [results, Try.results8, go_sem]) rfl ?_
    exact ⟨x12, x32, A12, A32, c12, c32, rfl, trx XN _ A12, trx XN _ A32, by omega, by omega, ext _ _⟩
  · skip
    refine wp_region_held_drew (S := (fun w' => w'.cell? ⟨g5, 0, none⟩ = some (.slice A12 x12.len c12))) (by kernel_rfl) ?hSn4_ (fun hHeld => ?hRn4_)
    case hSn4_ => (exact has1)
    refine wpAnyH_take (i := 0) (oi := _) (v := ?vn4_1) rfl (by kernel_rfl) (by kernel_rfl) (by kernel_rfl) (fun _ _ _ h => h) (Or.inl ⟨by rfl, ?hyn4_1⟩) (by assumption) ?hRn4_1
    case hyn4_1 => (intro w hSw; (try dsimp only at hSw); go_simp; (try with_reducible rfl))
    try simp only [Act.put, List.getElem_toArray, List.getElem_cons_zero, List.getElem_cons_succ, List.setIfInBounds_toArray, List.set_cons_zero, List.set_cons_succ]
    refine wpAnyH_take (i := 1) (oi := _) (v := ?vn4_2) rfl (by kernel_rfl) (by kernel_rfl) (by kernel_rfl) (fun _ _ _ h => h) (Or.inl ⟨by rfl, ?hyn4_2⟩) (by assumption) ?hRn4_2
    case hyn4_2 => (intro w hSw; (try dsimp only at hSw); go_simp; (try with_reducible rfl))
    try simp only [Act.put, List.getElem_toArray, List.getElem_cons_zero, List.getElem_cons_succ, List.setIfInBounds_toArray, List.set_cons_zero, List.set_cons_succ]
    refine wpAnyH_ready (rs := [2]) (by kernel_rfl) (by simp) ?_
    refine AllReadyH.cons (o := _) rfl (fun K hK => ?_) AllReadyH.nil
    go_simp
    (((fail_if_success (have _q := x32)); go_at_call 39; refine (anySurreal_any g _ _ (by omega)).mono ?_; rintro e32 w32 ⟨x32, A32, c32, rfl, hs, hl32, h1, h2⟩; haveI := h1; haveI := h2; haveI := Tr.arg hs; clear hs h1 h2))
    go_wp2_with fail
    refine hK.out _ _ ?hSn4_3 (fun hHeld => ?hRn4_3)
    case hSn4_3 => ((try dsimp only); exact has1)
    clear hK K
    try simp only [Act.put, List.getElem_toArray, List.getElem_cons_zero, List.getElem_cons_succ, List.setIfInBounds_toArray, List.set_cons_zero, List.set_cons_succ]
    refine wpAnyH_ready (rs := [3]) (by kernel_rfl) (by simp) ?_
    refine AllReadyH.cons (o := _) rfl (fun K hK => ?_) AllReadyH.nil
    go_simp
    refine hK.out _ _ ?hSn4_4 (fun hHeld => ?hRn4_4)
    case hSn4_4 => ((try dsimp only); exact has1)
    clear hK K
    try simp only [Act.put, List.getElem_toArray, List.getElem_cons_zero, List.getElem_cons_succ, List.setIfInBounds_toArray, List.set_cons_zero, List.set_cons_succ]
    refine wpAnyH_ready (rs := [4]) (by kernel_rfl) (by simp) ?_
    refine AllReadyH.cons (o := _) rfl (fun K hK => ?_) AllReadyH.nil
    go_simp
    refine hK.out _ _ ?hSn4_5 (fun hHeld => ?hRn4_5)
    case hSn4_5 => ((try dsimp only); exact has1)
    clear hK K
    try simp only [Act.put, List.getElem_toArray, List.getElem_cons_zero, List.getElem_cons_succ, List.setIfInBounds_toArray, List.set_cons_zero, List.set_cons_succ]
    refine wpAnyH_done (by kernel_rfl) ?_ _
    go_wp2
    refine bodyPost_ret (v := .tuple #[.agg #[.slice A12 x12.len c12], .agg #[.slice A32 x32.len c32]]) (by simp [results, Try.results8, go_sem]) rfl ?_
    exact ⟨x12, x32, A12, A32, c12, c32, rfl, trx XN _ A12, trx XN _ A32, by omega, by omega, ext _ _⟩

set_option synthInstance.maxHeartbeats 2000000 in
set_option synthInstance.maxSize 4000 in
set_option maxHeartbeats 3200000 in
set_option maxRecDepth 100000 in
theorem drawScale_any (A : Option Addr) (n c : Nat) (w : World) (hco : Bytes w A n) (hn : n ≤ 1048576) :
    Calls Try.prog 14 #[.slice A n c] w fun e w' => ∃ (x : Sur) (p q : Int) (B : Option Addr) (d : Nat), e = .returned (.tuple #[.agg #[.slice B x.len d], .agg #[.int .i64 p, .int .i64 q]]) ∧ SSl XN w' x B d ∧ x.len ≤ 1000 ∧ I64 p ∧ I64 q ∧ Below w.heap.size w w' := by
  go_enter Try.func14, Try.ntmps14
  go_wp2_with (first | ((with_reducible refine at_dst (N := 2) rfl ?_); refine ev_box (cs := #[.slice none 0 0]) (t := 26) rfl ?hr2 ?_; (case hr2 => first | (go_simp; done) | (go_simp; rfl)); intro g2 v2 _ _ _ _) | ((with_reducible refine at_dst (N := 3) rfl ?_); refine ev_box (cs := #[.int .i64 0, .int .i64 0]) (t := 34) rfl ?hr3 ?_; (case hr3 => first | (go_simp; done) | (go_simp; rfl)); intro g3 v3 _ _ _ _) | (((with_reducible refine at_dst (N := 7) rfl ?_); refine ev_box (cs := #[.slice A n c, .int .i64 0, .int .u64 0]) (t := 57) rfl ?hr7 ?_; (case hr7 => first | (go_simp; done) | (go_simp; rfl)); intro g v10 _ _ _ _); haveI := Cur.start (W := v10) (g := g) hco hn) | ((fail_if_success (have _q := x9)); go_at_call 39; refine (anySurreal_any g _ _ (by omega)).mono ?_; rintro e9 w9 ⟨x9, A9, c9, rfl, hs, hl9, h1, h2⟩; haveI := h1; haveI := h2; haveI := Tr.arg hs; clear hs h1 h2) | (go_at_call 51; refine (fraction_any g _ _ (by omega)).mono ?_; rintro e57 w57 ⟨n57, d57, rfl, hn57, hd57, h1, h2⟩; haveI := h1; haveI := h2; clear h1 h2))
  refine bodyPost_ret (v := .tuple #[.agg #[.slice A9 x9.len c9], .agg #[.int .i64 n57, .int .i64 d57]]) (by simp [results, Try.results14, go_sem]) rfl ?_
  exact ⟨x9, n57, d57, A9, c9, rfl, trx XN _ A9, by omega, hn57, hd57, ext _ _⟩

set_option synthInstance.maxHeartbeats 2000000 in
set_option synthInstance.maxSize 4000 in
set_option maxHeartbeats 3200000 in
set_option maxRecDepth 100000 in
theorem drawLead_any (A : Option Addr) (n c : Nat) (w : World) (hco : Bytes w A n) (hn : n ≤ 1048576) :
    Calls Try.prog 22 #[.slice A n c] w fun e w' => ∃ (x : Sur) (B : Option Addr) (d : Nat), e = .returned (.agg #[.slice B x.len d]) ∧ SSl XN w' x B d ∧ x.len ≤ 1000 ∧ Below w.heap.size w w' := by
  go_enter Try.func22, Try.ntmps22
  go_wp2_with (first | ((with_reducible refine at_dst (N := 2) rfl ?_); refine ev_box (cs := #[.slice none 0 0]) (t := 26) rfl ?hr2 ?_; (case hr2 => first | (go_simp; done) | (go_simp; rfl)); intro g2 v2 _ _ _ _) | (((with_reducible refine at_dst (N := 6) rfl ?_); refine ev_box (cs := #[.slice A n c, .int .i64 0, .int .u64 0]) (t := 57) rfl ?hr6 ?_; (case hr6 => first | (go_simp; done) | (go_simp; rfl)); intro g v10 _ _ _ _); haveI := Cur.start (W := v10) (g := g) hco hn) | ((fail_if_success (have _q := x8)); go_at_call 39; refine (anySurreal_any g _ _ (by omega)).mono ?_; rintro e8 w8 ⟨x8, A8, c8, rfl, hs, hl8, h1, h2⟩; haveI := h1; haveI := h2; haveI := Tr.arg hs; clear hs h1 h2))
  refine bodyPost_ret (v := .agg #[.slice A8 x8.len c8]) (by simp [results, Try.results22, go_sem]) rfl ?_
  exact ⟨x8, A8, c8, rfl, trx XN _ A8, by omega, ext _ _⟩
end Go.Proofs.Ytdcnmaklnciofaa
