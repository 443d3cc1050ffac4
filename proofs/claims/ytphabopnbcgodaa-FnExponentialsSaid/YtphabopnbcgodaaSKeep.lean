/-
  Walks, the reference's side: arithmetic until something fails.
-/
import Derived.Test.YtphabopnbcgodaaSP
import Derived.Test.YtphabopnbcgodaaWMaker2
namespace Go.Proofs.Ytphabopnbcgodaa
open Go.RowKit
set_option linter.unusedSimpArgs false
set_option linter.unusedVariables false

/-- what is kept of a result -/
def keepS (bad : Bool) (o : Option Sur) : Sur := if (bad || !o.isSome) = true then .nil else o.getD .nil
def keepV (b : Bool) (v : Value) : Value := if b = true then .slice none 0 0 else v

set_option maxHeartbeats 400000 in
theorem keep_any (ok bad : Bool) (mb : Nat) (A : Option Addr) (m c : Nat) (w : World) (hm : w.cell? ⟨mb, 0, none⟩ = some (.bool bad)) (hf : w.frozen? ⟨mb, 0, none⟩ = false) :
    Calls Try.prog 95 #[.pointer (some ⟨mb, 0, none⟩), .agg #[.slice A m c], .bool ok] w fun e w' => e = .returned (.agg #[keepV (bad || !ok) (.slice A m c)]) ∧ Below w.heap.size (w.setCell ⟨mb, 0, none⟩ (.bool (bad || !ok))) w' := by
  have hlt : mb < w.heap.size := World.block_lt_of_cell? w ⟨mb, 0, none⟩ hm
  have hn1 : ¬ mb = w.heap.size := by omega
  have hn2 : ¬ mb = w.heap.size + 1 := by omega
  have hn3 : ¬ w.heap.size = mb := by omega
  have hn4 : ¬ w.heap.size + 1 = mb := by omega
  cases bad <;> cases ok
  all_goals
    go_enter Try.func95, Try.ntmps95
    go_wp2
    first
      | (refine bodyPost_ret (v := .agg #[.slice A m c]) (by simp [results, Try.results95, go_sem]) rfl ?_; refine ⟨rfl, ?_⟩)
      | (refine bodyPost_ret (v := .agg #[.slice none 0 0]) (by simp [results, Try.results95, go_sem]) rfl ?_; refine ⟨rfl, ?_⟩)
    refine Below.alloc (Below.alloc (Below.refl _ _) ?_ _) ?_ _
    · simp only [World.size_setCell]; exact Nat.le_refl _
    · simp only [World.size_alloc, World.size_setCell]; omega

/-- what a method leaves -/
def RetK (w : World) (mb : Nat) (bad : Bool) (o : Option Sur) (e : Ending) (w' : World) : Prop :=
  ∃ A c, e = .returned (.agg #[.slice A (keepS bad o).len c]) ∧ SFresh w.heap.size w' (keepS bad o) A c ∧ Below w.heap.size (w.setCell ⟨mb, 0, none⟩ (.bool (bad || !o.isSome))) w'
theorem keepV_len {bad : Bool} {o : Option Sur} {A : Option Addr} {c B : Nat} {w : World} (h : SFresh B w (o.getD .nil) A c) : ∃ A' c', keepV (bad || !o.isSome) (.slice A (o.getD .nil).len c) = .slice A' (keepS bad o).len c' ∧ SFresh B w (keepS bad o) A' c' := by
  unfold keepV keepS
  split
  · exact ⟨none, 0, rfl, SFresh.nil _ _⟩
  · exact ⟨A, c, rfl, h⟩

set_option maxHeartbeats 400000 in
theorem kmul_any (x y : Sur) (bad : Bool) (mb : Nat) (X Y : Nat → Prop) (A A' : Option Addr) (c c' : Nat) (w : World) (sx : SSl X w x A c) (sy : SSl Y w y A' c') (gx : sGood x = true) (gy : sGood y = true) (hm : w.cell? ⟨mb, 0, none⟩ = some (.bool bad)) (hf : w.frozen? ⟨mb, 0, none⟩ = false) :
    Calls Try.prog 58 #[.pointer (some ⟨mb, 0, none⟩), .agg #[.slice A x.len c], .agg #[.slice A' y.len c']] w (RetK w mb bad (prodS x y)) := by
  have hlt : mb < w.heap.size := World.block_lt_of_cell? w ⟨mb, 0, none⟩ hm
  have k0 := (((Blk.new w 26 #[.slice A x.len c]).alloc (.cells #[.slice A' y.len c'] 26)).alloc (.cells #[.slice none 0 0] 26))
  have k1 := ((Blk.new' (g := w.heap.size + 1) (w.alloc (.cells #[.slice A x.len c] 26)) 26 #[.slice A' y.len c'] (by simp)).alloc (.cells #[.slice none 0 0] 26))
  have k2 := (Blk.new' (g := w.heap.size + 1 + 1) ((w.alloc (.cells #[.slice A x.len c] 26)).alloc (.cells #[.slice A' y.len c'] 26)) 26 #[.slice none 0 0] (by simp))
  have hB0 : Below w.heap.size w (((w.alloc (.cells #[.slice A x.len c] 26)).alloc (.cells #[.slice A' y.len c'] 26)).alloc (.cells #[.slice none 0 0] 26)) := by go_grown
  go_enter Try.func58, Try.ntmps58
  go_wp2_with fail
  refine (suProduct_any x y _ _ _ _ _ _ _ (sx.below hB0) (sy.below hB0) gx gy).mono ?_
  rintro e1 w1 ⟨A1, c1, rfl, hf1, hb1⟩
  have hB1 := Below.call hB0 (by go_size) hb1
  have l2 := k2.call hb1
  go_wp2_with fail
  refine (keep_any _ bad mb A1 _ c1 _ (by rw [hB1.cell (p := ⟨mb, 0, none⟩) hlt]; exact hm) (by rw [hB1.frozen (p := ⟨mb, 0, none⟩) hlt]; exact hf)).mono ?_
  rintro e2 w2 ⟨rfl, hb2⟩
  obtain ⟨q2, qf2⟩ := (l2.q (by omega) hb2).c1
  have hq2 := q_set hB1.size hB1 hb2
  obtain ⟨A2, c2, hv, hf2⟩ := keepV_len (bad := bad) (hf1.q (by go_size) hb2)
  rw [hv]
  clear hv
  go_wp2
  refine bodyPost_ret (v := .agg #[.slice A2 (keepS bad (prodS x y)).len c2]) (by simp [results, Try.results58, go_sem, q2]) rfl ?_
  exact ⟨A2, c2, rfl, (hf2.setCell (p := ⟨w.heap.size + 1 + 1, 0, none⟩) k2.lt _).mono (by go_size), hq2.setCell (by simp; omega) _⟩

set_option maxHeartbeats 400000 in
theorem kadd_any (x y : Sur) (bad : Bool) (mb : Nat) (X Y : Nat → Prop) (A A' : Option Addr) (c c' : Nat) (w : World) (sx : SSl X w x A c) (sy : SSl Y w y A' c') (gx : sGood x = true) (gy : sGood y = true) (hm : w.cell? ⟨mb, 0, none⟩ = some (.bool bad)) (hf : w.frozen? ⟨mb, 0, none⟩ = false) :
    Calls Try.prog 59 #[.pointer (some ⟨mb, 0, none⟩), .agg #[.slice A x.len c], .agg #[.slice A' y.len c']] w (RetK w mb bad (sumS x y)) := by
  have hlt : mb < w.heap.size := World.block_lt_of_cell? w ⟨mb, 0, none⟩ hm
  have hgx := sGood_len gx
  have hgy := sGood_len gy
  have k0 := (((Blk.new w 26 #[.slice A x.len c]).alloc (.cells #[.slice A' y.len c'] 26)).alloc (.cells #[.slice none 0 0] 26))
  have k1 := ((Blk.new' (g := w.heap.size + 1) (w.alloc (.cells #[.slice A x.len c] 26)) 26 #[.slice A' y.len c'] (by simp)).alloc (.cells #[.slice none 0 0] 26))
  have k2 := (Blk.new' (g := w.heap.size + 1 + 1) ((w.alloc (.cells #[.slice A x.len c] 26)).alloc (.cells #[.slice A' y.len c'] 26)) 26 #[.slice none 0 0] (by simp))
  have hB0 : Below w.heap.size w (((w.alloc (.cells #[.slice A x.len c] 26)).alloc (.cells #[.slice A' y.len c'] 26)).alloc (.cells #[.slice none 0 0] 26)) := by go_grown
  go_enter Try.func59, Try.ntmps59
  go_wp2_with fail
  refine (suSum_any x y _ _ _ _ _ _ _ (sx.below hB0) (sy.below hB0) hgx.2.2 hgy.2.2 (by omega)).mono ?_
  rintro e1 w1 ⟨A1, c1, rfl, hf1, hb1⟩
  have hB1 := Below.call hB0 (by go_size) hb1
  have l2 := k2.call hb1
  go_wp2_with fail
  refine (keep_any _ bad mb A1 _ c1 _ (by rw [hB1.cell (p := ⟨mb, 0, none⟩) hlt]; exact hm) (by rw [hB1.frozen (p := ⟨mb, 0, none⟩) hlt]; exact hf)).mono ?_
  rintro e2 w2 ⟨rfl, hb2⟩
  obtain ⟨q2, qf2⟩ := (l2.q (by omega) hb2).c1
  have hq2 := q_set hB1.size hB1 hb2
  obtain ⟨A2, c2, hv, hf2⟩ := keepV_len (bad := bad) (hf1.q (by go_size) hb2)
  rw [hv]
  clear hv
  go_wp2
  refine bodyPost_ret (v := .agg #[.slice A2 (keepS bad (sumS x y)).len c2]) (by simp [results, Try.results59, go_sem, q2]) rfl ?_
  exact ⟨A2, c2, rfl, (hf2.setCell (p := ⟨w.heap.size + 1 + 1, 0, none⟩) k2.lt _).mono (by go_size), hq2.setCell (by simp; omega) _⟩

theorem sGood_real {a b : Int} (h : fracOk a b = true) : sGood (termP .nil a b) = true := by
  unfold termP
  split
  · exact sGood_nil
  · rename_i ha
    simp [sGood, sOk, formT, Sur.nodes, prevOk, h, ha]

set_option maxHeartbeats 1600000 in
theorem kscale_any (x : Sur) (fa fb : Int) (bad : Bool) (mb : Nat) (X : Nat → Prop) (A : Option Addr) (c : Nat) (w : World) (sx : SSl X w x A c) (gx : sGood x = true) (hfr : fracOk fa fb = true) (hm : w.cell? ⟨mb, 0, none⟩ = some (.bool bad)) (hf : w.frozen? ⟨mb, 0, none⟩ = false) :
    Calls Try.prog 57 #[.pointer (some ⟨mb, 0, none⟩), .agg #[.slice A x.len c], .agg #[.int .i64 fa, .int .i64 fb]] w (RetK w mb bad (prodS x (termP .nil fa fb))) := by
  have hlt : mb < w.heap.size := World.block_lt_of_cell? w ⟨mb, 0, none⟩ hm
  have sx := sx.more (Y := fun _ => False) (fun _ h => h.elim)
  have hI := fracOk_I64 hfr
  have hgr := sGood_real hfr
  clear hfr
  have k0 := (((Blk.new w 26 #[.slice A x.len c]).alloc (.cells #[.int .i64 fa, .int .i64 fb] 29)).alloc (.cells #[.slice none 0 0] 26))
  have k1 := ((Blk.new' (g := w.heap.size + 1) (w.alloc (.cells #[.slice A x.len c] 26)) 29 #[.int .i64 fa, .int .i64 fb] (by simp)).alloc (.cells #[.slice none 0 0] 26))
  have k2 := (Blk.new' (g := w.heap.size + 1 + 1) ((w.alloc (.cells #[.slice A x.len c] 26)).alloc (.cells #[.int .i64 fa, .int .i64 fb] 29)) 26 #[.slice none 0 0] (by simp))
  have hB0 : Below w.heap.size w (((w.alloc (.cells #[.slice A x.len c] 26)).alloc (.cells #[.int .i64 fa, .int .i64 fb] 29)).alloc (.cells #[.slice none 0 0] 26)) := by go_grown
  have hne1 : ¬ w.heap.size = w.heap.size + 1 + 1 := by omega
  have hne2 : ¬ w.heap.size + 1 + 1 = w.heap.size := by omega
  go_enter Try.func57, Try.ntmps57
  go_wp2_with fail
  refine wp_region_held_drew (S := (fun w' => w'.cell? ⟨w.heap.size, 0, none⟩ = some (.slice A x.len c) ∧ w'.cell? ⟨w.heap.size + 1, 0, none⟩ = some (.int .i64 fa) ∧ w'.cell? ⟨w.heap.size + 1, 1, none⟩ = some (.int .i64 fb))) (by kernel_rfl) ?hSn1_ (fun hHeld => ?hRn1_)
  case hSn1_ => (go_keep)
  refine wpAnyH_take (i := 0) (oi := _) (v := ?vn1_0) rfl (by kernel_rfl) (by kernel_rfl) (by kernel_rfl) (fun _ _ _ h => h) (Or.inl ⟨by rfl, ?hyn1_0⟩) (by assumption) ?hRn1_0
  case hyn1_0 => (intro w hSw; (try dsimp only at hSw); go_simp; (try with_reducible rfl))
  try simp only [Act.put, List.getElem_toArray, List.getElem_cons_zero, List.getElem_cons_succ, List.setIfInBounds_toArray, List.set_cons_zero, List.set_cons_succ]
  refine wpAnyH_take (i := 1) (oi := _) (v := ?vn1_1) rfl (by kernel_rfl) (by kernel_rfl) (by kernel_rfl) (fun _ _ _ h => h) (Or.inl ⟨by rfl, ?hyn1_1⟩) (by assumption) ?hRn1_1
  case hyn1_1 => (intro w hSw; (try dsimp only at hSw); go_simp; (try with_reducible rfl))
  try simp only [Act.put, List.getElem_toArray, List.getElem_cons_zero, List.getElem_cons_succ, List.setIfInBounds_toArray, List.set_cons_zero, List.set_cons_succ]
  refine wpAnyH_take (i := 2) (oi := _) (v := ?vn1_2) rfl (by kernel_rfl) (by kernel_rfl) (by kernel_rfl) (fun _ _ _ h => h) (Or.inl ⟨by rfl, ?hyn1_2⟩) (by assumption) ?hRn1_2
  case hyn1_2 => (intro w hSw; (try dsimp only at hSw); go_simp; (try with_reducible rfl))
  try simp only [Act.put, List.getElem_toArray, List.getElem_cons_zero, List.getElem_cons_succ, List.setIfInBounds_toArray, List.set_cons_zero, List.set_cons_succ]
  refine wpAnyH_ready (rs := [3]) (by kernel_rfl) (by simp) ?_
  refine AllReadyH.cons (o := _) rfl (fun K hK => ?_) AllReadyH.nil
  go_simp
  (go_at_call 94; refine (suReal_any fa fb (fun _ => False) _ (fun _ h => h.elim) hI.1 hI.2).mono ?_; rintro e1 w1 ⟨A1, c1, rfl, hs1, hb1⟩; have hB1 : Below w.heap.size w w1 := hB0.trans (Below.call (w := _) (by go_grown) (by go_size) hb1); have l0 := Blk.thru k0 (by go_grown) hb1; have l1 := Blk.thru k1 (by go_grown) hb1; have l2 := Blk.thru k2 (by go_grown) hb1; obtain ⟨a0, _⟩ := l0.c1; obtain ⟨a1, a2, _, _⟩ := l1.c2)
  go_wp2_with fail
  refine hK.out _ _ ?hSn1_3 (fun hHeld => ?hRn1_3)
  case hSn1_3 => ((try dsimp only); go_keep)
  clear hK K
  try simp only [Act.put, List.getElem_toArray, List.getElem_cons_zero, List.getElem_cons_succ, List.setIfInBounds_toArray, List.set_cons_zero, List.set_cons_succ]
  refine wpAnyH_ready (rs := [4]) (by kernel_rfl) (by simp) ?_
  refine AllReadyH.cons (o := _) rfl (fun K hK => ?_) AllReadyH.nil
  go_simp
  (go_at_call 96; refine (suProduct_any x (termP .nil fa fb) _ _ _ _ _ _ _ (sx.below hB1) hs1 gx hgr).mono ?_; rintro e2 w2 ⟨A2, c2, rfl, hf2, hb2⟩; have hB2 : Below w.heap.size w w2 := hB1.trans (hb2.mono hB1.size); have m0 := l0.call hb2; have m1 := l1.call hb2; have m2 := l2.call hb2; obtain ⟨b0, _⟩ := m0.c1; obtain ⟨b1, b2, _, _⟩ := m1.c2)
  go_wp2_with fail
  refine hK.out _ _ ?hSn1_4 (fun hHeld => ?hRn1_4)
  case hSn1_4 => ((try dsimp only); go_keep)
  clear hK K
  try simp only [Act.put, List.getElem_toArray, List.getElem_cons_zero, List.getElem_cons_succ, List.setIfInBounds_toArray, List.set_cons_zero, List.set_cons_succ]
  refine wpAnyH_take (i := 5) (oi := _) (v := ?vn1_5) rfl (by kernel_rfl) (by kernel_rfl) (by kernel_rfl) (fun _ _ _ h => h) (Or.inl ⟨by rfl, ?hyn1_5⟩) (by assumption) ?hRn1_5
  case hyn1_5 => (intro w hSw; (try dsimp only at hSw); go_simp; (try with_reducible rfl))
  try simp only [Act.put, List.getElem_toArray, List.getElem_cons_zero, List.getElem_cons_succ, List.setIfInBounds_toArray, List.set_cons_zero, List.set_cons_succ]
  refine wpAnyH_take (i := 6) (oi := _) (v := ?vn1_6) rfl (by kernel_rfl) (by kernel_rfl) (by kernel_rfl) (fun _ _ _ h => h) (Or.inl ⟨by rfl, ?hyn1_6⟩) (by assumption) ?hRn1_6
  case hyn1_6 => (intro w hSw; (try dsimp only at hSw); go_simp; (try with_reducible rfl))
  try simp only [Act.put, List.getElem_toArray, List.getElem_cons_zero, List.getElem_cons_succ, List.setIfInBounds_toArray, List.set_cons_zero, List.set_cons_succ]
  refine wpAnyH_ready (rs := [7]) (by kernel_rfl) (by simp) ?_
  refine AllReadyH.cons (o := _) rfl (fun K hK => ?_) AllReadyH.nil
  go_simp
  (go_at_call 95; refine (keep_any _ bad mb A2 _ c2 _ (by rw [hB2.cell (p := ⟨mb, 0, none⟩) hlt]; exact hm) (by rw [hB2.frozen (p := ⟨mb, 0, none⟩) hlt]; exact hf)).mono ?_; rintro e3 w3 ⟨rfl, hb3⟩; have n0 := m0.q (by omega) hb3; have n1 := m1.q (by omega) hb3; have n2 := m2.q (by omega) hb3; obtain ⟨A3, c3, hv, hf3⟩ := keepV_len (bad := bad) (hf2.q (by have := hB1.size; omega) hb3); rw [hv]; clear hv; obtain ⟨d0, _⟩ := n0.c1; obtain ⟨d1, d2, _, _⟩ := n1.c2; obtain ⟨d3, df3⟩ := n2.c1; have hq3 := q_set hB2.size hB2 hb3)
  go_wp2_with fail
  refine hK.out _ _ ?hSn1_7 (fun hHeld => ?hRn1_7)
  case hSn1_7 => ((try dsimp only); go_keep)
  clear hK K
  try simp only [Act.put, List.getElem_toArray, List.getElem_cons_zero, List.getElem_cons_succ, List.setIfInBounds_toArray, List.set_cons_zero, List.set_cons_succ]
  refine wpAnyH_ready (rs := [8]) (by kernel_rfl) (by simp) ?_
  refine AllReadyH.cons (o := _) rfl (fun K hK => ?_) AllReadyH.nil
  go_simp
  refine hK.out _ _ ?hSn1_8 (fun hHeld => ?hRn1_8)
  case hSn1_8 => ((try dsimp only); go_keep)
  clear hK K
  try simp only [Act.put, List.getElem_toArray, List.getElem_cons_zero, List.getElem_cons_succ, List.setIfInBounds_toArray, List.set_cons_zero, List.set_cons_succ]
  refine wpAnyH_done (by kernel_rfl) ?_ _
  go_wp2
  refine bodyPost_ret (v := .agg #[.slice A3 (keepS bad (prodS x (termP .nil fa fb))).len c3]) (by simp [results, Try.results57, go_sem, d3]) rfl ?_
  have hz := hb1.size
  simp only [World.size_alloc, World.size_drew] at hz
  exact ⟨A3, c3, rfl, (hf3.setCell (p := ⟨w.heap.size + 1 + 1, 0, none⟩) (by dsimp only; omega) _).mono (by omega), hq3.setCell (by simp; omega) _⟩

set_option maxHeartbeats 400000 in
theorem seSteps_any (n : Int) (w : World) :
    Calls Try.prog 55 #[.int .i64 n] w fun e w' => e = .returned (.bool (stepsB n)) ∧ w = w' := by
  go_enter Try.func55, Try.ntmps55
  go_wp2_with (go_at_call 93; refine (l1In_any _ _ _ _).mono ?_; rintro e w' ⟨rfl, rfl⟩)
  go_ret
  exact ⟨rfl, rfl⟩
end Go.Proofs.Ytphabopnbcgodaa
