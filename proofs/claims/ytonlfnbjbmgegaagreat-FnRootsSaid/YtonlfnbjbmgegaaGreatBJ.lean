/-
  Walks, the reference's side: arithmetic until something fails.
  Walks, the reference's side: fractions until something fails.
-/
import Derived.Test.YtonlfnbjbmgegaaGreatSP
import Derived.Test.YtonlfnbjbmgegaaGreatBI
namespace Go.Proofs.YtonlfnbjbmgegaaGreat
open Go.RowKit
open List renaming getElem_toArray → zp1, getElem_cons_zero → zp2, getElem_cons_succ → zp3, setIfInBounds_toArray → zp4, set_cons_zero → zp5, set_cons_succ → zp6
set_option linter.unusedSimpArgs false
set_option linter.unusedVariables false

/-- what is kept of a result -/
def keepS (bad : Bool) (o : Option Sur) : Sur := if (bad || !o.isSome) = true then .nil else o.getD .nil
def keepV (b : Bool) (v : Value) : Value := if b = true then .slice none 0 0 else v

set_option maxHeartbeats 400000 in
theorem keep_any (ok bad : Bool) (mb : Nat) (A : Option Addr) (m c : Nat) (w : World) (hm : w.cell? ⟨mb, 0, none⟩ = some (.bool bad)) (hf : w.frozen? ⟨mb, 0, none⟩ = false) :
    Calls Tryz.prog 107 #[.pointer (some ⟨mb, 0, none⟩), .agg #[.slice A m c], .bool ok] w fun e w' => e = .returned (.agg #[keepV (bad || !ok) (.slice A m c)]) ∧ Below w.heap.size (w.setCell ⟨mb, 0, none⟩ (.bool (bad || !ok))) w' := by
  have hlt : mb < w.heap.size := World.block_lt_of_cell? w ⟨mb, 0, none⟩ hm
  have hn1 : ¬ mb = w.heap.size := by omega
  have hn2 : ¬ mb = w.heap.size + 1 := by omega
  have hn3 : ¬ w.heap.size = mb := by omega
  have hn4 : ¬ w.heap.size + 1 = mb := by omega
  cases bad <;> cases ok
  all_goals
    go_enter Tryz.func107, Tryz.ntmps107
    go_wp2
    first
      | (refine bodyPost_ret (v := .agg #[.slice A m c]) (by simp [results, Tryz.results107, go_sem]) rfl ?_; refine ⟨rfl, ?_⟩)
      | (refine bodyPost_ret (v := .agg #[.slice none 0 0]) (by simp [results, Tryz.results107, go_sem]) rfl ?_; refine ⟨rfl, ?_⟩)
    refine Below.alloc (Below.alloc (Below.refl _ _) ?_ _) ?_ _
    · simp only [World.size_setCell]; exact Nat.le_refl _
    · simp only [World.size_alloc, World.size_setCell]; omega

/-- what a method leaves -/
def RetK (w : World) (mb : Nat) (bad : Bool) (o : Option Sur) (e : Ending) (w' : World) : Prop :=
  ∃ A c, e = .returned (.agg #[.slice A (keepS bad o).len c]) ∧ SFresh w.heap.size w' (keepS bad o) A c ∧ Below w.heap.size (w.setCell ⟨mb, 0, none⟩ (.bool (bad || !o.isSome))) w'
theorem keepV_len {bad : Bool} {o : Option Sur} {A : Option Addr} {c B : Nat} {w : World} (h : SFresh B w (o.getD .nil) A c) : ∃ A' c', keepV (bad || !o.isSome) (.slice A (o.getD .nil).len c) = .slice A' (keepS bad o).len c' ∧ SFresh B w (keepS bad o) A' c' := by
  unfold keepV keepS
  split
  · exact ⟨none, 0, rfl, SFresh.nil _ _⟩
  · exact ⟨A, c, rfl, h⟩

set_option maxHeartbeats 400000 in
theorem kmul_any (x y : Sur) (bad : Bool) (mb : Nat) (X Y : Nat → Prop) (A A' : Option Addr) (c c' : Nat) (w : World) (sx : SSl X w x A c) (sy : SSl Y w y A' c') (gx : sGood x = true) (gy : sGood y = true) (hm : w.cell? ⟨mb, 0, none⟩ = some (.bool bad)) (hf : w.frozen? ⟨mb, 0, none⟩ = false) :
    Calls Tryz.prog 61 #[.pointer (some ⟨mb, 0, none⟩), .agg #[.slice A x.len c], .agg #[.slice A' y.len c']] w (RetK w mb bad (prodS x y)) := by
  have hlt : mb < w.heap.size := World.block_lt_of_cell? w ⟨mb, 0, none⟩ hm
  have k0 := (((Blk.new w 26 #[.slice A x.len c]).alloc (.cells #[.slice A' y.len c'] 26)).alloc (.cells #[.slice none 0 0] 26))
  have k1 := ((Blk.new' (g := w.heap.size + 1) (w.alloc (.cells #[.slice A x.len c] 26)) 26 #[.slice A' y.len c'] (by simp)).alloc (.cells #[.slice none 0 0] 26))
  have k2 := (Blk.new' (g := w.heap.size + 1 + 1) ((w.alloc (.cells #[.slice A x.len c] 26)).alloc (.cells #[.slice A' y.len c'] 26)) 26 #[.slice none 0 0] (by simp))
  have hB0 : Below w.heap.size w (((w.alloc (.cells #[.slice A x.len c] 26)).alloc (.cells #[.slice A' y.len c'] 26)).alloc (.cells #[.slice none 0 0] 26)) := by go_grown
  go_enter Tryz.func61, Tryz.ntmps61
  go_wp2_with fail
  refine (suProduct_any x y _ _ _ _ _ _ _ (sx.below hB0) (sy.below hB0) gx gy).mono ?_
  rintro e1 w1 ⟨A1, c1, rfl, hf1, hb1⟩
  have hB1 := Below.call hB0 (by go_size) hb1
  have l2 := k2.call hb1
  go_wp2_with fail
  refine (keep_any _ bad mb A1 _ c1 _ (by rw [hB1.cell (p := ⟨mb, 0, none⟩) hlt]; exact hm) (by rw [hB1.frozen (p := ⟨mb, 0, none⟩) hlt]; exact hf)).mono ?_
  rintro e2 w2 ⟨rfl, hb2⟩
  obtain ⟨q2, qf2⟩ := (l2.q (by omega) hb2).c1
  have hq2 := q_set hB1.size hB1 hb2
  obtain ⟨A2, c2, hv, hf2⟩ := keepV_len (bad := bad) (hf1.q (by go_size) hb2)
  rw [hv]
  clear hv
  go_wp2
  refine bodyPost_ret (v := .agg #[.slice A2 (keepS bad (prodS x y)).len c2]) (by simp [results, Tryz.results61, go_sem, q2]) rfl ?_
  exact ⟨A2, c2, rfl, (hf2.setCell (p := ⟨w.heap.size + 1 + 1, 0, none⟩) k2.lt _).mono (by go_size), hq2.setCell (by simp; omega) _⟩

set_option maxHeartbeats 400000 in
theorem kadd_any (x y : Sur) (bad : Bool) (mb : Nat) (X Y : Nat → Prop) (A A' : Option Addr) (c c' : Nat) (w : World) (sx : SSl X w x A c) (sy : SSl Y w y A' c') (gx : sGood x = true) (gy : sGood y = true) (hm : w.cell? ⟨mb, 0, none⟩ = some (.bool bad)) (hf : w.frozen? ⟨mb, 0, none⟩ = false) :
    Calls Tryz.prog 58 #[.pointer (some ⟨mb, 0, none⟩), .agg #[.slice A x.len c], .agg #[.slice A' y.len c']] w (RetK w mb bad (sumS x y)) := by
  have hlt : mb < w.heap.size := World.block_lt_of_cell? w ⟨mb, 0, none⟩ hm
  have hgx := sGood_len gx
  have hgy := sGood_len gy
  have k0 := (((Blk.new w 26 #[.slice A x.len c]).alloc (.cells #[.slice A' y.len c'] 26)).alloc (.cells #[.slice none 0 0] 26))
  have k1 := ((Blk.new' (g := w.heap.size + 1) (w.alloc (.cells #[.slice A x.len c] 26)) 26 #[.slice A' y.len c'] (by simp)).alloc (.cells #[.slice none 0 0] 26))
  have k2 := (Blk.new' (g := w.heap.size + 1 + 1) ((w.alloc (.cells #[.slice A x.len c] 26)).alloc (.cells #[.slice A' y.len c'] 26)) 26 #[.slice none 0 0] (by simp))
  have hB0 : Below w.heap.size w (((w.alloc (.cells #[.slice A x.len c] 26)).alloc (.cells #[.slice A' y.len c'] 26)).alloc (.cells #[.slice none 0 0] 26)) := by go_grown
  go_enter Tryz.func58, Tryz.ntmps58
  go_wp2_with fail
  refine (suSum_any x y _ _ _ _ _ _ _ (sx.below hB0) (sy.below hB0) hgx.2.2 hgy.2.2 (by omega)).mono ?_
  rintro e1 w1 ⟨A1, c1, rfl, hf1, hb1⟩
  have hB1 := Below.call hB0 (by go_size) hb1
  have l2 := k2.call hb1
  go_wp2_with fail
  refine (keep_any _ bad mb A1 _ c1 _ (by rw [hB1.cell (p := ⟨mb, 0, none⟩) hlt]; exact hm) (by rw [hB1.frozen (p := ⟨mb, 0, none⟩) hlt]; exact hf)).mono ?_
  rintro e2 w2 ⟨rfl, hb2⟩
  obtain ⟨q2, qf2⟩ := (l2.q (by omega) hb2).c1
  have hq2 := q_set hB1.size hB1 hb2
  obtain ⟨A2, c2, hv, hf2⟩ := keepV_len (bad := bad) (hf1.q (by go_size) hb2)
  rw [hv]
  clear hv
  go_wp2
  refine bodyPost_ret (v := .agg #[.slice A2 (keepS bad (sumS x y)).len c2]) (by simp [results, Tryz.results58, go_sem, q2]) rfl ?_
  exact ⟨A2, c2, rfl, (hf2.setCell (p := ⟨w.heap.size + 1 + 1, 0, none⟩) k2.lt _).mono (by go_size), hq2.setCell (by simp; omega) _⟩

theorem sGood_real {a b : Int} (h : fracOk a b = true) : sGood (termP .nil a b) = true := by
  unfold termP
  split
  · exact sGood_nil
  · rename_i ha
    simp [sGood, sOk, formT, Sur.nodes, prevOk, h, ha]

set_option maxHeartbeats 1600000 in
theorem kscale_any (x : Sur) (fa fb : Int) (bad : Bool) (mb : Nat) (X : Nat → Prop) (A : Option Addr) (c : Nat) (w : World) (sx : SSl X w x A c) (gx : sGood x = true) (hfr : fracOk fa fb = true) (hm : w.cell? ⟨mb, 0, none⟩ = some (.bool bad)) (hf : w.frozen? ⟨mb, 0, none⟩ = false) :
    Calls Tryz.prog 95 #[.pointer (some ⟨mb, 0, none⟩), .agg #[.slice A x.len c], .agg #[.int .i64 fa, .int .i64 fb]] w (RetK w mb bad (prodS x (termP .nil fa fb))) := by
  have hlt : mb < w.heap.size := World.block_lt_of_cell? w ⟨mb, 0, none⟩ hm
  have sx := sx.more (Y := fun _ => False) (fun _ h => h.elim)
  have hI := fracOk_I64 hfr
  have hgr := sGood_real hfr
  clear hfr
  have k0 := (((Blk.new w 26 #[.slice A x.len c]).alloc (.cells #[.int .i64 fa, .int .i64 fb] 68)).alloc (.cells #[.slice none 0 0] 26))
  have k1 := ((Blk.new' (g := w.heap.size + 1) (w.alloc (.cells #[.slice A x.len c] 26)) 68 #[.int .i64 fa, .int .i64 fb] (by simp)).alloc (.cells #[.slice none 0 0] 26))
  have k2 := (Blk.new' (g := w.heap.size + 1 + 1) ((w.alloc (.cells #[.slice A x.len c] 26)).alloc (.cells #[.int .i64 fa, .int .i64 fb] 68)) 26 #[.slice none 0 0] (by simp))
  have hB0 : Below w.heap.size w (((w.alloc (.cells #[.slice A x.len c] 26)).alloc (.cells #[.int .i64 fa, .int .i64 fb] 68)).alloc (.cells #[.slice none 0 0] 26)) := by go_grown
  have hne1 : ¬ w.heap.size = w.heap.size + 1 + 1 := by omega
  have hne2 : ¬ w.heap.size + 1 + 1 = w.heap.size := by omega
  go_enter Tryz.func95, Tryz.ntmps95
  go_wp2_with fail
  refine wp_region_held_drew (S := (fun w' => w'.cell? ⟨w.heap.size, 0, none⟩ = some (.slice A x.len c) ∧ w'.cell? ⟨w.heap.size + 1, 0, none⟩ = some (.int .i64 fa) ∧ w'.cell? ⟨w.heap.size + 1, 1, none⟩ = some (.int .i64 fb))) (by kernel_rfl) ?hSn1_ (fun hHeld => ?hRn1_)
  case hSn1_ => (go_keep)
  refine wpAnyH_take (i := 0) (v := ?vn1_0) rfl (by kernel_rfl) (by kernel_rfl) (by kernel_rfl) (fun _ _ _ h => h) (Or.inl ⟨by rfl, ?hyn1_0⟩) (by assumption) ?hRn1_0
  case hyn1_0 => (intro w hSw; (try dsimp only at hSw); go_simp; (try with_reducible rfl))
  try simp only [Act.put, zp1, zp2, zp3, zp4, zp5, zp6]
  refine wpAnyH_take (i := 1) (v := ?vn1_1) rfl (by kernel_rfl) (by kernel_rfl) (by kernel_rfl) (fun _ _ _ h => h) (Or.inl ⟨by rfl, ?hyn1_1⟩) (by assumption) ?hRn1_1
  case hyn1_1 => (intro w hSw; (try dsimp only at hSw); go_simp; (try with_reducible rfl))
  try simp only [Act.put, zp1, zp2, zp3, zp4, zp5, zp6]
  refine wpAnyH_take (i := 2) (v := ?vn1_2) rfl (by kernel_rfl) (by kernel_rfl) (by kernel_rfl) (fun _ _ _ h => h) (Or.inl ⟨by rfl, ?hyn1_2⟩) (by assumption) ?hRn1_2
  case hyn1_2 => (intro w hSw; (try dsimp only at hSw); go_simp; (try with_reducible rfl))
  try simp only [Act.put, zp1, zp2, zp3, zp4, zp5, zp6]
  refine wpAnyH_ready (rs := [3]) (by kernel_rfl) (by simp) ?_
  refine AllReadyH.cons rfl (fun K hK => ?_) AllReadyH.nil
  go_simp
  (go_at_call 68; refine (suReal_any fa fb (fun _ => False) _ (fun _ h => h.elim) hI.1 hI.2).mono ?_; rintro e1 w1 ⟨A1, c1, rfl, hs1, hb1⟩; have hB1 : Below w.heap.size w w1 := hB0.trans (Below.call (w := _) (by go_grown) (by go_size) hb1); have l0 := Blk.thru k0 (by go_grown) hb1; have l1 := Blk.thru k1 (by go_grown) hb1; have l2 := Blk.thru k2 (by go_grown) hb1; obtain ⟨a0, _⟩ := l0.c1; obtain ⟨a1, a2, _, _⟩ := l1.c2)
  go_wp2_with fail
  refine hK.out _ _ ?hSn1_3 (fun hHeld => ?hRn1_3)
  case hSn1_3 => ((try dsimp only); go_keep)
  clear hK K
  try simp only [Act.put, zp1, zp2, zp3, zp4, zp5, zp6]
  refine wpAnyH_ready (rs := [4]) (by kernel_rfl) (by simp) ?_
  refine AllReadyH.cons rfl (fun K hK => ?_) AllReadyH.nil
  go_simp
  (go_at_call 26; refine (suProduct_any x (termP .nil fa fb) _ _ _ _ _ _ _ (sx.below hB1) hs1 gx hgr).mono ?_; rintro e2 w2 ⟨A2, c2, rfl, hf2, hb2⟩; have hB2 : Below w.heap.size w w2 := hB1.trans (hb2.mono hB1.size); have m0 := l0.call hb2; have m1 := l1.call hb2; have m2 := l2.call hb2; obtain ⟨b0, _⟩ := m0.c1; obtain ⟨b1, b2, _, _⟩ := m1.c2)
  go_wp2_with fail
  refine hK.out _ _ ?hSn1_4 (fun hHeld => ?hRn1_4)
  case hSn1_4 => ((try dsimp only); go_keep)
  clear hK K
  try simp only [Act.put, zp1, zp2, zp3, zp4, zp5, zp6]
  refine wpAnyH_take (i := 5) (v := ?vn1_5) rfl (by kernel_rfl) (by kernel_rfl) (by kernel_rfl) (fun _ _ _ h => h) (Or.inl ⟨by rfl, ?hyn1_5⟩) (by assumption) ?hRn1_5
  case hyn1_5 => (intro w hSw; (try dsimp only at hSw); go_simp; (try with_reducible rfl))
  try simp only [Act.put, zp1, zp2, zp3, zp4, zp5, zp6]
  refine wpAnyH_take (i := 6) (v := ?vn1_6) rfl (by kernel_rfl) (by kernel_rfl) (by kernel_rfl) (fun _ _ _ h => h) (Or.inl ⟨by rfl, ?hyn1_6⟩) (by assumption) ?hRn1_6
  case hyn1_6 => (intro w hSw; (try dsimp only at hSw); go_simp; (try with_reducible rfl))
  try simp only [Act.put, zp1, zp2, zp3, zp4, zp5, zp6]
  refine wpAnyH_ready (rs := [7]) (by kernel_rfl) (by simp) ?_
  refine AllReadyH.cons rfl (fun K hK => ?_) AllReadyH.nil
  go_simp
  (go_at_call 107; refine (keep_any _ bad mb A2 _ c2 _ (by rw [hB2.cell (p := ⟨mb, 0, none⟩) hlt]; exact hm) (by rw [hB2.frozen (p := ⟨mb, 0, none⟩) hlt]; exact hf)).mono ?_; rintro e3 w3 ⟨rfl, hb3⟩; have n0 := m0.q (by omega) hb3; have n1 := m1.q (by omega) hb3; have n2 := m2.q (by omega) hb3; obtain ⟨A3, c3, hv, hf3⟩ := keepV_len (bad := bad) (hf2.q (by have := hB1.size; omega) hb3); rw [hv]; clear hv; obtain ⟨d0, _⟩ := n0.c1; obtain ⟨d1, d2, _, _⟩ := n1.c2; obtain ⟨d3, df3⟩ := n2.c1; have hq3 := q_set hB2.size hB2 hb3)
  go_wp2_with fail
  refine hK.out _ _ ?hSn1_7 (fun hHeld => ?hRn1_7)
  case hSn1_7 => ((try dsimp only); go_keep)
  clear hK K
  try simp only [Act.put, zp1, zp2, zp3, zp4, zp5, zp6]
  refine wpAnyH_ready (rs := [8]) (by kernel_rfl) (by simp) ?_
  refine AllReadyH.cons rfl (fun K hK => ?_) AllReadyH.nil
  go_simp
  refine hK.out _ _ ?hSn1_8 (fun hHeld => ?hRn1_8)
  case hSn1_8 => ((try dsimp only); go_keep)
  clear hK K
  try simp only [Act.put, zp1, zp2, zp3, zp4, zp5, zp6]
  refine wpAnyH_done (by kernel_rfl) ?_ _
  go_wp2
  refine bodyPost_ret (v := .agg #[.slice A3 (keepS bad (prodS x (termP .nil fa fb))).len c3]) (by simp [results, Tryz.results95, go_sem, d3]) rfl ?_
  have hz := hb1.size
  simp only [World.size_alloc, World.size_drew] at hz
  exact ⟨A3, c3, rfl, (hf3.setCell (p := ⟨w.heap.size + 1 + 1, 0, none⟩) (by dsimp only; omega) _).mono (by omega), hq3.setCell (by simp; omega) _⟩

set_option maxHeartbeats 400000 in
theorem seSteps_any (n : Int) (w : World) :
    Calls Tryz.prog 42 #[.int .i64 n] w fun e w' => e = .returned (.bool (stepsB n)) ∧ w = w' := by
  go_enter Tryz.func42, Tryz.ntmps42
  go_wp2_with (go_at_call 92; refine (l1In_any _ _ _ _).mono ?_; rintro e w' ⟨rfl, rfl⟩)
  go_ret
  exact ⟨rfl, rfl⟩
end Go.Proofs.YtonlfnbjbmgegaaGreat

namespace Go.Proofs.YtonlfnbjbmgegaaGreat
open Go.RowKit
set_option linter.unusedSimpArgs false
set_option linter.unusedVariables false

/-- what is kept of a fraction -/
def frB (bad : Bool) (n d : Int) : Bool := bad || !fracOk n d
def frN (b : Bool) (n : Int) : Int := if b = true then 1 else n
/-- what a method leaves -/
def RetF (w : World) (mb : Nat) (bad : Bool) (n d : Int) (e : Ending) (w' : World) : Prop :=
  e = .returned (.agg #[.int .i64 (frN (frB bad n d) n), .int .i64 (frN (frB bad n d) d)]) ∧ Below w.heap.size (w.setCell ⟨mb, 0, none⟩ (.bool (frB bad n d))) w'

set_option maxHeartbeats 800000 in
theorem fraction_any (n d : Int) (bad : Bool) (mb : Nat) (w : World) (hm : w.cell? ⟨mb, 0, none⟩ = some (.bool bad)) (hf : w.frozen? ⟨mb, 0, none⟩ = false) :
    Calls Tryz.prog 131 #[.pointer (some ⟨mb, 0, none⟩), .agg #[.int .i64 n, .int .i64 d]] w (RetF w mb bad n d) := by
  have hlt : mb < w.heap.size := World.block_lt_of_cell? w ⟨mb, 0, none⟩ hm
  have hn1 : ¬ mb = w.heap.size := by omega
  have hn2 : ¬ mb = w.heap.size + 1 := by omega
  have hn3 : ¬ w.heap.size = mb := by omega
  have hn4 : ¬ w.heap.size + 1 = mb := by omega
  have k0 := ((Blk.new w 68 #[.int .i64 n, .int .i64 d]).alloc (.cells #[.int .i64 0, .int .i64 0] 68))
  have k1 := (Blk.new' (g := w.heap.size + 1) (w.alloc (.cells #[.int .i64 n, .int .i64 d] 68)) 68 #[.int .i64 0, .int .i64 0] (by simp))
  have hB0 : Below w.heap.size w ((w.alloc (.cells #[.int .i64 n, .int .i64 d] 68)).alloc (.cells #[.int .i64 0, .int .i64 0] 68)) := by go_grown
  cases bad
  · cases hg : fracOk n d
    · go_enter Tryz.func131, Tryz.ntmps131
      go_wp2_with fail
      refine (shGood_any n d _).mono ?_
      rintro e1 w1 ⟨rfl, hb1⟩
      rw [hg]
      have hB1 := Below.call hB0 (by go_size) hb1
      have g0 : w1.cell? ⟨mb, 0, none⟩ = some (.bool false) := by rw [hB1.cell (p := ⟨mb, 0, none⟩) hlt]; exact hm
      have gf : w1.frozen? ⟨mb, 0, none⟩ = false := by rw [hB1.frozen (p := ⟨mb, 0, none⟩) hlt]; exact hf
      have l1 := k1.call hb1
      go_wp2_with fail
      refine (shInt_any 1 _).mono ?_
      rintro e2 w2 ⟨rfl, hb2⟩
      rw [World.size_setCell] at hb2
      obtain ⟨q0, q1, qf0, qf1⟩ := (l1.q (by omega) hb2).c2
      have hq := q_set hB1.size hB1 hb2
      go_wp2
      refine bodyPost_ret (v := .agg #[.int .i64 1, .int .i64 1]) (by simp [results, Tryz.results131, go_sem, q0, q1]) rfl ?_
      exact ⟨by simp [frB, frN, hg], by rw [show frB false n d = true by simp [frB, hg]]; exact (hq.setCell (by simp) _).setCell (by simp) _⟩
    · go_enter Tryz.func131, Tryz.ntmps131
      go_wp2_with fail
      refine (shGood_any n d _).mono ?_
      rintro e1 w1 ⟨rfl, hb1⟩
      rw [hg]
      have hB1 := Below.call hB0 (by go_size) hb1
      have g0 : w1.cell? ⟨mb, 0, none⟩ = some (.bool false) := by rw [hB1.cell (p := ⟨mb, 0, none⟩) hlt]; exact hm
      have gf : w1.frozen? ⟨mb, 0, none⟩ = false := by rw [hB1.frozen (p := ⟨mb, 0, none⟩) hlt]; exact hf
      have l0 := k0.call hb1
      have l1 := k1.call hb1
      obtain ⟨p0, p1, _, _⟩ := l0.c2
      obtain ⟨q0, q1, qf0, qf1⟩ := l1.c2
      go_wp2
      refine bodyPost_ret (v := .agg #[.int .i64 n, .int .i64 d]) (by simp [results, Tryz.results131, go_sem, q0, q1]) rfl ?_
      have hq := q_set (v := .bool false) (mb := mb) hB1.size hB1 (Below.refl _ _)
      exact ⟨by simp [frB, frN, hg], by rw [show frB false n d = false by simp [frB, hg]]; exact (hq.setCell (by simp) _).setCell (by simp) _⟩
  · go_enter Tryz.func131, Tryz.ntmps131
    go_wp2_with fail
    refine (shInt_any 1 _).mono ?_
    rintro e2 w2 ⟨rfl, hb2⟩
    have hB1' : Below w.heap.size (w.setCell ⟨mb, 0, none⟩ (.bool true)) w2 := by
      refine Below.trans ?_ (hb2.mono (by simp; omega))
      go_grown
    obtain ⟨q0, q1, qf0, qf1⟩ := (Blk.call (Blk.new' (g := w.heap.size + 1) ((w.setCell ⟨mb, 0, none⟩ (.bool true)).alloc (.cells #[.int .i64 n, .int .i64 d] 68)) 68 #[.int .i64 0, .int .i64 0] (by simp)) hb2).c2
    go_wp2
    refine bodyPost_ret (v := .agg #[.int .i64 1, .int .i64 1]) (by simp [results, Tryz.results131, go_sem, q0, q1]) rfl ?_
    exact ⟨by simp [frB, frN], by rw [show frB true n d = true from rfl]; exact (hB1'.setCell (by simp) _).setCell (by simp) _⟩

set_option maxHeartbeats 800000 in
theorem times_any (n d n' d' : Int) (bad : Bool) (mb : Nat) (w : World) (h : FOk n d) (h' : FOk n' d') (hm : w.cell? ⟨mb, 0, none⟩ = some (.bool bad)) (hf : w.frozen? ⟨mb, 0, none⟩ = false) :
    Calls Tryz.prog 96 #[.pointer (some ⟨mb, 0, none⟩), .agg #[.int .i64 n, .int .i64 d], .agg #[.int .i64 n', .int .i64 d']] w (RetF w mb bad (muN n d n' d') (muD n d n' d')) := by
  have hlt : mb < w.heap.size := World.block_lt_of_cell? w ⟨mb, 0, none⟩ hm
  have g := fracOk_iff.1 h
  have g' := fracOk_iff.1 h'
  have k0 := (((Blk.new w 68 #[.int .i64 n, .int .i64 d]).alloc (.cells #[.int .i64 n', .int .i64 d'] 68)).alloc (.cells #[.int .i64 0, .int .i64 0] 68))
  have k1 := ((Blk.new' (g := w.heap.size + 1) (w.alloc (.cells #[.int .i64 n, .int .i64 d] 68)) 68 #[.int .i64 n', .int .i64 d'] (by simp)).alloc (.cells #[.int .i64 0, .int .i64 0] 68))
  have k2 := (Blk.new' (g := w.heap.size + 1 + 1) ((w.alloc (.cells #[.int .i64 n, .int .i64 d] 68)).alloc (.cells #[.int .i64 n', .int .i64 d'] 68)) 68 #[.int .i64 0, .int .i64 0] (by simp))
  have hB0 : Below w.heap.size w (((w.alloc (.cells #[.int .i64 n, .int .i64 d] 68)).alloc (.cells #[.int .i64 n', .int .i64 d'] 68)).alloc (.cells #[.int .i64 0, .int .i64 0] 68)) := by go_grown
  go_enter Tryz.func96, Tryz.ntmps96
  go_wp2_with fail
  refine (shMul_any n d n' d' h h' _).mono ?_
  rintro e1 w1 ⟨rfl, hb1⟩
  have hB1 := Below.call hB0 (by go_size) hb1
  have l2 := k2.call hb1
  go_wp2_with fail
  refine (fraction_any _ _ bad mb _ (by rw [hB1.cell (p := ⟨mb, 0, none⟩) hlt]; exact hm) (by rw [hB1.frozen (p := ⟨mb, 0, none⟩) hlt]; exact hf)).mono ?_
  rintro e2 w2 ⟨rfl, hb2⟩
  obtain ⟨q0, q1, qf0, qf1⟩ := (l2.q (by omega) hb2).c2
  have hq2 := q_set hB1.size hB1 hb2
  go_wp2
  refine bodyPost_ret (v := .agg #[.int .i64 (frN (frB bad (muN n d n' d') (muD n d n' d')) (muN n d n' d')), .int .i64 (frN (frB bad (muN n d n' d') (muD n d n' d')) (muD n d n' d'))]) (by simp [results, Tryz.results96, go_sem, q0, q1]) rfl ?_
  exact ⟨rfl, (hq2.setCell (by simp; omega) _).setCell (by simp; omega) _⟩

set_option maxHeartbeats 800000 in
theorem over_any (n d n' d' : Int) (bad : Bool) (mb : Nat) (w : World) (h : FOk n d) (h' : FOk n' d') (h0 : n' ≠ 0) (hm : w.cell? ⟨mb, 0, none⟩ = some (.bool bad)) (hf : w.frozen? ⟨mb, 0, none⟩ = false) :
    Calls Tryz.prog 98 #[.pointer (some ⟨mb, 0, none⟩), .agg #[.int .i64 n, .int .i64 d], .agg #[.int .i64 n', .int .i64 d']] w (RetF w mb bad (mkN (n * d') (d * n')) (mkD (n * d') (d * n'))) := by
  have hlt : mb < w.heap.size := World.block_lt_of_cell? w ⟨mb, 0, none⟩ hm
  have g := fracOk_iff.1 h
  have g' := fracOk_iff.1 h'
  have hne : d * n' ≠ 0 := fun h => by rcases Int.mul_eq_zero.1 h with h | h <;> omega
  have HNE := Lib.hid hne
  clear hne
  have b1 := mul_bd6 (a := n) (b := d') (by omega) (by omega)
  have wb1 : IntKind.i64.wrap (n * d') = n * d' := IntWalk.i64_in _ (by omega)
  have b2 := mul_bd6 (a := d) (b := n') (by omega) (by omega)
  have wb2 : IntKind.i64.wrap (d * n') = d * n' := IntWalk.i64_in _ (by omega)
  have k0 := (((Blk.new w 68 #[.int .i64 n, .int .i64 d]).alloc (.cells #[.int .i64 n', .int .i64 d'] 68)).alloc (.cells #[.int .i64 0, .int .i64 0] 68))
  have k1 := ((Blk.new' (g := w.heap.size + 1) (w.alloc (.cells #[.int .i64 n, .int .i64 d] 68)) 68 #[.int .i64 n', .int .i64 d'] (by simp)).alloc (.cells #[.int .i64 0, .int .i64 0] 68))
  have k2 := (Blk.new' (g := w.heap.size + 1 + 1) ((w.alloc (.cells #[.int .i64 n, .int .i64 d] 68)).alloc (.cells #[.int .i64 n', .int .i64 d'] 68)) 68 #[.int .i64 0, .int .i64 0] (by simp))
  have hB0 : Below w.heap.size w (((w.alloc (.cells #[.int .i64 n, .int .i64 d] 68)).alloc (.cells #[.int .i64 n', .int .i64 d'] 68)).alloc (.cells #[.int .i64 0, .int .i64 0] 68)) := by go_grown
  go_enter Tryz.func98, Tryz.ntmps98
  go_wp2_with fail
  refine (shMake_any (n * d') (d * n') (by omega) (by omega) HNE.out _).mono ?_
  rintro e1 w1 ⟨rfl, hb1⟩
  have hB1 := Below.call hB0 (by go_size) hb1
  have l2 := k2.call hb1
  go_wp2_with fail
  refine (fraction_any _ _ bad mb _ (by rw [hB1.cell (p := ⟨mb, 0, none⟩) hlt]; exact hm) (by rw [hB1.frozen (p := ⟨mb, 0, none⟩) hlt]; exact hf)).mono ?_
  rintro e2 w2 ⟨rfl, hb2⟩
  obtain ⟨q0, q1, qf0, qf1⟩ := (l2.q (by omega) hb2).c2
  have hq2 := q_set hB1.size hB1 hb2
  go_wp2
  refine bodyPost_ret (v := .agg #[.int .i64 (frN (frB bad (mkN (n * d') (d * n')) (mkD (n * d') (d * n'))) (mkN (n * d') (d * n'))), .int .i64 (frN (frB bad (mkN (n * d') (d * n')) (mkD (n * d') (d * n'))) (mkD (n * d') (d * n')))]) (by simp [results, Tryz.results98, go_sem, q0, q1]) rfl ?_
  exact ⟨rfl, (hq2.setCell (by simp; omega) _).setCell (by simp; omega) _⟩
end Go.Proofs.YtonlfnbjbmgegaaGreat
