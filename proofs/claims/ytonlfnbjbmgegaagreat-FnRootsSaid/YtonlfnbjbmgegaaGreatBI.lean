/-
  Walks: the maker's methods.
  Walks: what a maker tells, small numbers, counts of steps.
-/
import Derived.Test.YtonlfnbjbmgegaaGreatBH
namespace Go.Proofs.YtonlfnbjbmgegaaGreat
open Go.RowKit
set_option linter.unusedSimpArgs false
set_option linter.unusedVariables false

/-- one cell of an old block is stored into, behind what laid new blocks alone -/
theorem q_set {w w1 w2 : World} {mb B : Nat} {v : Value} (hB : w.heap.size ≤ B) (h1 : Below w.heap.size w w1) (h2 : Below B (w1.setCell ⟨mb, 0, none⟩ v) w2) : Below w.heap.size (w.setCell ⟨mb, 0, none⟩ v) w2 := by
  refine ⟨h2.os.trans h1.os, h2.tape.trans h1.tape, h2.output.trans h1.output, ?_, fun k hk => ?_⟩
  · have := h2.size; have := h1.size; simp only [World.size_setCell] at *; omega
  · rw [h2.block k (by omega)]
    by_cases hkq : k = mb
    · subst hkq
      have := h1.block k hk
      simp only [World.setCell, Array.getElem?_modify, if_true]
      rw [this]
    · rw [Below.heap_setCell _ _ _ _ hkq, h1.block k hk, Below.heap_setCell _ _ _ _ hkq]
/-- and a store into a new block behind it -/
theorem q_new {w w2 : World} {mb : Nat} {v : Value} (h : Below w.heap.size (w.setCell ⟨mb, 0, none⟩ v) w2) {p : Addr} (hp : w.heap.size ≤ p.block) (u : Value) : Below w.heap.size (w.setCell ⟨mb, 0, none⟩ v) (w2.setCell p u) := h.setCell hp u
theorem q_cell' {w w2 : World} {mb : Nat} {m u v : Value} (hq : w.cell? ⟨mb, 0, none⟩ = some u) (hb : Below w.heap.size (w.setCell ⟨mb, 0, none⟩ v) w2) : w2.cell? ⟨mb, 0, none⟩ = some v := by
  have hlt := World.block_lt_of_cell? w ⟨mb, 0, none⟩ hq
  rw [hb.cell (p := ⟨mb, 0, none⟩) hlt]; simp [go_sem, hq]
theorem q_frozen {w w2 : World} {mb : Nat} {u v : Value} (hq : w.cell? ⟨mb, 0, none⟩ = some u) (hf : w.frozen? ⟨mb, 0, none⟩ = false) (hb : Below w.heap.size (w.setCell ⟨mb, 0, none⟩ v) w2) : w2.frozen? ⟨mb, 0, none⟩ = false := by
  have hlt := World.block_lt_of_cell? w ⟨mb, 0, none⟩ hq
  rw [hb.frozen (p := ⟨mb, 0, none⟩) hlt]; simp [go_sem, hf]
theorem Blk.q {w w2 : World} {mb g : Nat} {t : TypeId} {cs : Array Value} {v : Value} (h : Blk w g t cs) (hne : g ≠ mb) (hb : Below w.heap.size (w.setCell ⟨mb, 0, none⟩ v) w2) : Blk w2 g t cs :=
  (h.far (p := ⟨mb, 0, none⟩) hne v).below hb h.lt
theorem SFresh.q {B : Nat} {w w2 : World} {mb : Nat} {x : Sur} {A : Option Addr} {c : Nat} {v : Value} (h : SFresh B w x A c) (hm : mb < B) (hb : Below w.heap.size (w.setCell ⟨mb, 0, none⟩ v) w2) : SFresh B w2 x A c :=
  (h.setCell (p := ⟨mb, 0, none⟩) hm v).below (by rw [World.size_setCell]; exact hb)
theorem SSl.q {X : Nat → Prop} {w w2 : World} {mb : Nat} {x : Sur} {A : Option Addr} {c : Nat} {v : Value} (h : SSl X w x A c) (hm : X mb) (hb : Below w.heap.size (w.setCell ⟨mb, 0, none⟩ v) w2) : SSl X w2 x A c :=
  (h.far (p := ⟨mb, 0, none⟩) hm v).below (by rw [World.size_setCell]; exact hb)

set_option maxHeartbeats 400000 in
theorem take_any (x : Sur) (ok bad : Bool) (mb : Nat) (A : Option Addr) (c : Nat) (w : World) (hm : w.cell? ⟨mb, 0, none⟩ = some (.bool bad)) (hf : w.frozen? ⟨mb, 0, none⟩ = false) :
    Calls Tryz.prog 87 #[.pointer (some ⟨mb, 0, none⟩), .agg #[.slice A x.len c], .bool ok] w fun e w' => e = .returned (.agg #[.slice A x.len c]) ∧ Below w.heap.size (w.setCell ⟨mb, 0, none⟩ (.bool (bad || !ok))) w' := by
  have hlt : mb < w.heap.size := World.block_lt_of_cell? w ⟨mb, 0, none⟩ hm
  have hn1 : ¬ mb = w.heap.size := by omega
  have hn2 : ¬ mb = w.heap.size + 1 := by omega
  cases bad <;> cases ok
  all_goals
    go_enter Tryz.func87, Tryz.ntmps87
    go_wp2
    refine bodyPost_ret (v := .agg #[.slice A x.len c]) (by simp [results, Tryz.results87, go_sem]) rfl ?_
    refine ⟨rfl, ?_⟩
    refine Below.alloc (Below.alloc (Below.refl _ _) ?_ _) ?_ _
    · simp only [World.size_setCell]; exact Nat.le_refl _
    · simp only [World.size_alloc, World.size_setCell]; omega

/-- what a maker's method leaves -/
def RetM (w : World) (mb : Nat) (bad : Bool) (o : Option Sur) (e : Ending) (w' : World) : Prop :=
  ∃ A c, e = .returned (.agg #[.slice A (o.getD .nil).len c]) ∧ SFresh w.heap.size w' (o.getD .nil) A c ∧ Below w.heap.size (w.setCell ⟨mb, 0, none⟩ (.bool (bad || !o.isSome))) w'

set_option maxHeartbeats 400000 in
theorem madd_any (x y : Sur) (bad : Bool) (mb : Nat) (X Y : Nat → Prop) (A A' : Option Addr) (c c' : Nat) (w : World) (sx : SSl X w x A c) (sy : SSl Y w y A' c') (hm : w.cell? ⟨mb, 0, none⟩ = some (.bool bad)) (hf : w.frozen? ⟨mb, 0, none⟩ = false) :
    Calls Tryz.prog 36 #[.pointer (some ⟨mb, 0, none⟩), .agg #[.slice A x.len c], .agg #[.slice A' y.len c']] w (RetM w mb bad (addS x y)) := by
  have hlt : mb < w.heap.size := World.block_lt_of_cell? w ⟨mb, 0, none⟩ hm
  have k0 := (((Blk.new w 26 #[.slice A x.len c]).alloc (.cells #[.slice A' y.len c'] 26)).alloc (.cells #[.slice none 0 0] 26))
  have k1 := ((Blk.new' (g := w.heap.size + 1) (w.alloc (.cells #[.slice A x.len c] 26)) 26 #[.slice A' y.len c'] (by simp)).alloc (.cells #[.slice none 0 0] 26))
  have k2 := (Blk.new' (g := w.heap.size + 1 + 1) ((w.alloc (.cells #[.slice A x.len c] 26)).alloc (.cells #[.slice A' y.len c'] 26)) 26 #[.slice none 0 0] (by simp))
  have hB0 : Below w.heap.size w (((w.alloc (.cells #[.slice A x.len c] 26)).alloc (.cells #[.slice A' y.len c'] 26)).alloc (.cells #[.slice none 0 0] 26)) := by go_grown
  go_enter Tryz.func36, Tryz.ntmps36
  go_wp2_with fail
  refine (AddSurreals_any x y _ _ _ _ _ _ _ (sx.below hB0) (sy.below hB0)).mono ?_
  rintro e1 w1 ⟨A1, c1, rfl, hf1, hb1⟩
  have hB1 := Below.call hB0 (by go_size) hb1
  have l2 := k2.call hb1
  go_wp2_with fail
  refine (take_any _ _ bad mb A1 c1 _ (by rw [hB1.cell (p := ⟨mb, 0, none⟩) hlt]; exact hm) (by rw [hB1.frozen (p := ⟨mb, 0, none⟩) hlt]; exact hf)).mono ?_
  rintro e2 w2 ⟨rfl, hb2⟩
  obtain ⟨q2, qf2⟩ := (l2.q (by omega) hb2).c1
  have hq2 := q_set hB1.size hB1 hb2
  go_wp2
  refine bodyPost_ret (v := .agg #[.slice A1 ((addS x y).getD .nil).len c1]) (by simp [results, Tryz.results36, go_sem, q2]) rfl ?_
  exact ⟨A1, c1, rfl, ((hf1.q (by go_size) hb2).setCell (p := ⟨w.heap.size + 1 + 1, 0, none⟩) k2.lt _).mono (by go_size), hq2.setCell (by simp; omega) _⟩

set_option maxHeartbeats 400000 in
theorem mmul_any (x y : Sur) (bad : Bool) (mb : Nat) (X Y : Nat → Prop) (A A' : Option Addr) (c c' : Nat) (w : World) (sx : SSl X w x A c) (sy : SSl Y w y A' c') (hm : w.cell? ⟨mb, 0, none⟩ = some (.bool bad)) (hf : w.frozen? ⟨mb, 0, none⟩ = false) :
    Calls Tryz.prog 51 #[.pointer (some ⟨mb, 0, none⟩), .agg #[.slice A x.len c], .agg #[.slice A' y.len c']] w (RetM w mb bad (mulS x y)) := by
  have hlt : mb < w.heap.size := World.block_lt_of_cell? w ⟨mb, 0, none⟩ hm
  have k0 := (((Blk.new w 26 #[.slice A x.len c]).alloc (.cells #[.slice A' y.len c'] 26)).alloc (.cells #[.slice none 0 0] 26))
  have k1 := ((Blk.new' (g := w.heap.size + 1) (w.alloc (.cells #[.slice A x.len c] 26)) 26 #[.slice A' y.len c'] (by simp)).alloc (.cells #[.slice none 0 0] 26))
  have k2 := (Blk.new' (g := w.heap.size + 1 + 1) ((w.alloc (.cells #[.slice A x.len c] 26)).alloc (.cells #[.slice A' y.len c'] 26)) 26 #[.slice none 0 0] (by simp))
  have hB0 : Below w.heap.size w (((w.alloc (.cells #[.slice A x.len c] 26)).alloc (.cells #[.slice A' y.len c'] 26)).alloc (.cells #[.slice none 0 0] 26)) := by go_grown
  go_enter Tryz.func51, Tryz.ntmps51
  go_wp2_with fail
  refine (MultiplySurreals_any x y _ _ _ _ _ _ _ (sx.below hB0) (sy.below hB0)).mono ?_
  rintro e1 w1 ⟨A1, c1, rfl, hf1, hb1⟩
  have hB1 := Below.call hB0 (by go_size) hb1
  have l2 := k2.call hb1
  go_wp2_with fail
  refine (take_any _ _ bad mb A1 c1 _ (by rw [hB1.cell (p := ⟨mb, 0, none⟩) hlt]; exact hm) (by rw [hB1.frozen (p := ⟨mb, 0, none⟩) hlt]; exact hf)).mono ?_
  rintro e2 w2 ⟨rfl, hb2⟩
  obtain ⟨q2, qf2⟩ := (l2.q (by omega) hb2).c1
  have hq2 := q_set hB1.size hB1 hb2
  go_wp2
  refine bodyPost_ret (v := .agg #[.slice A1 ((mulS x y).getD .nil).len c1]) (by simp [results, Tryz.results51, go_sem, q2]) rfl ?_
  exact ⟨A1, c1, rfl, ((hf1.q (by go_size) hb2).setCell (p := ⟨w.heap.size + 1 + 1, 0, none⟩) k2.lt _).mono (by go_size), hq2.setCell (by simp; omega) _⟩

set_option maxHeartbeats 400000 in
theorem msub_any (x y : Sur) (bad : Bool) (mb : Nat) (X Y : Nat → Prop) (A A' : Option Addr) (c c' : Nat) (w : World) (sx : SSl X w x A c) (sy : SSl Y w y A' c') (hm : w.cell? ⟨mb, 0, none⟩ = some (.bool bad)) (hf : w.frozen? ⟨mb, 0, none⟩ = false) (hl : y.len ≤ 1099511627776) :
    Calls Tryz.prog 37 #[.pointer (some ⟨mb, 0, none⟩), .agg #[.slice A x.len c], .agg #[.slice A' y.len c']] w (RetM w mb bad (subS x y)) := by
  have hlt : mb < w.heap.size := World.block_lt_of_cell? w ⟨mb, 0, none⟩ hm
  have k0 := (((Blk.new w 26 #[.slice A x.len c]).alloc (.cells #[.slice A' y.len c'] 26)).alloc (.cells #[.slice none 0 0] 26))
  have k1 := ((Blk.new' (g := w.heap.size + 1) (w.alloc (.cells #[.slice A x.len c] 26)) 26 #[.slice A' y.len c'] (by simp)).alloc (.cells #[.slice none 0 0] 26))
  have k2 := (Blk.new' (g := w.heap.size + 1 + 1) ((w.alloc (.cells #[.slice A x.len c] 26)).alloc (.cells #[.slice A' y.len c'] 26)) 26 #[.slice none 0 0] (by simp))
  have hB0 : Below w.heap.size w (((w.alloc (.cells #[.slice A x.len c] 26)).alloc (.cells #[.slice A' y.len c'] 26)).alloc (.cells #[.slice none 0 0] 26)) := by go_grown
  go_enter Tryz.func37, Tryz.ntmps37
  go_wp2_with fail
  refine (SubtractSurreals_any x y _ _ _ _ _ _ _ (sx.below hB0) (sy.below hB0) hl).mono ?_
  rintro e1 w1 ⟨A1, c1, rfl, hf1, hb1⟩
  have hB1 := Below.call hB0 (by go_size) hb1
  have l2 := k2.call hb1
  go_wp2_with fail
  refine (take_any _ _ bad mb A1 c1 _ (by rw [hB1.cell (p := ⟨mb, 0, none⟩) hlt]; exact hm) (by rw [hB1.frozen (p := ⟨mb, 0, none⟩) hlt]; exact hf)).mono ?_
  rintro e2 w2 ⟨rfl, hb2⟩
  obtain ⟨q2, qf2⟩ := (l2.q (by omega) hb2).c1
  have hq2 := q_set hB1.size hB1 hb2
  go_wp2
  refine bodyPost_ret (v := .agg #[.slice A1 ((subS x y).getD .nil).len c1]) (by simp [results, Tryz.results37, go_sem, q2]) rfl ?_
  exact ⟨A1, c1, rfl, ((hf1.q (by go_size) hb2).setCell (p := ⟨w.heap.size + 1 + 1, 0, none⟩) k2.lt _).mono (by go_size), hq2.setCell (by simp; omega) _⟩

set_option maxHeartbeats 400000 in
theorem mscale_any (x : Sur) (fa fb : Int) (bad : Bool) (mb : Nat) (X : Nat → Prop) (A : Option Addr) (c : Nat) (w : World) (sx : SSl X w x A c) (hm : w.cell? ⟨mb, 0, none⟩ = some (.bool bad)) (hf : w.frozen? ⟨mb, 0, none⟩ = false) :
    Calls Tryz.prog 82 #[.pointer (some ⟨mb, 0, none⟩), .agg #[.slice A x.len c], .agg #[.int .i64 fa, .int .i64 fb]] w (RetM w mb bad (scaleS x fa fb)) := by
  have hlt : mb < w.heap.size := World.block_lt_of_cell? w ⟨mb, 0, none⟩ hm
  have k0 := (((Blk.new w 26 #[.slice A x.len c]).alloc (.cells #[.int .i64 fa, .int .i64 fb] 68)).alloc (.cells #[.slice none 0 0] 26))
  have k1 := ((Blk.new' (g := w.heap.size + 1) (w.alloc (.cells #[.slice A x.len c] 26)) 68 #[.int .i64 fa, .int .i64 fb] (by simp)).alloc (.cells #[.slice none 0 0] 26))
  have k2 := (Blk.new' (g := w.heap.size + 1 + 1) ((w.alloc (.cells #[.slice A x.len c] 26)).alloc (.cells #[.int .i64 fa, .int .i64 fb] 68)) 26 #[.slice none 0 0] (by simp))
  have hB0 : Below w.heap.size w (((w.alloc (.cells #[.slice A x.len c] 26)).alloc (.cells #[.int .i64 fa, .int .i64 fb] 68)).alloc (.cells #[.slice none 0 0] 26)) := by go_grown
  go_enter Tryz.func82, Tryz.ntmps82
  go_wp2_with fail
  refine (ScaleSurreal_any x fa fb _ _ _ _ (sx.below hB0)).mono ?_
  rintro e1 w1 ⟨A1, c1, rfl, hf1, hb1⟩
  have hB1 := Below.call hB0 (by go_size) hb1
  have l2 := k2.call hb1
  go_wp2_with fail
  refine (take_any _ _ bad mb A1 c1 _ (by rw [hB1.cell (p := ⟨mb, 0, none⟩) hlt]; exact hm) (by rw [hB1.frozen (p := ⟨mb, 0, none⟩) hlt]; exact hf)).mono ?_
  rintro e2 w2 ⟨rfl, hb2⟩
  obtain ⟨q2, qf2⟩ := (l2.q (by omega) hb2).c1
  have hq2 := q_set hB1.size hB1 hb2
  go_wp2
  refine bodyPost_ret (v := .agg #[.slice A1 ((scaleS x fa fb).getD .nil).len c1]) (by simp [results, Tryz.results82, go_sem, q2]) rfl ?_
  exact ⟨A1, c1, rfl, ((hf1.q (by go_size) hb2).setCell (p := ⟨w.heap.size + 1 + 1, 0, none⟩) k2.lt _).mono (by go_size), hq2.setCell (by simp; omega) _⟩

end Go.Proofs.YtonlfnbjbmgegaaGreat

namespace Go.Proofs.YtonlfnbjbmgegaaGreat
open Go.RowKit
set_option linter.unusedSimpArgs false
set_option linter.unusedVariables false

set_option maxHeartbeats 400000 in
theorem mtold_any (x : Sur) (bad : Bool) (mb : Nat) (A : Option Addr) (c : Nat) (w : World) (hm : w.cell? ⟨mb, 0, none⟩ = some (.bool bad)) (B : Nat) (hB : B ≤ w.heap.size) (hs : SFresh B w x A c) :
    Calls Tryz.prog 45 #[.pointer (some ⟨mb, 0, none⟩), .agg #[.slice A x.len c]] w fun e w' => ∃ A' c', e = .returned (.tuple #[.agg #[.slice A' ((if bad then none else some x).getD Sur.nil).len c'], .bool (!bad)]) ∧ SFresh B w' ((if bad then none else some x).getD .nil) A' c' ∧ Below w.heap.size w w' := by
  have hlt : mb < w.heap.size := World.block_lt_of_cell? w ⟨mb, 0, none⟩ hm
  have hn1 : ¬ mb = w.heap.size := by omega
  have hn2 : ¬ mb = w.heap.size + 1 := by omega
  cases bad
  · go_enter Tryz.func45, Tryz.ntmps45
    go_wp2
    refine bodyPost_ret (v := .tuple #[.agg #[.slice A x.len c], .bool true]) (by simp [results, Tryz.results45, go_sem]) rfl ?_
    exact ⟨A, c, rfl, hs.below (by go_grown), by go_grown⟩
  · go_enter Tryz.func45, Tryz.ntmps45
    go_wp2
    refine bodyPost_ret (v := .tuple #[.agg #[.slice none 0 0], .bool false]) (by simp [results, Tryz.results45, go_sem]) rfl ?_
    exact ⟨none, 0, rfl, SFresh.nil _ _, by go_grown⟩

def stepsB (n : Int) : Bool := inB n 0 12

set_option maxHeartbeats 400000 in
theorem stepsOk_any (n : Int) (w : World) :
    Calls Tryz.prog 31 #[.int .i64 n] w fun e w' => e = .returned (.bool (stepsB n)) ∧ w = w' := by
  go_enter Tryz.func31, Tryz.ntmps31
  go_wp2_with (go_at_call 30; refine (in_any _ _ _ _).mono ?_; rintro e w' ⟨rfl, rfl⟩)
  go_ret
  exact ⟨rfl, rfl⟩

def smallS : Sur → Bool
  | .nil => true
  | .cons e _ _ _ => decide (order e .nil < 0)

theorem m_cell {w w' : World} {B mb : Nat} {v : Value} (h : Below B w w') (hlt : mb < B) (hm : w.cell? ⟨mb, 0, none⟩ = some v) : w'.cell? ⟨mb, 0, none⟩ = some v := by
  rw [h.cell (p := ⟨mb, 0, none⟩) hlt]; exact hm
theorem m_froz {w w' : World} {B mb : Nat} (h : Below B w w') (hlt : mb < B) (hm : w.frozen? ⟨mb, 0, none⟩ = false) : w'.frozen? ⟨mb, 0, none⟩ = false := by
  rw [h.frozen (p := ⟨mb, 0, none⟩) hlt]; exact hm
theorem mix_all {o : Option Sur} (h : ∀ z, o = some z → z.All Bd) : (o.getD .nil).All Bd := by
  cases o with
  | none => trivial
  | some z => exact h z rfl
theorem addS_all {x y z : Sur} (h : addS x y = some z) : z.All FOk ∧ sGood z = true := by
  unfold addS at h
  split at h
  · rcases hq : sumP x y with _ | q
    · rw [hq] at h; simp at h
    · rw [hq] at h
      obtain ⟨rfl, _, hg⟩ := told_eq h
      exact ⟨(sGood_len hg).2.2, hg⟩
  · simp at h
/-- the same cell of an old block is stored into once more -/
theorem q_over {w w1 : World} {mb : Nat} {v : Value} (u : Value) (h : Below w.heap.size (w.setCell ⟨mb, 0, none⟩ v) w1) : Below w.heap.size (w.setCell ⟨mb, 0, none⟩ u) (w1.setCell ⟨mb, 0, none⟩ u) := by
  refine ⟨h.os, h.tape, h.output, ?_, fun k hk => ?_⟩
  · have := h.size; simp only [World.size_setCell] at *; exact this
  · have := h.block k hk
    by_cases hkq : k = mb
    · subst hkq
      simp only [World.setCell, Array.getElem?_modify, if_true] at this ⊢
      rw [this]
      cases w.heap[k]? with
      | none => rfl
      | some o => cases o <;> simp
    · rw [Below.heap_setCell _ _ _ _ hkq] at this ⊢
      rw [Below.heap_setCell _ _ _ _ hkq, this]
/-- one more than 1 -/
def oneS : Sur := termP .nil 1 1
/-- nearOne: what a number is more than 1 -/
def lessOne (x : Sur) : Option Sur := subS x oneS
def nearBad (bad : Bool) (x : Sur) : Bool := (bad || !(lessOne x).isSome) || !smallS ((lessOne x).getD .nil)
theorem lessOne_all (x : Sur) : ((lessOne x).getD .nil).All Bd := mix_all fun z h => All.bd (addS_all h).1

end Go.Proofs.YtonlfnbjbmgegaaGreat
