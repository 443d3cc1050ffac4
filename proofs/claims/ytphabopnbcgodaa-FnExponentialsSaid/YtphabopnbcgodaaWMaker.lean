/-
  Walks: the maker's methods.
-/
import Derived.Test.YtphabopnbcgodaaWMul
namespace Go.Proofs.Ytphabopnbcgodaa
open Go.RowKit
set_option linter.unusedSimpArgs false
set_option linter.unusedVariables false

/-- one cell of an old block is stored into, behind what laid new blocks alone -/
theorem q_set {w w1 w2 : World} {mb B : Nat} {v : Value} (hB : w.heap.size ≤ B) (h1 : Below w.heap.size w w1) (h2 : Below B (w1.setCell ⟨mb, 0, none⟩ v) w2) : Below w.heap.size (w.setCell ⟨mb, 0, none⟩ v) w2 := by
  refine ⟨h2.os.trans h1.os, h2.tape.trans h1.tape, h2.output.trans h1.output, ?_, fun k hk => ?_⟩
  · have := h2.size; have := h1.size; simp only [World.size_setCell] at *; omega
  · rw [h2.block k (by omega)]
    by_cases hkq : k = mb
    · subst hkq
      have := h1.block k hk
      simp only [World.setCell, Array.getElem?_modify, if_true]
      rw [this]
    · rw [Below.heap_setCell _ _ _ _ hkq, h1.block k hk, Below.heap_setCell _ _ _ _ hkq]
/-- and a store into a new block behind it -/
theorem q_new {w w2 : World} {mb : Nat} {v : Value} (h : Below w.heap.size (w.setCell ⟨mb, 0, none⟩ v) w2) {p : Addr} (hp : w.heap.size ≤ p.block) (u : Value) : Below w.heap.size (w.setCell ⟨mb, 0, none⟩ v) (w2.setCell p u) := h.setCell hp u
theorem q_cell' {w w2 : World} {mb : Nat} {m u v : Value} (hq : w.cell? ⟨mb, 0, none⟩ = some u) (hb : Below w.heap.size (w.setCell ⟨mb, 0, none⟩ v) w2) : w2.cell? ⟨mb, 0, none⟩ = some v := by
  have hlt := World.block_lt_of_cell? w ⟨mb, 0, none⟩ hq
  rw [hb.cell (p := ⟨mb, 0, none⟩) hlt]; simp [go_sem, hq]
theorem q_frozen {w w2 : World} {mb : Nat} {u v : Value} (hq : w.cell? ⟨mb, 0, none⟩ = some u) (hf : w.frozen? ⟨mb, 0, none⟩ = false) (hb : Below w.heap.size (w.setCell ⟨mb, 0, none⟩ v) w2) : w2.frozen? ⟨mb, 0, none⟩ = false := by
  have hlt := World.block_lt_of_cell? w ⟨mb, 0, none⟩ hq
  rw [hb.frozen (p := ⟨mb, 0, none⟩) hlt]; simp [go_sem, hf]
theorem Blk.q {w w2 : World} {mb g : Nat} {t : TypeId} {cs : Array Value} {v : Value} (h : Blk w g t cs) (hne : g ≠ mb) (hb : Below w.heap.size (w.setCell ⟨mb, 0, none⟩ v) w2) : Blk w2 g t cs :=
  (h.far (p := ⟨mb, 0, none⟩) hne v).below hb h.lt
theorem SFresh.q {B : Nat} {w w2 : World} {mb : Nat} {x : Sur} {A : Option Addr} {c : Nat} {v : Value} (h : SFresh B w x A c) (hm : mb < B) (hb : Below w.heap.size (w.setCell ⟨mb, 0, none⟩ v) w2) : SFresh B w2 x A c :=
  (h.setCell (p := ⟨mb, 0, none⟩) hm v).below (by rw [World.size_setCell]; exact hb)
theorem SSl.q {X : Nat → Prop} {w w2 : World} {mb : Nat} {x : Sur} {A : Option Addr} {c : Nat} {v : Value} (h : SSl X w x A c) (hm : X mb) (hb : Below w.heap.size (w.setCell ⟨mb, 0, none⟩ v) w2) : SSl X w2 x A c :=
  (h.far (p := ⟨mb, 0, none⟩) hm v).below (by rw [World.size_setCell]; exact hb)

set_option maxHeartbeats 400000 in
theorem take_any (x : Sur) (ok bad : Bool) (mb : Nat) (A : Option Addr) (c : Nat) (w : World) (hm : w.cell? ⟨mb, 0, none⟩ = some (.bool bad)) (hf : w.frozen? ⟨mb, 0, none⟩ = false) :
    Calls Try.prog 91 #[.pointer (some ⟨mb, 0, none⟩), .agg #[.slice A x.len c], .bool ok] w fun e w' => e = .returned (.agg #[.slice A x.len c]) ∧ Below w.heap.size (w.setCell ⟨mb, 0, none⟩ (.bool (bad || !ok))) w' := by
  have hlt : mb < w.heap.size := World.block_lt_of_cell? w ⟨mb, 0, none⟩ hm
  have hn1 : ¬ mb = w.heap.size := by omega
  have hn2 : ¬ mb = w.heap.size + 1 := by omega
  cases bad <;> cases ok
  all_goals
    go_enter Try.func91, Try.ntmps91
    go_wp2
    refine bodyPost_ret (v := .agg #[.slice A x.len c]) (by simp [results, Try.results91, go_sem]) rfl ?_
    refine ⟨rfl, ?_⟩
    refine Below.alloc (Below.alloc (Below.refl _ _) ?_ _) ?_ _
    · simp only [World.size_setCell]; exact Nat.le_refl _
    · simp only [World.size_alloc, World.size_setCell]; omega

/-- what a maker's method leaves -/
def RetM (w : World) (mb : Nat) (bad : Bool) (o : Option Sur) (e : Ending) (w' : World) : Prop :=
  ∃ A c, e = .returned (.agg #[.slice A (o.getD .nil).len c]) ∧ SFresh w.heap.size w' (o.getD .nil) A c ∧ Below w.heap.size (w.setCell ⟨mb, 0, none⟩ (.bool (bad || !o.isSome))) w'

set_option maxHeartbeats 400000 in
theorem madd_any (x y : Sur) (bad : Bool) (mb : Nat) (X Y : Nat → Prop) (A A' : Option Addr) (c c' : Nat) (w : World) (sx : SSl X w x A c) (sy : SSl Y w y A' c') (hm : w.cell? ⟨mb, 0, none⟩ = some (.bool bad)) (hf : w.frozen? ⟨mb, 0, none⟩ = false) :
    Calls Try.prog 52 #[.pointer (some ⟨mb, 0, none⟩), .agg #[.slice A x.len c], .agg #[.slice A' y.len c']] w (RetM w mb bad (addS x y)) := by
  have hlt : mb < w.heap.size := World.block_lt_of_cell? w ⟨mb, 0, none⟩ hm
  have k0 := (((Blk.new w 26 #[.slice A x.len c]).alloc (.cells #[.slice A' y.len c'] 26)).alloc (.cells #[.slice none 0 0] 26))
  have k1 := ((Blk.new' (g := w.heap.size + 1) (w.alloc (.cells #[.slice A x.len c] 26)) 26 #[.slice A' y.len c'] (by simp)).alloc (.cells #[.slice none 0 0] 26))
  have k2 := (Blk.new' (g := w.heap.size + 1 + 1) ((w.alloc (.cells #[.slice A x.len c] 26)).alloc (.cells #[.slice A' y.len c'] 26)) 26 #[.slice none 0 0] (by simp))
  have hB0 : Below w.heap.size w (((w.alloc (.cells #[.slice A x.len c] 26)).alloc (.cells #[.slice A' y.len c'] 26)).alloc (.cells #[.slice none 0 0] 26)) := by go_grown
  go_enter Try.func52, Try.ntmps52
  go_wp2_with fail
  refine (AddSurreals_any x y _ _ _ _ _ _ _ (sx.below hB0) (sy.below hB0)).mono ?_
  rintro e1 w1 ⟨A1, c1, rfl, hf1, hb1⟩
  have hB1 := Below.call hB0 (by go_size) hb1
  have l2 := k2.call hb1
  go_wp2_with fail
  refine (take_any _ _ bad mb A1 c1 _ (by rw [hB1.cell (p := ⟨mb, 0, none⟩) hlt]; exact hm) (by rw [hB1.frozen (p := ⟨mb, 0, none⟩) hlt]; exact hf)).mono ?_
  rintro e2 w2 ⟨rfl, hb2⟩
  obtain ⟨q2, qf2⟩ := (l2.q (by omega) hb2).c1
  have hq2 := q_set hB1.size hB1 hb2
  go_wp2
  refine bodyPost_ret (v := .agg #[.slice A1 ((addS x y).getD .nil).len c1]) (by simp [results, Try.results52, go_sem, q2]) rfl ?_
  exact ⟨A1, c1, rfl, ((hf1.q (by go_size) hb2).setCell (p := ⟨w.heap.size + 1 + 1, 0, none⟩) k2.lt _).mono (by go_size), hq2.setCell (by simp; omega) _⟩

set_option maxHeartbeats 400000 in
theorem mmul_any (x y : Sur) (bad : Bool) (mb : Nat) (X Y : Nat → Prop) (A A' : Option Addr) (c c' : Nat) (w : World) (sx : SSl X w x A c) (sy : SSl Y w y A' c') (hm : w.cell? ⟨mb, 0, none⟩ = some (.bool bad)) (hf : w.frozen? ⟨mb, 0, none⟩ = false) :
    Calls Try.prog 51 #[.pointer (some ⟨mb, 0, none⟩), .agg #[.slice A x.len c], .agg #[.slice A' y.len c']] w (RetM w mb bad (mulS x y)) := by
  have hlt : mb < w.heap.size := World.block_lt_of_cell? w ⟨mb, 0, none⟩ hm
  have k0 := (((Blk.new w 26 #[.slice A x.len c]).alloc (.cells #[.slice A' y.len c'] 26)).alloc (.cells #[.slice none 0 0] 26))
  have k1 := ((Blk.new' (g := w.heap.size + 1) (w.alloc (.cells #[.slice A x.len c] 26)) 26 #[.slice A' y.len c'] (by simp)).alloc (.cells #[.slice none 0 0] 26))
  have k2 := (Blk.new' (g := w.heap.size + 1 + 1) ((w.alloc (.cells #[.slice A x.len c] 26)).alloc (.cells #[.slice A' y.len c'] 26)) 26 #[.slice none 0 0] (by simp))
  have hB0 : Below w.heap.size w (((w.alloc (.cells #[.slice A x.len c] 26)).alloc (.cells #[.slice A' y.len c'] 26)).alloc (.cells #[.slice none 0 0] 26)) := by go_grown
  go_enter Try.func51, Try.ntmps51
  go_wp2_with fail
  refine (MultiplySurreals_any x y _ _ _ _ _ _ _ (sx.below hB0) (sy.below hB0)).mono ?_
  rintro e1 w1 ⟨A1, c1, rfl, hf1, hb1⟩
  have hB1 := Below.call hB0 (by go_size) hb1
  have l2 := k2.call hb1
  go_wp2_with fail
  refine (take_any _ _ bad mb A1 c1 _ (by rw [hB1.cell (p := ⟨mb, 0, none⟩) hlt]; exact hm) (by rw [hB1.frozen (p := ⟨mb, 0, none⟩) hlt]; exact hf)).mono ?_
  rintro e2 w2 ⟨rfl, hb2⟩
  obtain ⟨q2, qf2⟩ := (l2.q (by omega) hb2).c1
  have hq2 := q_set hB1.size hB1 hb2
  go_wp2
  refine bodyPost_ret (v := .agg #[.slice A1 ((mulS x y).getD .nil).len c1]) (by simp [results, Try.results51, go_sem, q2]) rfl ?_
  exact ⟨A1, c1, rfl, ((hf1.q (by go_size) hb2).setCell (p := ⟨w.heap.size + 1 + 1, 0, none⟩) k2.lt _).mono (by go_size), hq2.setCell (by simp; omega) _⟩

set_option maxHeartbeats 400000 in
theorem msub_any (x y : Sur) (bad : Bool) (mb : Nat) (X Y : Nat → Prop) (A A' : Option Addr) (c c' : Nat) (w : World) (sx : SSl X w x A c) (sy : SSl Y w y A' c') (hm : w.cell? ⟨mb, 0, none⟩ = some (.bool bad)) (hf : w.frozen? ⟨mb, 0, none⟩ = false) (hl : y.len ≤ 1099511627776) :
    Calls Try.prog 98 #[.pointer (some ⟨mb, 0, none⟩), .agg #[.slice A x.len c], .agg #[.slice A' y.len c']] w (RetM w mb bad (subS x y)) := by
  have hlt : mb < w.heap.size := World.block_lt_of_cell? w ⟨mb, 0, none⟩ hm
  have k0 := (((Blk.new w 26 #[.slice A x.len c]).alloc (.cells #[.slice A' y.len c'] 26)).alloc (.cells #[.slice none 0 0] 26))
  have k1 := ((Blk.new' (g := w.heap.size + 1) (w.alloc (.cells #[.slice A x.len c] 26)) 26 #[.slice A' y.len c'] (by simp)).alloc (.cells #[.slice none 0 0] 26))
  have k2 := (Blk.new' (g := w.heap.size + 1 + 1) ((w.alloc (.cells #[.slice A x.len c] 26)).alloc (.cells #[.slice A' y.len c'] 26)) 26 #[.slice none 0 0] (by simp))
  have hB0 : Below w.heap.size w (((w.alloc (.cells #[.slice A x.len c] 26)).alloc (.cells #[.slice A' y.len c'] 26)).alloc (.cells #[.slice none 0 0] 26)) := by go_grown
  go_enter Try.func98, Try.ntmps98
  go_wp2_with fail
  refine (SubtractSurreals_any x y _ _ _ _ _ _ _ (sx.below hB0) (sy.below hB0) hl).mono ?_
  rintro e1 w1 ⟨A1, c1, rfl, hf1, hb1⟩
  have hB1 := Below.call hB0 (by go_size) hb1
  have l2 := k2.call hb1
  go_wp2_with fail
  refine (take_any _ _ bad mb A1 c1 _ (by rw [hB1.cell (p := ⟨mb, 0, none⟩) hlt]; exact hm) (by rw [hB1.frozen (p := ⟨mb, 0, none⟩) hlt]; exact hf)).mono ?_
  rintro e2 w2 ⟨rfl, hb2⟩
  obtain ⟨q2, qf2⟩ := (l2.q (by omega) hb2).c1
  have hq2 := q_set hB1.size hB1 hb2
  go_wp2
  refine bodyPost_ret (v := .agg #[.slice A1 ((subS x y).getD .nil).len c1]) (by simp [results, Try.results98, go_sem, q2]) rfl ?_
  exact ⟨A1, c1, rfl, ((hf1.q (by go_size) hb2).setCell (p := ⟨w.heap.size + 1 + 1, 0, none⟩) k2.lt _).mono (by go_size), hq2.setCell (by simp; omega) _⟩

set_option maxHeartbeats 400000 in
theorem mscale_any (x : Sur) (fa fb : Int) (bad : Bool) (mb : Nat) (X : Nat → Prop) (A : Option Addr) (c : Nat) (w : World) (sx : SSl X w x A c) (hm : w.cell? ⟨mb, 0, none⟩ = some (.bool bad)) (hf : w.frozen? ⟨mb, 0, none⟩ = false) :
    Calls Try.prog 50 #[.pointer (some ⟨mb, 0, none⟩), .agg #[.slice A x.len c], .agg #[.int .i64 fa, .int .i64 fb]] w (RetM w mb bad (scaleS x fa fb)) := by
  have hlt : mb < w.heap.size := World.block_lt_of_cell? w ⟨mb, 0, none⟩ hm
  have k0 := (((Blk.new w 26 #[.slice A x.len c]).alloc (.cells #[.int .i64 fa, .int .i64 fb] 29)).alloc (.cells #[.slice none 0 0] 26))
  have k1 := ((Blk.new' (g := w.heap.size + 1) (w.alloc (.cells #[.slice A x.len c] 26)) 29 #[.int .i64 fa, .int .i64 fb] (by simp)).alloc (.cells #[.slice none 0 0] 26))
  have k2 := (Blk.new' (g := w.heap.size + 1 + 1) ((w.alloc (.cells #[.slice A x.len c] 26)).alloc (.cells #[.int .i64 fa, .int .i64 fb] 29)) 26 #[.slice none 0 0] (by simp))
  have hB0 : Below w.heap.size w (((w.alloc (.cells #[.slice A x.len c] 26)).alloc (.cells #[.int .i64 fa, .int .i64 fb] 29)).alloc (.cells #[.slice none 0 0] 26)) := by go_grown
  go_enter Try.func50, Try.ntmps50
  go_wp2_with fail
  refine (ScaleSurreal_any x fa fb _ _ _ _ (sx.below hB0)).mono ?_
  rintro e1 w1 ⟨A1, c1, rfl, hf1, hb1⟩
  have hB1 := Below.call hB0 (by go_size) hb1
  have l2 := k2.call hb1
  go_wp2_with fail
  refine (take_any _ _ bad mb A1 c1 _ (by rw [hB1.cell (p := ⟨mb, 0, none⟩) hlt]; exact hm) (by rw [hB1.frozen (p := ⟨mb, 0, none⟩) hlt]; exact hf)).mono ?_
  rintro e2 w2 ⟨rfl, hb2⟩
  obtain ⟨q2, qf2⟩ := (l2.q (by omega) hb2).c1
  have hq2 := q_set hB1.size hB1 hb2
  go_wp2
  refine bodyPost_ret (v := .agg #[.slice A1 ((scaleS x fa fb).getD .nil).len c1]) (by simp [results, Try.results50, go_sem, q2]) rfl ?_
  exact ⟨A1, c1, rfl, ((hf1.q (by go_size) hb2).setCell (p := ⟨w.heap.size + 1 + 1, 0, none⟩) k2.lt _).mono (by go_size), hq2.setCell (by simp; omega) _⟩

end Go.Proofs.Ytphabopnbcgodaa
