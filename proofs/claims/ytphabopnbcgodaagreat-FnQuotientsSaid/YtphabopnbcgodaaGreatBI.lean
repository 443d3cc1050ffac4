/-
  Walks: the maker's methods.
  Walks: what a maker tells, small numbers, counts of steps.
-/
import Derived.Test.YtphabopnbcgodaaGreatBH
namespace Go.Proofs.YtphabopnbcgodaaGreat
open Go.RowKit
set_option linter.unusedSimpArgs false
set_option linter.unusedVariables false

/-- one cell of an old block is stored into, behind what laid new blocks alone -/
theorem q_set {w w1 w2 : World} {mb B : Nat} {v : Value} (hB : w.heap.size ≤ B) (h1 : Below w.heap.size w w1) (h2 : Below B (w1.setCell ⟨mb, 0, none⟩ v) w2) : Below w.heap.size (w.setCell ⟨mb, 0, none⟩ v) w2 := by
  refine ⟨h2.os.trans h1.os, h2.tape.trans h1.tape, h2.output.trans h1.output, ?_, fun k hk => ?_⟩
  · have := h2.size; have := h1.size; simp only [World.size_setCell] at *; omega
  · rw [h2.block k (by omega)]
    by_cases hkq : k = mb
    · subst hkq
      have := h1.block k hk
      simp only [World.setCell, Array.getElem?_modify, if_true]
      rw [this]
    · rw [Below.heap_setCell _ _ _ _ hkq, h1.block k hk, Below.heap_setCell _ _ _ _ hkq]
/-- and a store into a new block behind it -/
theorem q_new {w w2 : World} {mb : Nat} {v : Value} (h : Below w.heap.size (w.setCell ⟨mb, 0, none⟩ v) w2) {p : Addr} (hp : w.heap.size ≤ p.block) (u : Value) : Below w.heap.size (w.setCell ⟨mb, 0, none⟩ v) (w2.setCell p u) := h.setCell hp u
theorem q_cell' {w w2 : World} {mb : Nat} {m u v : Value} (hq : w.cell? ⟨mb, 0, none⟩ = some u) (hb : Below w.heap.size (w.setCell ⟨mb, 0, none⟩ v) w2) : w2.cell? ⟨mb, 0, none⟩ = some v := by
  have hlt := World.block_lt_of_cell? w ⟨mb, 0, none⟩ hq
  rw [hb.cell (p := ⟨mb, 0, none⟩) hlt]; simp [go_sem, hq]
theorem q_frozen {w w2 : World} {mb : Nat} {u v : Value} (hq : w.cell? ⟨mb, 0, none⟩ = some u) (hf : w.frozen? ⟨mb, 0, none⟩ = false) (hb : Below w.heap.size (w.setCell ⟨mb, 0, none⟩ v) w2) : w2.frozen? ⟨mb, 0, none⟩ = false := by
  have hlt := World.block_lt_of_cell? w ⟨mb, 0, none⟩ hq
  rw [hb.frozen (p := ⟨mb, 0, none⟩) hlt]; simp [go_sem, hf]
theorem Blk.q {w w2 : World} {mb g : Nat} {t : TypeId} {cs : Array Value} {v : Value} (h : Blk w g t cs) (hne : g ≠ mb) (hb : Below w.heap.size (w.setCell ⟨mb, 0, none⟩ v) w2) : Blk w2 g t cs :=
  (h.far (p := ⟨mb, 0, none⟩) hne v).below hb h.lt
theorem SFresh.q {B : Nat} {w w2 : World} {mb : Nat} {x : Sur} {A : Option Addr} {c : Nat} {v : Value} (h : SFresh B w x A c) (hm : mb < B) (hb : Below w.heap.size (w.setCell ⟨mb, 0, none⟩ v) w2) : SFresh B w2 x A c :=
  (h.setCell (p := ⟨mb, 0, none⟩) hm v).below (by rw [World.size_setCell]; exact hb)
theorem SSl.q {X : Nat → Prop} {w w2 : World} {mb : Nat} {x : Sur} {A : Option Addr} {c : Nat} {v : Value} (h : SSl X w x A c) (hm : X mb) (hb : Below w.heap.size (w.setCell ⟨mb, 0, none⟩ v) w2) : SSl X w2 x A c :=
  (h.far (p := ⟨mb, 0, none⟩) hm v).below (by rw [World.size_setCell]; exact hb)

set_option maxHeartbeats 400000 in
theorem take_any (x : Sur) (ok bad : Bool) (mb : Nat) (A : Option Addr) (c : Nat) (w : World) (hm : w.cell? ⟨mb, 0, none⟩ = some (.bool bad)) (hf : w.frozen? ⟨mb, 0, none⟩ = false) :
    Calls Tryz.prog 122 #[.pointer (some ⟨mb, 0, none⟩), .agg #[.slice A x.len c], .bool ok] w fun e w' => e = .returned (.agg #[.slice A x.len c]) ∧ Below w.heap.size (w.setCell ⟨mb, 0, none⟩ (.bool (bad || !ok))) w' := by
  have hlt : mb < w.heap.size := World.block_lt_of_cell? w ⟨mb, 0, none⟩ hm
  have hn1 : ¬ mb = w.heap.size := by omega
  have hn2 : ¬ mb = w.heap.size + 1 := by omega
  cases bad <;> cases ok
  all_goals
    go_enter Tryz.func122, Tryz.ntmps122
    go_wp2
    refine bodyPost_ret (v := .agg #[.slice A x.len c]) (by simp [results, Tryz.results122, go_sem]) rfl ?_
    refine ⟨rfl, ?_⟩
    refine Below.alloc (Below.alloc (Below.refl _ _) ?_ _) ?_ _
    · simp only [World.size_setCell]; exact Nat.le_refl _
    · simp only [World.size_alloc, World.size_setCell]; omega

/-- what a maker's method leaves -/
def RetM (w : World) (mb : Nat) (bad : Bool) (o : Option Sur) (e : Ending) (w' : World) : Prop :=
  ∃ A c, e = .returned (.agg #[.slice A (o.getD .nil).len c]) ∧ SFresh w.heap.size w' (o.getD .nil) A c ∧ Below w.heap.size (w.setCell ⟨mb, 0, none⟩ (.bool (bad || !o.isSome))) w'

set_option maxHeartbeats 400000 in
theorem madd_any (x y : Sur) (bad : Bool) (mb : Nat) (X Y : Nat → Prop) (A A' : Option Addr) (c c' : Nat) (w : World) (sx : SSl X w x A c) (sy : SSl Y w y A' c') (hm : w.cell? ⟨mb, 0, none⟩ = some (.bool bad)) (hf : w.frozen? ⟨mb, 0, none⟩ = false) :
    Calls Tryz.prog 58 #[.pointer (some ⟨mb, 0, none⟩), .agg #[.slice A x.len c], .agg #[.slice A' y.len c']] w (RetM w mb bad (addS x y)) := by
  have hlt : mb < w.heap.size := World.block_lt_of_cell? w ⟨mb, 0, none⟩ hm
  have k0 := (((Blk.new w 26 #[.slice A x.len c]).alloc (.cells #[.slice A' y.len c'] 26)).alloc (.cells #[.slice none 0 0] 26))
  have k1 := ((Blk.new' (g := w.heap.size + 1) (w.alloc (.cells #[.slice A x.len c] 26)) 26 #[.slice A' y.len c'] (by simp)).alloc (.cells #[.slice none 0 0] 26))
  have k2 := (Blk.new' (g := w.heap.size + 1 + 1) ((w.alloc (.cells #[.slice A x.len c] 26)).alloc (.cells #[.slice A' y.len c'] 26)) 26 #[.slice none 0 0] (by simp))
  have hB0 : Below w.heap.size w (((w.alloc (.cells #[.slice A x.len c] 26)).alloc (.cells #[.slice A' y.len c'] 26)).alloc (.cells #[.slice none 0 0] 26)) := by go_grown
  go_enter Tryz.func58, Tryz.ntmps58
  go_wp2_with fail
  refine (AddSurreals_any x y _ _ _ _ _ _ _ (sx.below hB0) (sy.below hB0)).mono ?_
  rintro e1 w1 ⟨A1, c1, rfl, hf1, hb1⟩
  have hB1 := Below.call hB0 (by go_size) hb1
  have l2 := k2.call hb1
  go_wp2_with fail
  refine (take_any _ _ bad mb A1 c1 _ (by rw [hB1.cell (p := ⟨mb, 0, none⟩) hlt]; exact hm) (by rw [hB1.frozen (p := ⟨mb, 0, none⟩) hlt]; exact hf)).mono ?_
  rintro e2 w2 ⟨rfl, hb2⟩
  obtain ⟨q2, qf2⟩ := (l2.q (by omega) hb2).c1
  have hq2 := q_set hB1.size hB1 hb2
  go_wp2
  refine bodyPost_ret (v := .agg #[.slice A1 ((addS x y).getD .nil).len c1]) (by simp [results, Tryz.results58, go_sem, q2]) rfl ?_
  exact ⟨A1, c1, rfl, ((hf1.q (by go_size) hb2).setCell (p := ⟨w.heap.size + 1 + 1, 0, none⟩) k2.lt _).mono (by go_size), hq2.setCell (by simp; omega) _⟩

set_option maxHeartbeats 400000 in
theorem mmul_any (x y : Sur) (bad : Bool) (mb : Nat) (X Y : Nat → Prop) (A A' : Option Addr) (c c' : Nat) (w : World) (sx : SSl X w x A c) (sy : SSl Y w y A' c') (hm : w.cell? ⟨mb, 0, none⟩ = some (.bool bad)) (hf : w.frozen? ⟨mb, 0, none⟩ = false) :
    Calls Tryz.prog 53 #[.pointer (some ⟨mb, 0, none⟩), .agg #[.slice A x.len c], .agg #[.slice A' y.len c']] w (RetM w mb bad (mulS x y)) := by
  have hlt : mb < w.heap.size := World.block_lt_of_cell? w ⟨mb, 0, none⟩ hm
  have k0 := (((Blk.new w 26 #[.slice A x.len c]).alloc (.cells #[.slice A' y.len c'] 26)).alloc (.cells #[.slice none 0 0] 26))
  have k1 := ((Blk.new' (g := w.heap.size + 1) (w.alloc (.cells #[.slice A x.len c] 26)) 26 #[.slice A' y.len c'] (by simp)).alloc (.cells #[.slice none 0 0] 26))
  have k2 := (Blk.new' (g := w.heap.size + 1 + 1) ((w.alloc (.cells #[.slice A x.len c] 26)).alloc (.cells #[.slice A' y.len c'] 26)) 26 #[.slice none 0 0] (by simp))
  have hB0 : Below w.heap.size w (((w.alloc (.cells #[.slice A x.len c] 26)).alloc (.cells #[.slice A' y.len c'] 26)).alloc (.cells #[.slice none 0 0] 26)) := by go_grown
  go_enter Tryz.func53, Tryz.ntmps53
  go_wp2_with fail
  refine (MultiplySurreals_any x y _ _ _ _ _ _ _ (sx.below hB0) (sy.below hB0)).mono ?_
  rintro e1 w1 ⟨A1, c1, rfl, hf1, hb1⟩
  have hB1 := Below.call hB0 (by go_size) hb1
  have l2 := k2.call hb1
  go_wp2_with fail
  refine (take_any _ _ bad mb A1 c1 _ (by rw [hB1.cell (p := ⟨mb, 0, none⟩) hlt]; exact hm) (by rw [hB1.frozen (p := ⟨mb, 0, none⟩) hlt]; exact hf)).mono ?_
  rintro e2 w2 ⟨rfl, hb2⟩
  obtain ⟨q2, qf2⟩ := (l2.q (by omega) hb2).c1
  have hq2 := q_set hB1.size hB1 hb2
  go_wp2
  refine bodyPost_ret (v := .agg #[.slice A1 ((mulS x y).getD .nil).len c1]) (by simp [results, Tryz.results53, go_sem, q2]) rfl ?_
  exact ⟨A1, c1, rfl, ((hf1.q (by go_size) hb2).setCell (p := ⟨w.heap.size + 1 + 1, 0, none⟩) k2.lt _).mono (by go_size), hq2.setCell (by simp; omega) _⟩

set_option maxHeartbeats 400000 in
theorem msub_any (x y : Sur) (bad : Bool) (mb : Nat) (X Y : Nat → Prop) (A A' : Option Addr) (c c' : Nat) (w : World) (sx : SSl X w x A c) (sy : SSl Y w y A' c') (hm : w.cell? ⟨mb, 0, none⟩ = some (.bool bad)) (hf : w.frozen? ⟨mb, 0, none⟩ = false) (hl : y.len ≤ 1099511627776) :
    Calls Tryz.prog 103 #[.pointer (some ⟨mb, 0, none⟩), .agg #[.slice A x.len c], .agg #[.slice A' y.len c']] w (RetM w mb bad (subS x y)) := by
  have hlt : mb < w.heap.size := World.block_lt_of_cell? w ⟨mb, 0, none⟩ hm
  have k0 := (((Blk.new w 26 #[.slice A x.len c]).alloc (.cells #[.slice A' y.len c'] 26)).alloc (.cells #[.slice none 0 0] 26))
  have k1 := ((Blk.new' (g := w.heap.size + 1) (w.alloc (.cells #[.slice A x.len c] 26)) 26 #[.slice A' y.len c'] (by simp)).alloc (.cells #[.slice none 0 0] 26))
  have k2 := (Blk.new' (g := w.heap.size + 1 + 1) ((w.alloc (.cells #[.slice A x.len c] 26)).alloc (.cells #[.slice A' y.len c'] 26)) 26 #[.slice none 0 0] (by simp))
  have hB0 : Below w.heap.size w (((w.alloc (.cells #[.slice A x.len c] 26)).alloc (.cells #[.slice A' y.len c'] 26)).alloc (.cells #[.slice none 0 0] 26)) := by go_grown
  go_enter Tryz.func103, Tryz.ntmps103
  go_wp2_with fail
  refine (SubtractSurreals_any x y _ _ _ _ _ _ _ (sx.below hB0) (sy.below hB0) hl).mono ?_
  rintro e1 w1 ⟨A1, c1, rfl, hf1, hb1⟩
  have hB1 := Below.call hB0 (by go_size) hb1
  have l2 := k2.call hb1
  go_wp2_with fail
  refine (take_any _ _ bad mb A1 c1 _ (by rw [hB1.cell (p := ⟨mb, 0, none⟩) hlt]; exact hm) (by rw [hB1.frozen (p := ⟨mb, 0, none⟩) hlt]; exact hf)).mono ?_
  rintro e2 w2 ⟨rfl, hb2⟩
  obtain ⟨q2, qf2⟩ := (l2.q (by omega) hb2).c1
  have hq2 := q_set hB1.size hB1 hb2
  go_wp2
  refine bodyPost_ret (v := .agg #[.slice A1 ((subS x y).getD .nil).len c1]) (by simp [results, Tryz.results103, go_sem, q2]) rfl ?_
  exact ⟨A1, c1, rfl, ((hf1.q (by go_size) hb2).setCell (p := ⟨w.heap.size + 1 + 1, 0, none⟩) k2.lt _).mono (by go_size), hq2.setCell (by simp; omega) _⟩

set_option maxHeartbeats 400000 in
theorem mscale_any (x : Sur) (fa fb : Int) (bad : Bool) (mb : Nat) (X : Nat → Prop) (A : Option Addr) (c : Nat) (w : World) (sx : SSl X w x A c) (hm : w.cell? ⟨mb, 0, none⟩ = some (.bool bad)) (hf : w.frozen? ⟨mb, 0, none⟩ = false) :
    Calls Tryz.prog 59 #[.pointer (some ⟨mb, 0, none⟩), .agg #[.slice A x.len c], .agg #[.int .i64 fa, .int .i64 fb]] w (RetM w mb bad (scaleS x fa fb)) := by
  have hlt : mb < w.heap.size := World.block_lt_of_cell? w ⟨mb, 0, none⟩ hm
  have k0 := (((Blk.new w 26 #[.slice A x.len c]).alloc (.cells #[.int .i64 fa, .int .i64 fb] 28)).alloc (.cells #[.slice none 0 0] 26))
  have k1 := ((Blk.new' (g := w.heap.size + 1) (w.alloc (.cells #[.slice A x.len c] 26)) 28 #[.int .i64 fa, .int .i64 fb] (by simp)).alloc (.cells #[.slice none 0 0] 26))
  have k2 := (Blk.new' (g := w.heap.size + 1 + 1) ((w.alloc (.cells #[.slice A x.len c] 26)).alloc (.cells #[.int .i64 fa, .int .i64 fb] 28)) 26 #[.slice none 0 0] (by simp))
  have hB0 : Below w.heap.size w (((w.alloc (.cells #[.slice A x.len c] 26)).alloc (.cells #[.int .i64 fa, .int .i64 fb] 28)).alloc (.cells #[.slice none 0 0] 26)) := by go_grown
  go_enter Tryz.func59, Tryz.ntmps59
  go_wp2_with fail
  refine (ScaleSurreal_any x fa fb _ _ _ _ (sx.below hB0)).mono ?_
  rintro e1 w1 ⟨A1, c1, rfl, hf1, hb1⟩
  have hB1 := Below.call hB0 (by go_size) hb1
  have l2 := k2.call hb1
  go_wp2_with fail
  refine (take_any _ _ bad mb A1 c1 _ (by rw [hB1.cell (p := ⟨mb, 0, none⟩) hlt]; exact hm) (by rw [hB1.frozen (p := ⟨mb, 0, none⟩) hlt]; exact hf)).mono ?_
  rintro e2 w2 ⟨rfl, hb2⟩
  obtain ⟨q2, qf2⟩ := (l2.q (by omega) hb2).c1
  have hq2 := q_set hB1.size hB1 hb2
  go_wp2
  refine bodyPost_ret (v := .agg #[.slice A1 ((scaleS x fa fb).getD .nil).len c1]) (by simp [results, Tryz.results59, go_sem, q2]) rfl ?_
  exact ⟨A1, c1, rfl, ((hf1.q (by go_size) hb2).setCell (p := ⟨w.heap.size + 1 + 1, 0, none⟩) k2.lt _).mono (by go_size), hq2.setCell (by simp; omega) _⟩

end Go.Proofs.YtphabopnbcgodaaGreat

namespace Go.Proofs.YtphabopnbcgodaaGreat
open Go.RowKit
set_option linter.unusedSimpArgs false
set_option linter.unusedVariables false

set_option maxHeartbeats 400000 in
theorem mtold_any (x : Sur) (bad : Bool) (mb : Nat) (A : Option Addr) (c : Nat) (w : World) (hm : w.cell? ⟨mb, 0, none⟩ = some (.bool bad)) (B : Nat) (hB : B ≤ w.heap.size) (hs : SFresh B w x A c) :
    Calls Tryz.prog 60 #[.pointer (some ⟨mb, 0, none⟩), .agg #[.slice A x.len c]] w fun e w' => ∃ A' c', e = .returned (.tuple #[.agg #[.slice A' ((if bad then none else some x).getD Sur.nil).len c'], .bool (!bad)]) ∧ SFresh B w' ((if bad then none else some x).getD .nil) A' c' ∧ Below w.heap.size w w' := by
  have hlt : mb < w.heap.size := World.block_lt_of_cell? w ⟨mb, 0, none⟩ hm
  have hn1 : ¬ mb = w.heap.size := by omega
  have hn2 : ¬ mb = w.heap.size + 1 := by omega
  cases bad
  · go_enter Tryz.func60, Tryz.ntmps60
    go_wp2
    refine bodyPost_ret (v := .tuple #[.agg #[.slice A x.len c], .bool true]) (by simp [results, Tryz.results60, go_sem]) rfl ?_
    exact ⟨A, c, rfl, hs.below (by go_grown), by go_grown⟩
  · go_enter Tryz.func60, Tryz.ntmps60
    go_wp2
    refine bodyPost_ret (v := .tuple #[.agg #[.slice none 0 0], .bool false]) (by simp [results, Tryz.results60, go_sem]) rfl ?_
    exact ⟨none, 0, rfl, SFresh.nil _ _, by go_grown⟩

def stepsB (n : Int) : Bool := inB n 0 12

set_option maxHeartbeats 400000 in
theorem stepsOk_any (n : Int) (w : World) :
    Calls Tryz.prog 49 #[.int .i64 n] w fun e w' => e = .returned (.bool (stepsB n)) ∧ w = w' := by
  go_enter Tryz.func49, Tryz.ntmps49
  go_wp2_with (go_at_call 99; refine (in_any _ _ _ _).mono ?_; rintro e w' ⟨rfl, rfl⟩)
  go_ret
  exact ⟨rfl, rfl⟩

def smallS : Sur → Bool
  | .nil => true
  | .cons e _ _ _ => decide (order e .nil < 0)

set_option maxHeartbeats 800000 in
theorem isSmall_any (x : Sur) (X : Nat → Prop) (A : Option Addr) (c : Nat) (w : World) (sx : SSl X w x A c) (hx : x.All Bd) :
    Calls Tryz.prog 121 #[.agg #[.slice A x.len c]] w fun e w' => e = .returned (.bool (smallS x)) ∧ Below w.heap.size w w' := by
  have k0 := (Blk.new w 26 #[.slice A x.len c])
  have hB0 : Below w.heap.size w (w.alloc (.cells #[.slice A x.len c] 26)) := by go_grown
  cases x with
  | nil =>
    go_enter Tryz.func121, Tryz.ntmps121
    go_wp2_with fail
    refine (isNothing_any .nil _ _ _).mono ?_
    rintro e1 w1 ⟨rfl, hb1⟩
    have hB1 := Below.call hB0 (by go_size) hb1
    have e0 : (((Sur.nil).len : Int) == 0) = true := rfl
    go_wp2
    go_ret
    exact ⟨rfl, hB1⟩
  | cons e n d r =>
    obtain ⟨b, o, e', n', d', A1, d1, rfl, hxk, f0, f1, f2, se, _, _, _, hbl⟩ := sx.at_ (k := 0) (by simp [Sur.len])
    simp only [Sur.drop] at hxk
    injection hxk with he hn hd hr
    subst he hn hd
    go_enter Tryz.func121, Tryz.ntmps121
    go_wp2_with fail
    refine (isNothing_any (.cons e n d r) _ _ _).mono ?_
    rintro e1 w1 ⟨rfl, hb1⟩
    have hB1 := Below.call hB0 (by go_size) hb1
    obtain ⟨p0, p1⟩ := (k0.call hb1).c1
    have g0 : w1.cell? ⟨b, o, none⟩ = some (.slice A1 e.len d1) := by rw [hB1.cell hbl]; simpa using f0
    have e0 : (((Sur.cons e n d r).len : Int) == 0) = false := by simp [Sur.len]; omega
    have hl : 0 < (Sur.cons e n d r).len := by simp [Sur.len]
    go_wp2_with fail
    refine (order_any _ e .nil (fun _ => False) (fun _ => False) _ none _ 0 _ (Nat.le_refl _) hx.1 trivial ((se.more (fun _ h => h.elim)).below (by go_grown)) (SSl.nil _ _)).mono ?_
    rintro e2 w2 ⟨rfl, hb2⟩
    have hB2 := Below.call hB1 hB1.size hb2
    have H := Lib.hid (show smallS (.cons e n d r) = decide (order e .nil < 0) from rfl)
    have ho := order_range e .nil
    rcases ho with q | q | q
    all_goals
      rw [q]
      rw [q] at H
      go_wp2
      go_ret
      exact ⟨by rw [H.out]; rfl, hB2⟩
theorem m_cell {w w' : World} {B mb : Nat} {v : Value} (h : Below B w w') (hlt : mb < B) (hm : w.cell? ⟨mb, 0, none⟩ = some v) : w'.cell? ⟨mb, 0, none⟩ = some v := by
  rw [h.cell (p := ⟨mb, 0, none⟩) hlt]; exact hm
theorem m_froz {w w' : World} {B mb : Nat} (h : Below B w w') (hlt : mb < B) (hm : w.frozen? ⟨mb, 0, none⟩ = false) : w'.frozen? ⟨mb, 0, none⟩ = false := by
  rw [h.frozen (p := ⟨mb, 0, none⟩) hlt]; exact hm
theorem mix_all {o : Option Sur} (h : ∀ z, o = some z → z.All Bd) : (o.getD .nil).All Bd := by
  cases o with
  | none => trivial
  | some z => exact h z rfl
theorem addS_all {x y z : Sur} (h : addS x y = some z) : z.All FOk ∧ sGood z = true := by
  unfold addS at h
  split at h
  · rcases hq : sumP x y with _ | q
    · rw [hq] at h; simp at h
    · rw [hq] at h
      obtain ⟨rfl, _, hg⟩ := told_eq h
      exact ⟨(sGood_len hg).2.2, hg⟩
  · simp at h
/-- the same cell of an old block is stored into once more -/
theorem q_over {w w1 : World} {mb : Nat} {v : Value} (u : Value) (h : Below w.heap.size (w.setCell ⟨mb, 0, none⟩ v) w1) : Below w.heap.size (w.setCell ⟨mb, 0, none⟩ u) (w1.setCell ⟨mb, 0, none⟩ u) := by
  refine ⟨h.os, h.tape, h.output, ?_, fun k hk => ?_⟩
  · have := h.size; simp only [World.size_setCell] at *; exact this
  · have := h.block k hk
    by_cases hkq : k = mb
    · subst hkq
      simp only [World.setCell, Array.getElem?_modify, if_true] at this ⊢
      rw [this]
      cases w.heap[k]? with
      | none => rfl
      | some o => cases o <;> simp
    · rw [Below.heap_setCell _ _ _ _ hkq] at this ⊢
      rw [Below.heap_setCell _ _ _ _ hkq, this]
/-- one more than 1 -/
def oneS : Sur := termP .nil 1 1
/-- nearOne: what a number is more than 1 -/
def lessOne (x : Sur) : Option Sur := subS x oneS
def nearBad (bad : Bool) (x : Sur) : Bool := (bad || !(lessOne x).isSome) || !smallS ((lessOne x).getD .nil)
theorem lessOne_all (x : Sur) : ((lessOne x).getD .nil).All Bd := mix_all fun z h => All.bd (addS_all h).1

set_option maxHeartbeats 1600000 in
theorem nearOne_any (x : Sur) (bad : Bool) (mb : Nat) (X : Nat → Prop) (A : Option Addr) (c : Nat) (w : World) (sx : SSl X w x A c) (hm : w.cell? ⟨mb, 0, none⟩ = some (.bool bad)) (hf : w.frozen? ⟨mb, 0, none⟩ = false) :
    Calls Tryz.prog 50 #[.pointer (some ⟨mb, 0, none⟩), .agg #[.slice A x.len c]] w fun e w' => ∃ A' c', e = .returned (.agg #[.slice A' ((lessOne x).getD .nil).len c']) ∧ SFresh w.heap.size w' ((lessOne x).getD .nil) A' c' ∧
      Below w.heap.size (w.setCell ⟨mb, 0, none⟩ (.bool (nearBad bad x))) w' := by
  have hlt : mb < w.heap.size := World.block_lt_of_cell? w ⟨mb, 0, none⟩ hm
  have sx := sx.more (Y := fun _ => False) (fun _ h => h.elim)
  have k0 := ((Blk.new w 26 #[.slice A x.len c]).alloc (.cells #[.slice none 0 0] 26))
  have k1 := (Blk.new' (g := w.heap.size + 1) (w.alloc (.cells #[.slice A x.len c] 26)) 26 #[.slice none 0 0] (by simp))
  have hB0 : Below w.heap.size w ((w.alloc (.cells #[.slice A x.len c] 26)).alloc (.cells #[.slice none 0 0] 26)) := by go_grown
  go_enter Tryz.func50, Tryz.ntmps50
  have hne : w.heap.size + 1 + 1 ≠ w.heap.size := by omega
  go_upto_region 1 with fail
  go_cut [5] (fun s5 wx => ∃ g A3 c3, s5 = .pointer (some ⟨g, 0, none⟩) ∧ Blk wx g 26 #[.slice A3 ((lessOne x).getD .nil).len c3] ∧ w.heap.size + 1 < g ∧ SFresh (w.heap.size + 1 + 1) wx ((lessOne x).getD .nil) A3 c3 ∧ Blk wx (w.heap.size + 1) 26 #[.slice none 0 0] ∧
    Below w.heap.size (w.setCell ⟨mb, 0, none⟩ (.bool (bad || !(lessOne x).isSome))) wx)
  case first =>
    go_region_held3 (fun w' => w'.cell? ⟨w.heap.size, 0, none⟩ = some (.slice A x.len c)) (go_keep)
      (first | (go_at_call 52; refine (whole_any _ _).mono ?_; rintro e1 w1 ⟨rfl, hb1⟩; have l0 := Blk.thru k0 (by go_grown) hb1; have l1 := Blk.thru k1 (by go_grown) hb1; have hB1 : Below w.heap.size w w1 := (hB0.trans (Below.call (w := _) (by go_grown) (by go_size) hb1)); obtain ⟨a0, _⟩ := l0.c1; have ne1 := World.new_ne w1 _ a0; (try have va := Blk.call (w := (((w.alloc (.cells #[.slice A x.len c] 26)).alloc (.cells #[.slice none 0 0] 26)).alloc (.cells #[.slice none 0 0] 26)).drew) (Blk.new' (g := w.heap.size + 1 + 1) ((w.alloc (.cells #[.slice A x.len c] 26)).alloc (.cells #[.slice none 0 0] 26)) 26 #[.slice none 0 0] (by simp)) hb1); (try obtain ⟨vx1, vx2⟩ := va.c1)) | (go_at_call 51; refine (real_any _ _ (fun _ => False) _ (fun _ h => h.elim) ⟨by decide, by decide⟩ ⟨by decide, by decide⟩).mono ?_; rintro e2 w2 ⟨A2, c2, rfl, hs2, hb2⟩; have l20 := Blk.thru l0 (by go_grown) hb2; have l21 := Blk.thru l1 (by go_grown) hb2; have hB2 : Below w.heap.size w w2 := (Below.call (by first | exact hB1 | exact hB1.alloc hB1.size _) (by have := hB1.size; first | assumption | (simp only [World.size_alloc]; omega)) hb2); obtain ⟨b0, _⟩ := l20.c1; have ne2 := World.new_ne w2 _ b0; (try have vb := va.call hb2); (try have vb := Blk.call (w := (w1.alloc (.cells #[.slice none 0 0] 26))) (Blk.new w1 26 #[.slice none 0 0]) hb2); (try obtain ⟨vx3, vx4⟩ := vb.c1)) | (go_at_call 103; refine (msub_any x oneS bad mb _ _ _ _ _ _ _ (sx.below (by first | exact hB2 | exact hB2.alloc hB2.size _)) (hs2.below (by go_grown)) (m_cell (by first | exact hB2 | exact hB2.alloc hB2.size _) hlt hm) (m_froz (by first | exact hB2 | exact hB2.alloc hB2.size _) hlt hf) (by decide)).mono ?_; rintro e3 w3 ⟨A3, c3, rfl, hf3, hb3⟩; have m0 := Blk.q (by first | exact l20 | exact l20.alloc _) (by omega) hb3; have m1 := Blk.q (by first | exact l21 | exact l21.alloc _) (by omega) hb3; have hQ : Below w.heap.size (w.setCell ⟨mb, 0, none⟩ (.bool (bad || !(subS x oneS).isSome))) w3 := q_set (by have := hB2.size; first | assumption | (simp only [World.size_alloc]; omega)) (by first | exact hB2 | exact hB2.alloc hB2.size _) hb3; obtain ⟨d0, _⟩ := m0.c1; have ne3 := World.new_ne w3 _ d0; have zz3 := hQ.size; (try have vc := Blk.q vb (by have := hB1.size; have := hB2.size; omega) hb3); (try have vc := Blk.q (w := (w2.alloc (.cells #[.slice none 0 0] 26))) (Blk.new w2 26 #[.slice none 0 0]) (by have := hB2.size; omega) hb3); (try obtain ⟨vx5, vx6⟩ := vc.c1)))
    all_goals
      go_wp2_with fail
      go_meet
      have y1 := l1.lt
      have y2 := l21.lt
      have y3 := m1.lt
      (try have y4 := vb.lt)
      (try have y5 := vc.lt)
      first
        | exact ⟨_, A3, c3, rfl, Blk.new _ _ _, by omega, (hf3.mono (by omega)).below (by go_grown), m1.alloc _, hQ.alloc (by omega) _⟩
        | exact ⟨_, A3, c3, rfl, vc.set_ 0 _, by omega, (hf3.setCell (by simp only [World.size_alloc]; omega) _).mono (by simp only [World.size_alloc]; omega), m1.far (by dsimp only; omega) _, hQ.setCell (by dsimp only; omega) _⟩
        | exact ⟨_, A3, c3, rfl, vc.set_ 0 _, by omega, (hf3.setCell (by dsimp only; omega) _).mono (by omega), m1.far (by dsimp only; omega) _, hQ.setCell (by dsimp only; omega) _⟩
  case rest =>
    obtain ⟨g, A3, c3, rfl, kg, hg, hf3, k1', hQ⟩ := hcut
    obtain ⟨g1, _⟩ := kg.c1
    obtain ⟨p1, pf1⟩ := k1'.c1
    have hnb : ¬ g = mb := by omega
    have hnb' : ¬ mb = g := by omega
    have hnc : ¬ w.heap.size + 1 = mb := by omega
    have q0 := q_cell' (m := .bool bad) hm hQ
    have q1 := q_frozen hm hf hQ
    have hall := lessOne_all x
    have HZ := Lib.hid (show nearBad bad x = ((bad || !(lessOne x).isSome) || !smallS ((lessOne x).getD .nil)) from rfl)
    generalize hz : (lessOne x).getD .nil = z at *
    generalize hbb : (bad || !(lessOne x).isSome) = bb at *
    cases bb
    · go_wp2_with fail
      refine (isSmall_any z (fun _ => False) _ _ _ (hf3.toS (fun _ h => h.elim)) hall).mono ?_
      rintro e4 w4 ⟨rfl, hb4⟩
      have t0 : w4.cell? ⟨mb, 0, none⟩ = some (.bool false) := m_cell hb4 (World.block_lt_of_cell? _ _ q0) q0
      have t1 := m_froz hb4 (World.block_lt_of_cell? _ _ q0) q1
      have kg4 := kg.call hb4
      have k14 := k1'.call hb4
      obtain ⟨g4, _⟩ := kg4.c1
      obtain ⟨p4, pf4⟩ := k14.c1
      have hQ4 := Below.call hQ (by have := hQ.size; simp only [World.size_setCell] at this; exact this) hb4
      have hf4 := hf3.below hb4
      cases hs : smallS z
      all_goals
        rw [hs] at HZ
        go_wp2_with fail
        refine bodyPost_ret (v := .agg #[.slice A3 z.len c3]) (by simp [results, Tryz.results50, go_sem, p4, hnc]) rfl ?_
        rw [HZ.out, hz]
        exact ⟨A3, c3, rfl, ((hf4.setCell (p := ⟨mb, 0, none⟩) (by dsimp only; omega) _).setCell (p := ⟨w.heap.size + 1, 0, none⟩) (by dsimp only; omega) _).mono (by omega), (q_over _ hQ4).setCell (by dsimp only; omega) _⟩
    · go_wp2_with fail
      refine bodyPost_ret (v := .agg #[.slice A3 z.len c3]) (by simp [results, Tryz.results50, go_sem, p1, hnc]) rfl ?_
      rw [HZ.out, hz]
      first
        | exact ⟨A3, c3, rfl, ((hf3.setCell (p := ⟨mb, 0, none⟩) (by dsimp only; omega) _).setCell (p := ⟨w.heap.size + 1, 0, none⟩) (by dsimp only; omega) _).mono (by omega), (q_over _ hQ).setCell (by dsimp only; omega) _⟩
end Go.Proofs.YtphabopnbcgodaaGreat
