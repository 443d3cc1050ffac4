/-
  Walks, the reference's side: fractions until something fails.
-/
import Derived.Test.YtnkghpdhmdgnmaaSKeep
namespace Go.Proofs.Ytnkghpdhmdgnmaa
open Go.RowKit
set_option linter.unusedSimpArgs false
set_option linter.unusedVariables false

/-- what is kept of a fraction -/
def frB (bad : Bool) (n d : Int) : Bool := bad || !fracOk n d
def frN (b : Bool) (n : Int) : Int := if b = true then 1 else n
/-- what a method leaves -/
def RetF (w : World) (mb : Nat) (bad : Bool) (n d : Int) (e : Ending) (w' : World) : Prop :=
  e = .returned (.agg #[.int .i64 (frN (frB bad n d) n), .int .i64 (frN (frB bad n d) d)]) ∧ Below w.heap.size (w.setCell ⟨mb, 0, none⟩ (.bool (frB bad n d))) w'

set_option maxHeartbeats 800000 in
theorem fraction_any (n d : Int) (bad : Bool) (mb : Nat) (w : World) (hm : w.cell? ⟨mb, 0, none⟩ = some (.bool bad)) (hf : w.frozen? ⟨mb, 0, none⟩ = false) :
    Calls Try.prog 118 #[.pointer (some ⟨mb, 0, none⟩), .agg #[.int .i64 n, .int .i64 d]] w (RetF w mb bad n d) := by
  have hlt : mb < w.heap.size := World.block_lt_of_cell? w ⟨mb, 0, none⟩ hm
  have hn1 : ¬ mb = w.heap.size := by omega
  have hn2 : ¬ mb = w.heap.size + 1 := by omega
  have hn3 : ¬ w.heap.size = mb := by omega
  have hn4 : ¬ w.heap.size + 1 = mb := by omega
  have k0 := ((Blk.new w 34 #[.int .i64 n, .int .i64 d]).alloc (.cells #[.int .i64 0, .int .i64 0] 34))
  have k1 := (Blk.new' (g := w.heap.size + 1) (w.alloc (.cells #[.int .i64 n, .int .i64 d] 34)) 34 #[.int .i64 0, .int .i64 0] (by simp))
  have hB0 : Below w.heap.size w ((w.alloc (.cells #[.int .i64 n, .int .i64 d] 34)).alloc (.cells #[.int .i64 0, .int .i64 0] 34)) := by go_grown
  cases bad
  · cases hg : fracOk n d
    · go_enter Try.func118, Try.ntmps118
      go_wp2_with fail
      refine (shGood_any n d _).mono ?_
      rintro e1 w1 ⟨rfl, hb1⟩
      rw [hg]
      have hB1 := Below.call hB0 (by go_size) hb1
      have g0 : w1.cell? ⟨mb, 0, none⟩ = some (.bool false) := by rw [hB1.cell (p := ⟨mb, 0, none⟩) hlt]; exact hm
      have gf : w1.frozen? ⟨mb, 0, none⟩ = false := by rw [hB1.frozen (p := ⟨mb, 0, none⟩) hlt]; exact hf
      have l1 := k1.call hb1
      go_wp2_with fail
      refine (shInt_any 1 _).mono ?_
      rintro e2 w2 ⟨rfl, hb2⟩
      rw [World.size_setCell] at hb2
      obtain ⟨q0, q1, qf0, qf1⟩ := (l1.q (by omega) hb2).c2
      have hq := q_set hB1.size hB1 hb2
      go_wp2
      refine bodyPost_ret (v := .agg #[.int .i64 1, .int .i64 1]) (by simp [results, Try.results118, go_sem, q0, q1]) rfl ?_
      exact ⟨by simp [frB, frN, hg], by rw [show frB false n d = true by simp [frB, hg]]; exact (hq.setCell (by simp) _).setCell (by simp) _⟩
    · go_enter Try.func118, Try.ntmps118
      go_wp2_with fail
      refine (shGood_any n d _).mono ?_
      rintro e1 w1 ⟨rfl, hb1⟩
      rw [hg]
      have hB1 := Below.call hB0 (by go_size) hb1
      have g0 : w1.cell? ⟨mb, 0, none⟩ = some (.bool false) := by rw [hB1.cell (p := ⟨mb, 0, none⟩) hlt]; exact hm
      have gf : w1.frozen? ⟨mb, 0, none⟩ = false := by rw [hB1.frozen (p := ⟨mb, 0, none⟩) hlt]; exact hf
      have l0 := k0.call hb1
      have l1 := k1.call hb1
      obtain ⟨p0, p1, _, _⟩ := l0.c2
      obtain ⟨q0, q1, qf0, qf1⟩ := l1.c2
      go_wp2
      refine bodyPost_ret (v := .agg #[.int .i64 n, .int .i64 d]) (by simp [results, Try.results118, go_sem, q0, q1]) rfl ?_
      have hq := q_set (v := .bool false) (mb := mb) hB1.size hB1 (Below.refl _ _)
      exact ⟨by simp [frB, frN, hg], by rw [show frB false n d = false by simp [frB, hg]]; exact (hq.setCell (by simp) _).setCell (by simp) _⟩
  · go_enter Try.func118, Try.ntmps118
    go_wp2_with fail
    refine (shInt_any 1 _).mono ?_
    rintro e2 w2 ⟨rfl, hb2⟩
    have hB1' : Below w.heap.size (w.setCell ⟨mb, 0, none⟩ (.bool true)) w2 := by
      refine Below.trans ?_ (hb2.mono (by simp; omega))
      go_grown
    obtain ⟨q0, q1, qf0, qf1⟩ := (Blk.call (Blk.new' (g := w.heap.size + 1) ((w.setCell ⟨mb, 0, none⟩ (.bool true)).alloc (.cells #[.int .i64 n, .int .i64 d] 34)) 34 #[.int .i64 0, .int .i64 0] (by simp)) hb2).c2
    go_wp2
    refine bodyPost_ret (v := .agg #[.int .i64 1, .int .i64 1]) (by simp [results, Try.results118, go_sem, q0, q1]) rfl ?_
    exact ⟨by simp [frB, frN], by rw [show frB true n d = true from rfl]; exact (hB1'.setCell (by simp) _).setCell (by simp) _⟩

set_option maxHeartbeats 800000 in
theorem times_any (n d n' d' : Int) (bad : Bool) (mb : Nat) (w : World) (h : FOk n d) (h' : FOk n' d') (hm : w.cell? ⟨mb, 0, none⟩ = some (.bool bad)) (hf : w.frozen? ⟨mb, 0, none⟩ = false) :
    Calls Try.prog 116 #[.pointer (some ⟨mb, 0, none⟩), .agg #[.int .i64 n, .int .i64 d], .agg #[.int .i64 n', .int .i64 d']] w (RetF w mb bad (muN n d n' d') (muD n d n' d')) := by
  have hlt : mb < w.heap.size := World.block_lt_of_cell? w ⟨mb, 0, none⟩ hm
  have g := fracOk_iff.1 h
  have g' := fracOk_iff.1 h'
  have k0 := (((Blk.new w 34 #[.int .i64 n, .int .i64 d]).alloc (.cells #[.int .i64 n', .int .i64 d'] 34)).alloc (.cells #[.int .i64 0, .int .i64 0] 34))
  have k1 := ((Blk.new' (g := w.heap.size + 1) (w.alloc (.cells #[.int .i64 n, .int .i64 d] 34)) 34 #[.int .i64 n', .int .i64 d'] (by simp)).alloc (.cells #[.int .i64 0, .int .i64 0] 34))
  have k2 := (Blk.new' (g := w.heap.size + 1 + 1) ((w.alloc (.cells #[.int .i64 n, .int .i64 d] 34)).alloc (.cells #[.int .i64 n', .int .i64 d'] 34)) 34 #[.int .i64 0, .int .i64 0] (by simp))
  have hB0 : Below w.heap.size w (((w.alloc (.cells #[.int .i64 n, .int .i64 d] 34)).alloc (.cells #[.int .i64 n', .int .i64 d'] 34)).alloc (.cells #[.int .i64 0, .int .i64 0] 34)) := by go_grown
  go_enter Try.func116, Try.ntmps116
  go_wp2_with fail
  refine (shMul_any n d n' d' h h' _).mono ?_
  rintro e1 w1 ⟨rfl, hb1⟩
  have hB1 := Below.call hB0 (by go_size) hb1
  have l2 := k2.call hb1
  go_wp2_with fail
  refine (fraction_any _ _ bad mb _ (by rw [hB1.cell (p := ⟨mb, 0, none⟩) hlt]; exact hm) (by rw [hB1.frozen (p := ⟨mb, 0, none⟩) hlt]; exact hf)).mono ?_
  rintro e2 w2 ⟨rfl, hb2⟩
  obtain ⟨q0, q1, qf0, qf1⟩ := (l2.q (by omega) hb2).c2
  have hq2 := q_set hB1.size hB1 hb2
  go_wp2
  refine bodyPost_ret (v := .agg #[.int .i64 (frN (frB bad (muN n d n' d') (muD n d n' d')) (muN n d n' d')), .int .i64 (frN (frB bad (muN n d n' d') (muD n d n' d')) (muD n d n' d'))]) (by simp [results, Try.results116, go_sem, q0, q1]) rfl ?_
  exact ⟨rfl, (hq2.setCell (by simp; omega) _).setCell (by simp; omega) _⟩

set_option maxHeartbeats 800000 in
theorem over_any (n d n' d' : Int) (bad : Bool) (mb : Nat) (w : World) (h : FOk n d) (h' : FOk n' d') (h0 : n' ≠ 0) (hm : w.cell? ⟨mb, 0, none⟩ = some (.bool bad)) (hf : w.frozen? ⟨mb, 0, none⟩ = false) :
    Calls Try.prog 117 #[.pointer (some ⟨mb, 0, none⟩), .agg #[.int .i64 n, .int .i64 d], .agg #[.int .i64 n', .int .i64 d']] w (RetF w mb bad (mkN (n * d') (d * n')) (mkD (n * d') (d * n'))) := by
  have hlt : mb < w.heap.size := World.block_lt_of_cell? w ⟨mb, 0, none⟩ hm
  have g := fracOk_iff.1 h
  have g' := fracOk_iff.1 h'
  have hne : d * n' ≠ 0 := fun h => by rcases Int.mul_eq_zero.1 h with h | h <;> omega
  have HNE := Lib.hid hne
  clear hne
  have b1 := mul_bd6 (a := n) (b := d') (by omega) (by omega)
  have wb1 : IntKind.i64.wrap (n * d') = n * d' := IntWalk.i64_in _ (by omega)
  have b2 := mul_bd6 (a := d) (b := n') (by omega) (by omega)
  have wb2 : IntKind.i64.wrap (d * n') = d * n' := IntWalk.i64_in _ (by omega)
  have k0 := (((Blk.new w 34 #[.int .i64 n, .int .i64 d]).alloc (.cells #[.int .i64 n', .int .i64 d'] 34)).alloc (.cells #[.int .i64 0, .int .i64 0] 34))
  have k1 := ((Blk.new' (g := w.heap.size + 1) (w.alloc (.cells #[.int .i64 n, .int .i64 d] 34)) 34 #[.int .i64 n', .int .i64 d'] (by simp)).alloc (.cells #[.int .i64 0, .int .i64 0] 34))
  have k2 := (Blk.new' (g := w.heap.size + 1 + 1) ((w.alloc (.cells #[.int .i64 n, .int .i64 d] 34)).alloc (.cells #[.int .i64 n', .int .i64 d'] 34)) 34 #[.int .i64 0, .int .i64 0] (by simp))
  have hB0 : Below w.heap.size w (((w.alloc (.cells #[.int .i64 n, .int .i64 d] 34)).alloc (.cells #[.int .i64 n', .int .i64 d'] 34)).alloc (.cells #[.int .i64 0, .int .i64 0] 34)) := by go_grown
  go_enter Try.func117, Try.ntmps117
  go_wp2_with fail
  refine (shMake_any (n * d') (d * n') (by omega) (by omega) HNE.out _).mono ?_
  rintro e1 w1 ⟨rfl, hb1⟩
  have hB1 := Below.call hB0 (by go_size) hb1
  have l2 := k2.call hb1
  go_wp2_with fail
  refine (fraction_any _ _ bad mb _ (by rw [hB1.cell (p := ⟨mb, 0, none⟩) hlt]; exact hm) (by rw [hB1.frozen (p := ⟨mb, 0, none⟩) hlt]; exact hf)).mono ?_
  rintro e2 w2 ⟨rfl, hb2⟩
  obtain ⟨q0, q1, qf0, qf1⟩ := (l2.q (by omega) hb2).c2
  have hq2 := q_set hB1.size hB1 hb2
  go_wp2
  refine bodyPost_ret (v := .agg #[.int .i64 (frN (frB bad (mkN (n * d') (d * n')) (mkD (n * d') (d * n'))) (mkN (n * d') (d * n'))), .int .i64 (frN (frB bad (mkN (n * d') (d * n')) (mkD (n * d') (d * n'))) (mkD (n * d') (d * n')))]) (by simp [results, Try.results117, go_sem, q0, q1]) rfl ?_
  exact ⟨rfl, (hq2.setCell (by simp; omega) _).setCell (by simp; omega) _⟩
end Go.Proofs.Ytnkghpdhmdgnmaa
