/-
  Walks: sums, products and quotients of fractions.
-/
import Derived.Test.YtphabopnbcgodaaWOrd
namespace Go.Proofs.Ytphabopnbcgodaa
open Go.RowKit
set_option linter.unusedSimpArgs false
set_option linter.unusedVariables false

def optF : Option (Int × Int) → Value
  | some (p, q) => .tuple #[.agg #[.int .i64 p, .int .i64 q], .bool true]
  | none => .tuple #[.agg #[.int .i64 0, .int .i64 0], .bool false]

theorem gsign_ne {n d : Int} (hd : d ≠ 0) : gsign n d ≠ 0 := by
  have := Int.gcd_pos_of_ne_zero_right n hd
  unfold gsign; split <;> omega

theorem natAbs_tdiv_le (a b : Int) : (a.tdiv b).natAbs ≤ a.natAbs := by
  rw [Int.natAbs_tdiv]; exact Nat.div_le_self _ _

set_option maxHeartbeats 800000 in
theorem made_any (n d : Int) (hn : -4611686018427387904 ≤ n ∧ n ≤ 4611686018427387904) (hd : -4611686018427387904 ≤ d ∧ d ≤ 4611686018427387904) (w : World) :
    Calls Try.prog 118 #[.int .i64 n, .int .i64 d] w fun e w' => e = .returned (optF (made n d)) ∧ Below w.heap.size w w' := by
  by_cases h0 : d = 0
  · have h : made n d = none := by simp [made, h0]
    have H := Lib.hid h
    have e0 : (d == 0) = true := by simpa using h0
    clear h h0
    go_enter Try.func118, Try.ntmps118
    go_wp2
    go_returns
    exact ⟨by rw [H.out]; rfl, by go_grown⟩
  · have e0 : (d == 0) = false := by simpa using h0
    obtain ⟨G, hGe⟩ : ∃ G, G = gsign n d := ⟨_, rfl⟩
    have g0 : G ≠ 0 := by rw [hGe]; exact gsign_ne (n := n) h0
    have a1 := natAbs_tdiv_le n G
    have a2 := natAbs_tdiv_le d G
    have hgle : (Int.gcd n d : Int) ≤ 4611686018427387904 := by
      have h1 := Int.gcd_le_natAbs_right n h0
      omega
    have hg0 : (0 : Int) < (Int.gcd n d : Int) := by have := Int.gcd_pos_of_ne_zero_right n h0; omega
    have w1 : IntKind.i64.wrap (n.tdiv G) = n.tdiv G := IntWalk.i64_in _ (by omega)
    have w2 : IntKind.i64.wrap (d.tdiv G) = d.tdiv G := IntWalk.i64_in _ (by omega)
    have hm : made n d = if fracOk (n.tdiv G) (d.tdiv G) = true then some (n.tdiv G, d.tdiv G) else none := by simp only [made, if_neg h0, mkN, mkD, ← hGe]
    have H := Lib.hid hm
    have g1 : (G == 0) = false := beq_eq_false_iff_ne.2 g0
    have hcase : (d < 0 ∧ -(Int.gcd n d : Int) = G) ∨ (¬ d < 0 ∧ (Int.gcd n d : Int) = G) := by
      by_cases hs : d < 0
      · exact .inl ⟨hs, by simp [hGe, gsign, hs]⟩
      · exact .inr ⟨hs, by simp [hGe, gsign, hs]⟩
    clear hm h0 hGe
    rcases hcase with ⟨hs, hG⟩ | ⟨hs, hG⟩
    all_goals
      have HG := Lib.hid hG
      clear hG
      go_enter Try.func118, Try.ntmps118
      go_wp2_with (go_at_call 87; refine (gcd_any _ _ (by omega) (by omega) (by omega) (by omega) _).mono ?_; rintro e w' ⟨rfl, hb⟩)
      have k1 := (Blk.new w _ _).call hb
      have hz0 := k1.lt
      rw [HG.out]
      go_region
      go_wp2_with fail
      refine (IsFraction_any _ _ _).mono ?_
      rintro e w2 ⟨rfl, hb2⟩
      obtain ⟨q0, q1, qf0, qf1⟩ := ((k1.alloc _).drew.call hb2).c2
      obtain ⟨r0, r1, rf0, rf1⟩ := ((Blk.new w' _ _).drew.call hb2).c2
      have hw1 : Below w.heap.size w w' := Below.call (by go_grown) (by go_size) hb
      have hw2 : Below w.heap.size w w2 := Below.call (by go_grown) (by go_size) hb2
      cases hf : fracOk (n.tdiv G) (d.tdiv G)
      · go_wp2
        refine bodyPost_ret (v := .tuple #[.agg #[.int .i64 0, .int .i64 0], .bool false]) (by simp [results, Try.results118, go_sem, q0, q1]) rfl ?_
        exact ⟨by rw [H.out, if_neg (by simp [hf])]; rfl, by go_grown⟩
      · go_wp2
        refine bodyPost_ret (v := .tuple #[.agg #[.int .i64 (n.tdiv G), .int .i64 (d.tdiv G)], .bool true]) (by simp [results, Try.results118, go_sem, q0, q1]) rfl ?_
        exact ⟨by rw [H.out, if_pos hf]; rfl, by go_grown⟩

/-- the two numbers of a closure -/
def Clo (f : FuncId) (caps : Array Value) (W : World) (n d : Int) : Prop :=
  ∀ w', Below W.heap.size W w' → Calls Try.prog f caps w' fun e w'' => e = .returned (.tuple #[.int .i64 n, .int .i64 d]) ∧ Below w'.heap.size w' w''

def two (a b a' b' n d : Int) : Option (Int × Int) := if fracOk a b = true ∧ fracOk a' b' = true then made n d else none

set_option maxHeartbeats 800000 in
set_option maxRecDepth 100000 in
theorem two_any (a b a' b' n d : Int) (f : FuncId) (caps : Array Value) (w : World) (hC : fracOk a b = true → fracOk a' b' = true → Clo f caps w n d)
    (hcf : ∀ W : World, (callFunc f caps).run Try.prog W = .ok (.enter f caps) W)
    (hnd : fracOk a b = true → fracOk a' b' = true → (-4611686018427387904 ≤ n ∧ n ≤ 4611686018427387904) ∧ (-4611686018427387904 ≤ d ∧ d ≤ 4611686018427387904)) :
    Calls Try.prog 99 #[.agg #[.int .i64 a, .int .i64 b], .agg #[.int .i64 a', .int .i64 b'], .func (.func f) #[] caps] w fun e w' => e = .returned (optF (two a b a' b' n d)) ∧ Below w.heap.size w w' := by
  have k0 := (((Blk.new w 29 #[.int .i64 a, .int .i64 b]).alloc (.cells #[.int .i64 a', .int .i64 b'] 29)).alloc (.cells #[.int .i64 0, .int .i64 0] 29))
  have k0' := ((Blk.new' (g := w.heap.size + 1) (w.alloc (.cells #[.int .i64 a, .int .i64 b] 29)) 29 #[.int .i64 a', .int .i64 b'] (by simp)).alloc (.cells #[.int .i64 0, .int .i64 0] 29))
  have k0'' := (Blk.new' (g := w.heap.size + 1 + 1) ((w.alloc (.cells #[.int .i64 a, .int .i64 b] 29)).alloc (.cells #[.int .i64 a', .int .i64 b'] 29)) 29 #[.int .i64 0, .int .i64 0] (by simp))
  cases h1 : fracOk a b
  · have H := Lib.hid (show two a b a' b' n d = none from by simp [two, h1])
    clear hC hnd
    go_enter Try.func99, Try.ntmps99
    go_wp2_with fail
    refine (IsFraction_any _ _ _).mono ?_
    rintro e w1 ⟨rfl, hb1⟩
    obtain ⟨q0, q1, qf0, qf1⟩ := (k0''.call hb1).c2
    have hw1 : Below w.heap.size w w1 := Below.call (by go_grown) (by go_size) hb1
    rw [h1]
    go_wp2
    refine bodyPost_ret (v := .tuple #[.agg #[.int .i64 0, .int .i64 0], .bool false]) (by simp [results, Try.results99, go_sem, q0, q1]) rfl ?_
    exact ⟨by rw [H.out]; rfl, by go_grown⟩
  · cases h2 : fracOk a' b'
    · have H := Lib.hid (show two a b a' b' n d = none from by simp [two, h2])
      clear hC hnd
      go_enter Try.func99, Try.ntmps99
      go_wp2_with fail
      refine (IsFraction_any _ _ _).mono ?_
      rintro e w1 ⟨rfl, hb1⟩
      obtain ⟨p0, p1, _, _⟩ := (k0'.call hb1).c2
      have hw1 : Below w.heap.size w w1 := Below.call (by go_grown) (by go_size) hb1
      rw [h1]
      go_wp2_with fail
      refine (IsFraction_any _ _ _).mono ?_
      rintro e w2 ⟨rfl, hb2⟩
      obtain ⟨q0, q1, qf0, qf1⟩ := ((k0''.call hb1).call hb2).c2
      have hw2 : Below w.heap.size w w2 := Below.call hw1 hw1.size hb2
      rw [h2]
      go_wp2
      refine bodyPost_ret (v := .tuple #[.agg #[.int .i64 0, .int .i64 0], .bool false]) (by simp [results, Try.results99, go_sem, q0, q1]) rfl ?_
      exact ⟨by rw [H.out]; rfl, by go_grown⟩
    · have H := Lib.hid (show two a b a' b' n d = made n d from by simp [two, h1, h2])
      have HC := Lib.hid (hC h1 h2)
      obtain ⟨hn, hd⟩ := hnd h1 h2
      clear hC hnd
      go_enter Try.func99, Try.ntmps99
      go_wp2_with fail
      refine (IsFraction_any _ _ _).mono ?_
      rintro e w1 ⟨rfl, hb1⟩
      obtain ⟨p0, p1, _, _⟩ := (k0'.call hb1).c2
      have hw1 : Below w.heap.size w w1 := Below.call (by go_grown) (by go_size) hb1
      rw [h1]
      go_wp2_with fail
      refine (IsFraction_any _ _ _).mono ?_
      rintro e w2 ⟨rfl, hb2⟩
      have k2 := (k0''.call hb1).call hb2
      have hw2 : Below w.heap.size w w2 := Below.call hw1 hw1.size hb2
      rw [h2]
      go_wp2_with fail
      refine (HC.out w2 hw2).mono ?_
      rintro e w3 ⟨rfl, hb3⟩
      have k3 := k2.call hb3
      have hw3 : Below w.heap.size w w3 := Below.call hw2 hw2.size hb3
      go_wp2_with fail
      refine (made_any n d hn hd _).mono ?_
      rintro e w4 ⟨rfl, hb4⟩
      obtain ⟨q0, q1, qf0, qf1⟩ := (k3.call hb4).c2
      have hw4 : Below w.heap.size w w4 := Below.call hw3 hw3.size hb4
      rcases hm : made n d with _ | ⟨p, q⟩
      · have HM := Lib.hid hm
        clear hm
        simp only [optF]
        go_wp2
        refine bodyPost_ret (v := .tuple #[.agg #[.int .i64 0, .int .i64 0], .bool false]) (by simp [results, Try.results99, go_sem, q0, q1]) rfl ?_
        exact ⟨by rw [H.out, HM.out]; rfl, by go_grown⟩
      · have HM := Lib.hid hm
        clear hm
        simp only [optF]
        go_wp2
        refine bodyPost_ret (v := .tuple #[.agg #[.int .i64 p, .int .i64 q], .bool true]) (by simp [results, Try.results99, go_sem, q0, q1]) rfl ?_
        exact ⟨by rw [H.out, HM.out]; rfl, by go_grown⟩

end Go.Proofs.Ytphabopnbcgodaa
