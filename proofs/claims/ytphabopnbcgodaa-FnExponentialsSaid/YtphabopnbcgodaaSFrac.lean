/-
  Walks, the reference's side: fractions.
-/
import Derived.Test.YtphabopnbcgodaaWFrac3
import Derived.Test.YtphabopnbcgodaaWSumFn
namespace Go.Proofs.Ytphabopnbcgodaa
open Go.RowKit
set_option linter.unusedSimpArgs false
set_option linter.unusedVariables false

set_option maxHeartbeats 400000 in
theorem l1In_any (a lo hi : Int) (w : World) :
    Calls Try.prog 93 #[.int .i64 a, .int .i64 lo, .int .i64 hi] w fun e w' => e = .returned (.bool (inB a lo hi)) ∧ w = w' := by
  by_cases h1 : lo ≤ a
  · by_cases h2 : a ≤ hi
    · have h : inB a lo hi = true := inB_true.2 ⟨h1, h2⟩
      have H := Lib.hid h; clear h
      go_enter Try.func93, Try.ntmps93
      go_wp2
      go_ret
      exact ⟨by rw [H.out]; rfl, rfl⟩
    · have h : inB a lo hi = false := inB_false.2 (by omega)
      have H := Lib.hid h; clear h
      go_enter Try.func93, Try.ntmps93
      go_wp2
      go_ret
      exact ⟨by rw [H.out]; rfl, rfl⟩
  · have h : inB a lo hi = false := inB_false.2 (by omega)
    have H := Lib.hid h; clear h
    go_enter Try.func93, Try.ntmps93
    go_wp2
    go_ret
    exact ⟨by rw [H.out]; rfl, rfl⟩

def mostI (a b : Int) : Int := if b < a then a else b
set_option maxHeartbeats 400000 in
theorem l1Most_any (a b : Int) (w : World) :
    Calls Try.prog 128 #[.int .i64 a, .int .i64 b] w fun e w' => e = .returned (.int .i64 (mostI a b)) ∧ w = w' := by
  by_cases h : b < a
  · have hn : mostI a b = a := if_pos h
    have H := Lib.hid hn; clear hn
    go_enter Try.func128, Try.ntmps128
    go_wp2
    go_ret
    exact ⟨by rw [H.out]; rfl, rfl⟩
  · have hn : mostI a b = b := if_neg h
    have H := Lib.hid hn; clear hn
    go_enter Try.func128, Try.ntmps128
    go_wp2
    go_ret
    exact ⟨by rw [H.out]; rfl, rfl⟩

set_option maxHeartbeats 400000 in
theorem l1Abs_any (a : Int) (h1 : -9223372036854775808 < a) (h2 : a ≤ 9223372036854775807) (w : World) :
    Calls Try.prog 126 #[.int .i64 a] w fun e w' => e = .returned (.int .i64 (a.natAbs : Int)) ∧ w = w' := by
  have hn : mostI a (-a) = (a.natAbs : Int) := by unfold mostI; split <;> omega
  have H := Lib.hid hn; clear hn
  go_enter Try.func126, Try.ntmps126
  go_wp2_with (go_at_call 128; refine (l1Most_any _ _ _).mono ?_; rintro e w' ⟨rfl, rfl⟩)
  go_ret
  exact ⟨by rw [H.out]; rfl, rfl⟩

set_option maxHeartbeats 400000 in
theorem shGcd_any (a b : Int) (ha : -9223372036854775808 < a) (ha' : a ≤ 9223372036854775807) (hb : -9223372036854775808 < b) (hb' : b ≤ 9223372036854775807) (w : World) :
    Calls Try.prog 115 #[.int .i64 a, .int .i64 b] w fun e w' => e = .returned (.int .i64 (Int.gcd a b : Int)) ∧ Below w.heap.size w w' := by
  go_enter Try.func115, Try.ntmps115
  go_wp2
  go_loopw [0, 1] (fun s0 s1 wr => ∃ x y : Int, s0 = .int .i64 x ∧ s1 = .int .i64 y ∧ Hid (Int.gcd x y = Int.gcd a b) ∧ -9223372036854775808 < x ∧ x ≤ 9223372036854775807 ∧ -9223372036854775808 < y ∧ y ≤ 9223372036854775807 ∧ Below w.heap.size w wr) (fun _ s1 _ => (intOf s1).natAbs)
  case atStart => exact ⟨a, b, rfl, rfl, rfl, by omega, by omega, by omega, by omega, Below.refl _ _⟩
  case round =>
    obtain ⟨x, y, rfl, rfl, hg, hx1, hx2, hy1, hy2, hb⟩ := hrel
    by_cases h0 : y = 0
    · subst h0
      have hg' : Hid ((x.natAbs : Int) = (Int.gcd a b : Int)) := by have := hg.out; simp only [Int.gcd_zero_right] at this; exact congrArg Int.ofNat this
      clear hg
      go_wp2_with (go_at_call 126; refine (l1Abs_any _ (by omega) (by omega) _).mono ?_; rintro e w' ⟨rfl, rfl⟩)
      go_ret
      exact ⟨by rw [← hg'.out]; rfl, hb⟩
    · have ht := tmod_lt x y h0
      have h00 : (y == 0) = false := by simpa using h0
      have hs : Hid (Int.gcd y (x.tmod y) = Int.gcd a b) := (gcd_step x y).trans hg.out
      clear hg
      have hw : IntKind.i64.wrap (x.tmod y) = x.tmod y := IntWalk.i64_in _ (by omega)
      go_wp2
      go_quiet (fail)
      go_wp2
      exact ⟨⟨y, _, rfl, rfl, hs, by omega, by omega, by omega, by omega, Below.drewN hb nq⟩, by simpa [intOf] using ht⟩

set_option maxHeartbeats 400000 in
theorem shGood_any (n d : Int) (w : World) :
    Calls Try.prog 111 #[.agg #[.int .i64 n, .int .i64 d]] w fun e w' => e = .returned (.bool (fracOk n d)) ∧ Below w.heap.size w w' := by
  cases h1 : inB d 1 1000000
  · have h : fracOk n d = false := by simp [fracOk, h1]
    have H := Lib.hid h; clear h
    go_enter Try.func111, Try.ntmps111
    go_wp2_with (go_at_call 93; refine (l1In_any _ _ _ _).mono ?_; rintro e w' ⟨rfl, rfl⟩)
    go_ret
    exact ⟨by rw [H.out]; rfl, (Below.refl _ _).alloc (Nat.le_refl _) _⟩
  · cases h2 : inB n (-1000000) 1000000
    · have h : fracOk n d = false := by simp [fracOk, h1, h2]
      have H := Lib.hid h; clear h
      go_enter Try.func111, Try.ntmps111
      go_wp2_with (go_at_call 93; refine (l1In_any _ _ _ _).mono ?_; rintro e w' ⟨rfl, rfl⟩)
      go_ret
      exact ⟨by rw [H.out]; rfl, (Below.refl _ _).alloc (Nat.le_refl _) _⟩
    · have b1 := inB_true.1 h1
      have b2 := inB_true.1 h2
      have h : fracOk n d = ((Int.gcd n d : Int) == 1) := by simp [fracOk, h1, h2]; rfl
      have H := Lib.hid h; clear h
      go_enter Try.func111, Try.ntmps111
      go_wp2_with (first | (go_at_call 93; refine (l1In_any _ _ _ _).mono ?_; rintro e w' ⟨rfl, rfl⟩) | (go_at_call 115; refine (shGcd_any _ _ (by omega) (by omega) (by omega) (by omega) _).mono ?_; rintro e w' ⟨rfl, hb⟩))
      go_ret
      exact ⟨by rw [H.out]; rfl, Below.call ((Below.refl _ _).alloc (Nat.le_refl _) _) (by simp) hb⟩

set_option maxHeartbeats 400000 in
theorem l1Sign_any (a : Int) (w : World) :
    Calls Try.prog 112 #[.int .i64 a] w fun e w' => e = .returned (.int .i64 (cmpI a 0)) ∧ w = w' := by
  by_cases h1 : a < 0
  · have h : cmpI a 0 = -1 := by simp [cmpI, h1]
    have H := Lib.hid h; clear h
    go_enter Try.func112, Try.ntmps112
    go_wp2
    go_ret
    exact ⟨by rw [H.out]; rfl, rfl⟩
  · by_cases h2 : 0 < a
    · have h : cmpI a 0 = 1 := by simp [cmpI, h1, h2]
      have H := Lib.hid h; clear h
      go_enter Try.func112, Try.ntmps112
      go_wp2
      go_ret
      exact ⟨by rw [H.out]; rfl, rfl⟩
    · have h : cmpI a 0 = 0 := by simp [cmpI, h1, h2]
      have H := Lib.hid h; clear h
      go_enter Try.func112, Try.ntmps112
      go_wp2
      go_ret
      exact ⟨by rw [H.out]; rfl, rfl⟩

theorem cmpF_sub (a b : Int) : cmpI (a - b) 0 = cmpI a b := by unfold cmpI; split <;> split <;> (try split) <;> (try split) <;> omega

set_option maxHeartbeats 400000 in
theorem shCmp_any (n d n' d' : Int) (h : FOk n d) (h' : FOk n' d') (w : World) :
    Calls Try.prog 125 #[.agg #[.int .i64 n, .int .i64 d], .agg #[.int .i64 n', .int .i64 d']] w fun e w' => e = .returned (.int .i64 (cmpF n d n' d')) ∧ Below w.heap.size w w' := by
  have h := fracOk_iff.1 h
  have h' := fracOk_iff.1 h'
  have m1 := mul_bd6 (a := n) (b := d') (by omega) (by omega)
  have m2 := mul_bd6 (a := n') (b := d) (by omega) (by omega)
  have hw1 : IntKind.i64.wrap (n * d') = n * d' := IntWalk.i64_in _ (by omega)
  have hw2 : IntKind.i64.wrap (n' * d) = n' * d := IntWalk.i64_in _ (by omega)
  have hw3 : IntKind.i64.wrap (n * d' - n' * d) = n * d' - n' * d := IntWalk.i64_in _ (by omega)
  have H := Lib.hid (show cmpI (n * d' - n' * d) 0 = cmpF n d n' d' from cmpF_sub _ _)
  go_enter Try.func125, Try.ntmps125
  go_wp2_with (go_at_call 112; refine (l1Sign_any _ _).mono ?_; rintro e w' ⟨rfl, rfl⟩)
  go_ret
  exact ⟨by rw [H.out]; rfl, by go_grown⟩

set_option maxHeartbeats 400000 in
theorem shInt_any (n : Int) (w : World) :
    Calls Try.prog 74 #[.int .i64 n] w fun e w' => e = .returned (.agg #[.int .i64 n, .int .i64 1]) ∧ Below w.heap.size w w' := by
  go_enter Try.func74, Try.ntmps74
  go_wp2
  refine bodyPost_ret (v := .agg #[.int .i64 n, .int .i64 1]) (by simp [results, Try.results74, go_sem]) rfl ?_
  exact ⟨rfl, by go_grown⟩

set_option maxHeartbeats 800000 in
theorem shMake_any (n d : Int) (hn : -4611686018427387904 ≤ n ∧ n ≤ 4611686018427387904) (hd : -4611686018427387904 ≤ d ∧ d ≤ 4611686018427387904) (h0 : d ≠ 0) (w : World) :
    Calls Try.prog 89 #[.int .i64 n, .int .i64 d] w fun e w' => e = .returned (.agg #[.int .i64 (mkN n d), .int .i64 (mkD n d)]) ∧ Below w.heap.size w w' := by
  obtain ⟨G, hGe⟩ : ∃ G, G = gsign n d := ⟨_, rfl⟩
  have g0 : G ≠ 0 := by rw [hGe]; exact gsign_ne (n := n) h0
  have a1 := natAbs_tdiv_le n G
  have a2 := natAbs_tdiv_le d G
  have hgle : (Int.gcd n d : Int) ≤ 4611686018427387904 := by
    have h1 := Int.gcd_le_natAbs_right n h0
    omega
  have hg0 : (0 : Int) < (Int.gcd n d : Int) := by have := Int.gcd_pos_of_ne_zero_right n h0; omega
  have w1 : IntKind.i64.wrap (n.tdiv G) = n.tdiv G := IntWalk.i64_in _ (by omega)
  have w2 : IntKind.i64.wrap (d.tdiv G) = d.tdiv G := IntWalk.i64_in _ (by omega)
  have H := Lib.hid (show mkN n d = n.tdiv G ∧ mkD n d = d.tdiv G by simp only [mkN, mkD, ← hGe, and_self])
  have g1 : (G == 0) = false := beq_eq_false_iff_ne.2 g0
  have hcase : (d < 0 ∧ -(Int.gcd n d : Int) = G) ∨ (¬ d < 0 ∧ (Int.gcd n d : Int) = G) := by
    by_cases hs : d < 0
    · exact .inl ⟨hs, by simp [hGe, gsign, hs]⟩
    · exact .inr ⟨hs, by simp [hGe, gsign, hs]⟩
  clear h0 hGe
  rcases hcase with ⟨hs, hG⟩ | ⟨hs, hG⟩
  all_goals
    have HG := Lib.hid hG
    clear hG
    go_enter Try.func89, Try.ntmps89
    go_wp2_with (go_at_call 115; refine (shGcd_any _ _ (by omega) (by omega) (by omega) (by omega) _).mono ?_; rintro e w' ⟨rfl, hb⟩)
    have k1 := (Blk.new w _ _).call hb
    have hz0 := k1.lt
    obtain ⟨c0, c1, cf0, cf1⟩ := k1.c2
    have hw1 : Below w.heap.size w w' := Below.call (by go_grown) (by go_size) hb
    rw [HG.out]
    go_region
    all_goals
      go_wp2
      refine bodyPost_ret (v := .agg #[.int .i64 (n.tdiv G), .int .i64 (d.tdiv G)]) (by simp [results, Try.results89, go_sem, c0, c1]) rfl ?_
      exact ⟨by rw [H.out.1, H.out.2], by go_grown⟩

/-- what a sum and a product of fractions are in lowest terms -/
def adN (n d n' d' : Int) : Int := mkN (n * d' + n' * d) (d * d')
def adD (n d n' d' : Int) : Int := mkD (n * d' + n' * d) (d * d')
def muN (n d n' d' : Int) : Int := mkN (n * n') (d * d')
def muD (n d n' d' : Int) : Int := mkD (n * n') (d * d')

theorem mul_ne0 {d d' : Int} (h : 1 ≤ d) (h' : 1 ≤ d') : d * d' ≠ 0 := by
  have : 0 < d * d' := Int.mul_pos (by omega) (by omega)
  omega

set_option maxHeartbeats 400000 in
theorem shAdd_any (n d n' d' : Int) (h : FOk n d) (h' : FOk n' d') (w : World) :
    Calls Try.prog 110 #[.agg #[.int .i64 n, .int .i64 d], .agg #[.int .i64 n', .int .i64 d']] w fun e w' => e = .returned (.agg #[.int .i64 (adN n d n' d'), .int .i64 (adD n d n' d')]) ∧ Below w.heap.size w w' := by
  have h := fracOk_iff.1 h
  have h' := fracOk_iff.1 h'
  have hne := mul_ne0 h.1 h'.1
  have bnd1 := mul_bd6 (a := n) (b := d') (by omega) (by omega)
  have wnd1 : IntKind.i64.wrap (n * d') = n * d' := IntWalk.i64_in _ (by omega)
  have bn1d := mul_bd6 (a := n') (b := d) (by omega) (by omega)
  have wn1d : IntKind.i64.wrap (n' * d) = n' * d := IntWalk.i64_in _ (by omega)
  have bdd1 := mul_bd6 (a := d) (b := d') (by omega) (by omega)
  have wdd1 : IntKind.i64.wrap (d * d') = d * d' := IntWalk.i64_in _ (by omega)
  have s1 : IntKind.i64.wrap (n * d' + n' * d) = n * d' + n' * d := IntWalk.i64_in _ (by omega)
  have HNE := Lib.hid hne
  clear hne
  have k0 := (((Blk.new w 29 #[.int .i64 n, .int .i64 d]).alloc (.cells #[.int .i64 n', .int .i64 d'] 29)).alloc (.cells #[.int .i64 0, .int .i64 0] 29))
  have k1 := ((Blk.new' (g := w.heap.size + 1) (w.alloc (.cells #[.int .i64 n, .int .i64 d] 29)) 29 #[.int .i64 n', .int .i64 d'] (by simp)).alloc (.cells #[.int .i64 0, .int .i64 0] 29))
  have k2 := (Blk.new' (g := w.heap.size + 1 + 1) ((w.alloc (.cells #[.int .i64 n, .int .i64 d] 29)).alloc (.cells #[.int .i64 n', .int .i64 d'] 29)) 29 #[.int .i64 0, .int .i64 0] (by simp))
  have hB0 : Below w.heap.size w (((w.alloc (.cells #[.int .i64 n, .int .i64 d] 29)).alloc (.cells #[.int .i64 n', .int .i64 d'] 29)).alloc (.cells #[.int .i64 0, .int .i64 0] 29)) := by go_grown
  go_enter Try.func110, Try.ntmps110
  go_wp2_with fail
  refine (shMake_any _ _ (by omega) (by omega) HNE.out _).mono ?_
  rintro e1 w1 ⟨rfl, hb1⟩
  have hB1 := Below.call hB0 (by go_size) hb1
  obtain ⟨q0, q1, _, _⟩ := (k2.call hb1).c2
  go_wp2
  refine bodyPost_ret (v := .agg #[.int .i64 (adN n d n' d'), .int .i64 (adD n d n' d')]) (by simp [results, Try.results110, go_sem, q0, q1, adN, adD]) rfl ?_
  exact ⟨rfl, by go_grown⟩

set_option maxHeartbeats 400000 in
theorem shMul_any (n d n' d' : Int) (h : FOk n d) (h' : FOk n' d') (w : World) :
    Calls Try.prog 127 #[.agg #[.int .i64 n, .int .i64 d], .agg #[.int .i64 n', .int .i64 d']] w fun e w' => e = .returned (.agg #[.int .i64 (muN n d n' d'), .int .i64 (muD n d n' d')]) ∧ Below w.heap.size w w' := by
  have h := fracOk_iff.1 h
  have h' := fracOk_iff.1 h'
  have hne := mul_ne0 h.1 h'.1
  have bnd1 := mul_bd6 (a := n) (b := n') (by omega) (by omega)
  have wnd1 : IntKind.i64.wrap (n * n') = n * n' := IntWalk.i64_in _ (by omega)
  have bdd1 := mul_bd6 (a := d) (b := d') (by omega) (by omega)
  have wdd1 : IntKind.i64.wrap (d * d') = d * d' := IntWalk.i64_in _ (by omega)
  have HNE := Lib.hid hne
  clear hne
  have k0 := (((Blk.new w 29 #[.int .i64 n, .int .i64 d]).alloc (.cells #[.int .i64 n', .int .i64 d'] 29)).alloc (.cells #[.int .i64 0, .int .i64 0] 29))
  have k1 := ((Blk.new' (g := w.heap.size + 1) (w.alloc (.cells #[.int .i64 n, .int .i64 d] 29)) 29 #[.int .i64 n', .int .i64 d'] (by simp)).alloc (.cells #[.int .i64 0, .int .i64 0] 29))
  have k2 := (Blk.new' (g := w.heap.size + 1 + 1) ((w.alloc (.cells #[.int .i64 n, .int .i64 d] 29)).alloc (.cells #[.int .i64 n', .int .i64 d'] 29)) 29 #[.int .i64 0, .int .i64 0] (by simp))
  have hB0 : Below w.heap.size w (((w.alloc (.cells #[.int .i64 n, .int .i64 d] 29)).alloc (.cells #[.int .i64 n', .int .i64 d'] 29)).alloc (.cells #[.int .i64 0, .int .i64 0] 29)) := by go_grown
  go_enter Try.func127, Try.ntmps127
  go_wp2_with fail
  refine (shMake_any _ _ (by omega) (by omega) HNE.out _).mono ?_
  rintro e1 w1 ⟨rfl, hb1⟩
  have hB1 := Below.call hB0 (by go_size) hb1
  obtain ⟨q0, q1, _, _⟩ := (k2.call hb1).c2
  go_wp2
  refine bodyPost_ret (v := .agg #[.int .i64 (muN n d n' d'), .int .i64 (muD n d n' d')]) (by simp [results, Try.results127, go_sem, q0, q1, muN, muD]) rfl ?_
  exact ⟨rfl, by go_grown⟩

/-- the sum and the product as the program makes them -/
theorem fAdd_sh {n d n' d' : Int} (h : FOk n d) (h' : FOk n' d') : fAdd n d n' d' = if fracOk (adN n d n' d') (adD n d n' d') = true then some (adN n d n' d', adD n d n' d') else none := by
  have a := (fracOk_iff.1 h).1
  have b := (fracOk_iff.1 h').1
  unfold fAdd two made
  rw [if_pos ⟨h, h'⟩, if_neg (mul_ne0 a b)]; rfl
theorem fMul_sh {n d n' d' : Int} (h : FOk n d) (h' : FOk n' d') : fMultiply n d n' d' = if fracOk (muN n d n' d') (muD n d n' d') = true then some (muN n d n' d', muD n d n' d') else none := by
  have a := (fracOk_iff.1 h).1
  have b := (fracOk_iff.1 h').1
  unfold fMultiply two made
  rw [if_pos ⟨h, h'⟩, if_neg (mul_ne0 a b)]; rfl
end Go.Proofs.Ytphabopnbcgodaa
