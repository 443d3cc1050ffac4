/-
  Walks: the negative of a surreal number; a number times a fraction.
-/
import Derived.Test.YtphabopnbcgodaaWTold
import Derived.Test.YtphabopnbcgodaaWSumFn
namespace Go.Proofs.Ytphabopnbcgodaa
open Go.RowKit
set_option linter.unusedSimpArgs false
set_option linter.unusedVariables false

def negI (n : Int) : Int := IntKind.i64.wrap (-n)
theorem negI_in {n : Int} (h : -9223372036854775808 < n ∧ n ≤ 9223372036854775807) : negI n = -n := IntWalk.i64_in _ (by omega)
theorem negI_I64 (n : Int) : I64 (negI n) := by unfold negI I64; rw [IntKind.wrap_i64]; omega
/-- the negative -/
def negP : Sur → Sur
  | .nil => .nil
  | .cons e n d r => .cons e (negI n) d (negP r)
theorem negP_len : ∀ (x : Sur), (negP x).len = x.len
  | .nil => rfl
  | .cons e n d r => by simp only [negP, Sur.len, negP_len r]
theorem negP_app : ∀ (x y : Sur), negP (x.app y) = (negP x).app (negP y)
  | .nil, _ => rfl
  | .cons e n d r, y => by simp only [Sur.app, negP, negP_app r y]

set_option maxHeartbeats 1600000 in
set_option maxRecDepth 100000 in
theorem negative_any (x : Sur) (X : Nat → Prop) (A : Option Addr) (c : Nat) (w : World) (hX : ∀ k, X k → k < w.heap.size) (sx : SSl X w x A c) (hl : x.len ≤ 1099511627776) :
    Calls Try.prog 66 #[.agg #[.slice A x.len c]] w (RetS X w (negP x)) := by
  obtain ⟨i0, hi0, iz0, iz1, iz2⟩ := info_parts infoST
  have lx := sx.cap
  have lx' := sx.le
  unfold maxLen at lx
  have k0 := (((Blk.new w 26 #[.slice A x.len c]).alloc (.cells #[.slice none 0 0] 26)).alloc (.cells #[.slice none 0 0] 26))
  have k1 := ((Blk.new' (g := w.heap.size + 1) (w.alloc (.cells #[.slice A x.len c] 26)) 26 #[.slice none 0 0] (by simp)).alloc (.cells #[.slice none 0 0] 26))
  have k2 := (Blk.new' (g := w.heap.size + 1 + 1) ((w.alloc (.cells #[.slice A x.len c] 26)).alloc (.cells #[.slice none 0 0] 26)) 26 #[.slice none 0 0] (by simp))
  have hB0 : Below w.heap.size w (((w.alloc (.cells #[.slice A x.len c] 26)).alloc (.cells #[.slice none 0 0] 26)).alloc (.cells #[.slice none 0 0] 26)) := by go_grown
  have tx := sx.low
  clear sx
  go_enter Try.func66, Try.ntmps66
  go_wp2
  go_loopw [10] (fun s wr => ∃ (i : Nat) (v : Value) (xs : List Value), s = .int .i64 i ∧ i ≤ x.len ∧
      Blk wr (w.heap.size + 1) 26 #[.slice none 0 0] ∧ Blk wr (w.heap.size + 1 + 1) 26 #[v] ∧
      wr.ownsRow (w.heap.size + 3) 58 3 v (negP (x.take i)).len xs ∧ TRow (Low X w.heap.size) wr (negP (x.take i)) xs ∧ Below w.heap.size w wr) (fun s _ => x.len - (intOf s).toNat)
  case atStart => exact ⟨0, .slice none 0 0, [], rfl, Nat.zero_le _, k1, k2, World.ownsRow_nil _ _ _ _, rfl, hB0⟩
  case round =>
    obtain ⟨i, v, xs, rfl, hi, m1, m2, hown, hrow, hB⟩ := hrel
    clear k0 k1 k2 hB0
    obtain ⟨p1, pf1⟩ := m1.c1
    obtain ⟨p2, pf2⟩ := m2.c1
    have z2 := m2.lt
    have z1 := m1.lt
    have ag := own_ne hown (k := w.heap.size + 1 + 1) (.inl (by omega))
    have hi0' : (0 : Int) ≤ (i : Int) := by omega
    have hln : (negP (x.take i)).len ≤ i := by rw [negP_len, Sur.len_take x i hi]; omega
    by_cases h1 : i < x.len
    · obtain ⟨b, o, e, n, d, A1, d1, rfl, hxk, f0, f1, f2, se, in_, id_, hXb, hbl⟩ := (tx.lowTo (Below.refl _ _) hB).at_ h1
      have hT : negP (x.take (i + 1)) = (negP (x.take i)).app (.cons e (negI n) d .nil) := by rw [x.take_succ i e n d _ hxk, negP_app]; rfl
      have HT := Lib.hid hT
      clear hT hxk
      have hnn : IntKind.i64.wrap (-n) = negI n := rfl
      go_wp2_with (at_builtin; go_must (refine wpList_append_lies _ rfl _ _ _ rfl (w.heap.size + 3) 58 i0 _ 3 40 Try.underlying24 hi0 iz0 iz1 iz2 rfl (by omega) v (negP (x.take i)).len xs (by rfl) ((hown.alloc _).alloc _) ⟨wr.heap.size + 1, 0, none⟩ 1 1 [.slice A1 e.len d1, .int .i64 (negI n), .int .i64 d] (by rfl) (by rfl) (World.news_of_block (cs := #[.slice A1 e.len d1, .int .i64 (negI n), .int .i64 d]) (t := 58) (fr := (0, 0)) (Blk.new' (g := wr.heap.size + 1) (wr.alloc (.cells #[.slice A1 e.len d1, .int .i64 n, .int .i64 d] 58)) 58 #[.slice A1 e.len d1, .int .i64 (negI n), .int .i64 d] (by simp))) (by simp [Value.oneCell']) (by omega) (by unfold maxLen; omega) (by omega) (by go_size) (wr.heap.size + 1 + 1) (by simp) ?_); intro gg cap w2 hown1 hgrow hat hlt; obtain ⟨u3, uf3⟩ := (Blk.app m2 (by go_grown) hgrow (Ne.symm ag)).c1)
      obtain ⟨t1, t2, t3, t4, t5⟩ := low_step (ob := w.heap.size + 1 + 1) hB hown hrow se (negI_I64 n) id_ (by go_grown) hown1 hgrow (by omega) hB.size (by omega) (by omega)
      rw [← HT.out] at t2 t3
      exact ⟨⟨i + 1, _, _, by go_num, by omega, t4 _ _ _ (by omega) (by omega) m1, t5 _ _ m2, t2, t3, t1⟩, by simp [intOf]; omega⟩
    · obtain rfl : i = x.len := by omega
      rw [x.take_len] at hown hrow
      obtain ⟨Av, cv, rfl⟩ := own_slice hown
      have hB3 := hB.setCell (p := ⟨w.heap.size + 1, 0, none⟩) (by simp) (.slice Av (negP x).len cv)
      have hsl := (SSl.of_own (own_setCell hown (p := ⟨w.heap.size + 1, 0, none⟩) (own_ne hown (.inl (by simp))) (.slice Av (negP x).len cv)) (hrow.lowTo hB hB3).unlow (fun k hk hXk => by have := hown.lt k hk; have := hX k hXk; omega)).2
      go_wp2
      refine bodyPost_ret (v := .agg #[.slice Av (negP x).len cv]) (by simp [results, Try.results66, go_sem, p1]) rfl ?_
      exact ⟨Av, cv, rfl, hsl, hB3⟩
end Go.Proofs.Ytphabopnbcgodaa
