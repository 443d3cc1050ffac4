/-
  Walks: small functions on surreal numbers.
-/
import Derived.Test.YtphabopnbcgodaaWRets
import Derived.Test.YtphabopnbcgodaaWAt
namespace Go.Proofs.Ytphabopnbcgodaa
open Go.RowKit
set_option linter.unusedSimpArgs false
set_option linter.unusedVariables false

set_option maxHeartbeats 800000 in
theorem surreals_any (x y : Sur) (X Y : Nat → Prop) (A A' : Option Addr) (c c' : Nat) (w : World) (sx : SSl X w x A c) (sy : SSl Y w y A' c') :
    Calls Try.prog 45 #[.agg #[.slice A x.len c], .agg #[.slice A' y.len c']] w fun e w' => e = .returned (.bool (sGood x && sGood y)) ∧ Below w.heap.size w w' := by
  have k0 := ((Blk.new w 26 #[.slice A x.len c]).alloc (.cells #[.slice A' y.len c'] 26))
  have k1 := (Blk.new' (g := w.heap.size + 1) (w.alloc (.cells #[.slice A x.len c] 26)) 26 #[.slice A' y.len c'] (by simp))
  have hB0 : Below w.heap.size w ((w.alloc (.cells #[.slice A x.len c] 26)).alloc (.cells #[.slice A' y.len c'] 26)) := by go_grown
  cases hx : sGood x
  · go_enter Try.func45, Try.ntmps45
    go_wp2_with fail
    refine (IsSurreal_any x _ _ _ _ (sx.below hB0)).mono ?_
    rintro e1 w1 ⟨rfl, hb1⟩
    rw [hx]
    go_wp2
    go_ret
    exact ⟨rfl, Below.call hB0 (by go_size) hb1⟩
  · go_enter Try.func45, Try.ntmps45
    go_wp2_with fail
    refine (IsSurreal_any x _ _ _ _ (sx.below hB0)).mono ?_
    rintro e1 w1 ⟨rfl, hb1⟩
    have hB1 := Below.call hB0 (by go_size) hb1
    obtain ⟨q1, _⟩ := (k1.call hb1).c1
    rw [hx]
    go_wp2_with fail
    refine (IsSurreal_any y _ _ _ _ (sy.below hB1)).mono ?_
    rintro e2 w2 ⟨rfl, hb2⟩
    go_wp2
    go_ret
    exact ⟨rfl, hB1.trans (hb2.mono hB1.size)⟩

def told (x : Sur) (ok : Bool) : Option Sur := if (ok && sGood x) = true then some x else none

set_option maxHeartbeats 800000 in
theorem toldSurreal_any (x : Sur) (ok : Bool) (X : Nat → Prop) (A : Option Addr) (c : Nat) (w : World) (sx : SSl X w x A c) :
    Calls Try.prog 38 #[.agg #[.slice A x.len c], .bool ok] w (RetFreshB w (told x ok)) := by
  have k0 := ((Blk.new w 26 #[.slice A x.len c]).alloc (.cells #[.slice none 0 0] 26))
  have k1 := (Blk.new' (g := w.heap.size + 1) (w.alloc (.cells #[.slice A x.len c] 26)) 26 #[.slice none 0 0] (by simp))
  have hB0 : Below w.heap.size w ((w.alloc (.cells #[.slice A x.len c] 26)).alloc (.cells #[.slice none 0 0] 26)) := by go_grown
  cases ok
  · have H := Lib.hid (show told x false = none from rfl)
    go_enter Try.func38, Try.ntmps38
    go_wp2
    refine bodyPost_ret (v := .tuple #[.agg #[.slice none 0 0], .bool false]) (by simp [results, Try.results38, go_sem]) rfl ?_
    rw [H.out]
    exact ⟨none, 0, rfl, SFresh.nil _ _, by go_grown⟩
  · cases hx : sGood x
    · have H := Lib.hid (show told x true = none by simp [told, hx])
      go_enter Try.func38, Try.ntmps38
      go_wp2_with fail
      refine (IsSurreal_any x _ _ _ _ (sx.below hB0)).mono ?_
      rintro e1 w1 ⟨rfl, hb1⟩
      have hB1 := Below.call hB0 (by go_size) hb1
      obtain ⟨q1, qf1⟩ := (k1.call hb1).c1
      rw [hx]
      go_wp2
      refine bodyPost_ret (v := .tuple #[.agg #[.slice none 0 0], .bool false]) (by simp [results, Try.results38, go_sem, q1]) rfl ?_
      rw [H.out]
      exact ⟨none, 0, rfl, SFresh.nil _ _, hB1.setCell (by simp) _⟩
    · have H := Lib.hid (show told x true = some x by simp [told, hx])
      have hnn := sOk_nodes hx
      go_enter Try.func38, Try.ntmps38
      go_wp2_with fail
      refine (IsSurreal_any x _ _ _ _ (sx.below hB0)).mono ?_
      rintro e1 w1 ⟨rfl, hb1⟩
      have hB1 := Below.call hB0 (by go_size) hb1
      have k01 := k0.call hb1
      have k11 := k1.call hb1
      obtain ⟨p1, _⟩ := k01.c1
      rw [hx]
      go_wp2_with fail
      refine (clone_any 60 (by omega) x _ _ _ _ (by omega) (sx.below hB1)).mono ?_
      rintro e2 w2 ⟨A2, c2, rfl, hf, hb2⟩
      obtain ⟨q2, qf2⟩ := (k11.call hb2).c1
      go_wp2
      refine bodyPost_ret (v := .tuple #[.agg #[.slice A2 x.len c2], .bool true]) (by simp [results, Try.results38, go_sem, q2]) rfl ?_
      rw [H.out]
      have hz := k11.lt
      exact ⟨A2, c2, rfl, (hf.setCell (p := ⟨w.heap.size + 1, 0, none⟩) hz _).mono hB1.size, (hB1.trans (hb2.mono hB1.size)).setCell (by simp) _⟩

set_option maxHeartbeats 400000 in
theorem isNothing_any (x : Sur) (A : Option Addr) (c : Nat) (w : World) :
    Calls Try.prog 90 #[.agg #[.slice A x.len c]] w fun e w' => e = .returned (.bool ((x.len : Int) == 0)) ∧ Below w.heap.size w w' := by
  go_enter Try.func90, Try.ntmps90
  go_wp2
  go_ret
  exact ⟨by simp, by go_grown⟩

set_option maxHeartbeats 400000 in
theorem whole_any (n : Int) (w : World) :
    Calls Try.prog 41 #[.int .i64 n] w fun e w' => e = .returned (.agg #[.int .i64 n, .int .i64 1]) ∧ Below w.heap.size w w' := by
  go_enter Try.func41, Try.ntmps41
  go_wp2
  refine bodyPost_ret (v := .agg #[.int .i64 n, .int .i64 1]) (by simp [results, Try.results41, go_sem]) rfl ?_
  exact ⟨rfl, by go_grown⟩

def termP (x : Sur) (n d : Int) : Sur := if n = 0 then .nil else .cons x n d .nil

set_option maxHeartbeats 800000 in
theorem term_any (x : Sur) (n d : Int) (X : Nat → Prop) (A : Option Addr) (c : Nat) (w : World) (hX : ∀ k, X k → k < w.heap.size) (sx : SSl X w x A c) (in_ : I64 n) (id_ : I64 d) :
    Calls Try.prog 65 #[.agg #[.slice A x.len c], .agg #[.int .i64 n, .int .i64 d]] w (RetS X w (termP x n d)) := by
  by_cases hn : n = 0
  · have H := Lib.hid (show termP x n d = .nil by simp [termP, hn])
    have e0 : (n == 0) = true := by simpa using hn
    clear hn
    go_enter Try.func65, Try.ntmps65
    go_wp2
    refine bodyPost_ret (v := .agg #[.slice none 0 0]) (by simp [results, Try.results65, go_sem]) rfl ?_
    rw [H.out]
    exact ⟨none, 0, rfl, SSl.nil _ _, by go_grown⟩
  · have H := Lib.hid (show termP x n d = .cons x n d .nil by simp [termP, hn])
    have e0 : (n == 0) = false := by simpa using hn
    clear hn
    go_enter Try.func65, Try.ntmps65
    go_wp2
    refine bodyPost_ret (v := .agg #[.slice (some ⟨w.heap.size + 1 + 1 + 1, 0, none⟩) 1 1]) (by simp [results, Try.results65, go_sem]) rfl ?_
    rw [H.out]
    exact ⟨_, _, rfl, SSl.one (Blk.new' _ _ _ (by simp)) (sx.below (by go_grown)) (fun h => by have := hX _ h; omega) in_ id_, by go_grown⟩

set_option maxHeartbeats 800000 in
theorem real_any (n d : Int) (X : Nat → Prop) (w : World) (hX : ∀ k, X k → k < w.heap.size) (in_ : I64 n) (id_ : I64 d) :
    Calls Try.prog 40 #[.agg #[.int .i64 n, .int .i64 d]] w (RetS X w (termP .nil n d)) := by
  have k0 := ((Blk.new w 29 #[.int .i64 n, .int .i64 d]).alloc (.cells #[.slice none 0 0] 26))
  have k1 := (Blk.new' (g := w.heap.size + 1) (w.alloc (.cells #[.int .i64 n, .int .i64 d] 29)) 26 #[.slice none 0 0] (by simp))
  have hB0 : Below w.heap.size w ((w.alloc (.cells #[.int .i64 n, .int .i64 d] 29)).alloc (.cells #[.slice none 0 0] 26)) := by go_grown
  go_enter Try.func40, Try.ntmps40
  go_wp2_with fail
  refine (term_any .nil n d (Loc X w.heap.size 2) none 0 _ (loc_lt hX (by go_size)) (SSl.nil _ _) in_ id_).mono ?_
  rintro e1 w1 ⟨A1, c1, rfl, hs, hb1⟩
  obtain ⟨q1, qf1⟩ := (k1.call hb1).c1
  have hB1 := Below.call hB0 (by go_size) hb1
  go_wp2
  refine bodyPost_ret (v := .agg #[.slice A1 (termP .nil n d).len c1]) (by simp [results, Try.results40, go_sem, q1]) rfl ?_
  exact ⟨A1, c1, rfl, hs.setLoc (by simp) (by simp) _, hB1.setCell (by simp) _⟩
end Go.Proofs.Ytphabopnbcgodaa
