/-
  What functions on surreal numbers return.
  Walks: small functions on surreal numbers.
  Walks: the negative of a surreal number; a number times a fraction.
  Walks: a number times a fraction.
  Products: plain.
-/
import Derived.Test.YtonlfnbjbmgegaaGreatBA
import Derived.Test.YtonlfnbjbmgegaaGreatWAt
import Derived.Test.YtonlfnbjbmgegaaGreatBC
namespace Go.Proofs.YtonlfnbjbmgegaaGreat
open Go.RowKit
set_option linter.unusedSimpArgs false
set_option linter.unusedVariables false

/-- a number that may share memory, and whether there is one -/
def RetSh (X : Nat → Prop) (w : World) (o : Option Sur) (e : Ending) (w' : World) : Prop :=
  ∃ A c, e = .returned (.tuple #[.agg #[.slice A (o.getD .nil).len c], .bool o.isSome]) ∧ SSl X w' (o.getD .nil) A c ∧ Below w.heap.size w w'
/-- a number that may share memory -/
def RetS (X : Nat → Prop) (w : World) (x : Sur) (e : Ending) (w' : World) : Prop :=
  ∃ A c, e = .returned (.agg #[.slice A x.len c]) ∧ SSl X w' x A c ∧ Below w.heap.size w w'
/-- a number of its own, and whether there is one -/
def RetFreshB (w : World) (o : Option Sur) (e : Ending) (w' : World) : Prop :=
  ∃ A c, e = .returned (.tuple #[.agg #[.slice A (o.getD .nil).len c], .bool o.isSome]) ∧ SFresh w.heap.size w' (o.getD .nil) A c ∧ Below w.heap.size w w'

/-- X, and the call's own n blocks from B on -/
def Loc (X : Nat → Prop) (B n : Nat) : Nat → Prop := fun k => X k ∨ (B ≤ k ∧ k < B + n)
theorem SSl.loc {X : Nat → Prop} {w : World} {x : Sur} {A : Option Addr} {c : Nat} (h : SSl X w x A c) (n : Nat) : SSl (Loc X w.heap.size n) w x A c :=
  h.more fun k hk hlt => by rcases hk with h | h; exact h; omega
theorem SSl.unloc {X : Nat → Prop} {B n : Nat} {w : World} {x : Sur} {A : Option Addr} {c : Nat} (h : SSl (Loc X B n) w x A c) : SSl X w x A c := h.more fun _ hk _ => .inl hk
theorem loc_lt {X : Nat → Prop} {B n H : Nat} (hX : ∀ k, X k → k < B) (h : B + n ≤ H) : ∀ k, Loc X B n k → k < H := fun k hk => by
  rcases hk with h1 | h1
  · have := hX k h1; omega
  · omega
/-- a store into a block of the call's own -/
theorem SSl.setLoc {X : Nat → Prop} {B n : Nat} {w : World} {x : Sur} {A : Option Addr} {c : Nat} (h : SSl (Loc X B n) w x A c) {p : Addr} (h1 : B ≤ p.block) (h2 : p.block < B + n) (u : Value) : SSl X (w.setCell p u) x A c :=
  (h.far (.inr ⟨h1, h2⟩) u).unloc

/-- one term in a block of its own -/
theorem SSl.one {X : Nat → Prop} {w : World} {x : Sur} {A : Option Addr} {c g E : Nat} {n d : Int} (h : Blk w g E #[.slice A x.len c, .int .i64 n, .int .i64 d]) (sx : SSl X w x A c) (hX : ¬ X g) (in_ : I64 n) (id_ : I64 d) :
    SSl X w (.cons x n d .nil) (some ⟨g, 0, none⟩) 1 :=
  ⟨by simp [Sur.len], by simp [maxLen], rfl, hX, ⟨A, c, h.cell 0, sx.1, sx.2.1, sx.2.2⟩, h.cell 1, h.cell 2, in_, id_, trivial⟩

end Go.Proofs.YtonlfnbjbmgegaaGreat

namespace Go.Proofs.YtonlfnbjbmgegaaGreat
open Go.RowKit
set_option linter.unusedSimpArgs false
set_option linter.unusedVariables false

set_option maxHeartbeats 800000 in
theorem surreals_any (x y : Sur) (X Y : Nat → Prop) (A A' : Option Addr) (c c' : Nat) (w : World) (sx : SSl X w x A c) (sy : SSl Y w y A' c') :
    Calls Tryz.prog 46 #[.agg #[.slice A x.len c], .agg #[.slice A' y.len c']] w fun e w' => e = .returned (.bool (sGood x && sGood y)) ∧ Below w.heap.size w w' := by
  have k0 := ((Blk.new w 26 #[.slice A x.len c]).alloc (.cells #[.slice A' y.len c'] 26))
  have k1 := (Blk.new' (g := w.heap.size + 1) (w.alloc (.cells #[.slice A x.len c] 26)) 26 #[.slice A' y.len c'] (by simp))
  have hB0 : Below w.heap.size w ((w.alloc (.cells #[.slice A x.len c] 26)).alloc (.cells #[.slice A' y.len c'] 26)) := by go_grown
  cases hx : sGood x
  · go_enter Tryz.func46, Tryz.ntmps46
    go_wp2_with fail
    refine (IsSurreal_any x _ _ _ _ (sx.below hB0)).mono ?_
    rintro e1 w1 ⟨rfl, hb1⟩
    rw [hx]
    go_wp2
    go_ret
    exact ⟨rfl, Below.call hB0 (by go_size) hb1⟩
  · go_enter Tryz.func46, Tryz.ntmps46
    go_wp2_with fail
    refine (IsSurreal_any x _ _ _ _ (sx.below hB0)).mono ?_
    rintro e1 w1 ⟨rfl, hb1⟩
    have hB1 := Below.call hB0 (by go_size) hb1
    obtain ⟨q1, _⟩ := (k1.call hb1).c1
    rw [hx]
    go_wp2_with fail
    refine (IsSurreal_any y _ _ _ _ (sy.below hB1)).mono ?_
    rintro e2 w2 ⟨rfl, hb2⟩
    go_wp2
    go_ret
    exact ⟨rfl, hB1.trans (hb2.mono hB1.size)⟩

def told (x : Sur) (ok : Bool) : Option Sur := if (ok && sGood x) = true then some x else none

set_option maxHeartbeats 800000 in
theorem toldSurreal_any (x : Sur) (ok : Bool) (X : Nat → Prop) (A : Option Addr) (c : Nat) (w : World) (sx : SSl X w x A c) :
    Calls Tryz.prog 47 #[.agg #[.slice A x.len c], .bool ok] w (RetFreshB w (told x ok)) := by
  have k0 := ((Blk.new w 26 #[.slice A x.len c]).alloc (.cells #[.slice none 0 0] 26))
  have k1 := (Blk.new' (g := w.heap.size + 1) (w.alloc (.cells #[.slice A x.len c] 26)) 26 #[.slice none 0 0] (by simp))
  have hB0 : Below w.heap.size w ((w.alloc (.cells #[.slice A x.len c] 26)).alloc (.cells #[.slice none 0 0] 26)) := by go_grown
  cases ok
  · have H := Lib.hid (show told x false = none from rfl)
    go_enter Tryz.func47, Tryz.ntmps47
    go_wp2
    refine bodyPost_ret (v := .tuple #[.agg #[.slice none 0 0], .bool false]) (by simp [results, Tryz.results47, go_sem]) rfl ?_
    rw [H.out]
    exact ⟨none, 0, rfl, SFresh.nil _ _, by go_grown⟩
  · cases hx : sGood x
    · have H := Lib.hid (show told x true = none by simp [told, hx])
      go_enter Tryz.func47, Tryz.ntmps47
      go_wp2_with fail
      refine (IsSurreal_any x _ _ _ _ (sx.below hB0)).mono ?_
      rintro e1 w1 ⟨rfl, hb1⟩
      have hB1 := Below.call hB0 (by go_size) hb1
      obtain ⟨q1, qf1⟩ := (k1.call hb1).c1
      rw [hx]
      go_wp2
      refine bodyPost_ret (v := .tuple #[.agg #[.slice none 0 0], .bool false]) (by simp [results, Tryz.results47, go_sem, q1]) rfl ?_
      rw [H.out]
      exact ⟨none, 0, rfl, SFresh.nil _ _, hB1.setCell (by simp) _⟩
    · have H := Lib.hid (show told x true = some x by simp [told, hx])
      have hnn := sOk_nodes hx
      go_enter Tryz.func47, Tryz.ntmps47
      go_wp2_with fail
      refine (IsSurreal_any x _ _ _ _ (sx.below hB0)).mono ?_
      rintro e1 w1 ⟨rfl, hb1⟩
      have hB1 := Below.call hB0 (by go_size) hb1
      have k01 := k0.call hb1
      have k11 := k1.call hb1
      obtain ⟨p1, _⟩ := k01.c1
      rw [hx]
      go_wp2_with fail
      refine (clone_any 60 (by omega) x _ _ _ _ (by omega) (sx.below hB1)).mono ?_
      rintro e2 w2 ⟨A2, c2, rfl, hf, hb2⟩
      obtain ⟨q2, qf2⟩ := (k11.call hb2).c1
      go_wp2
      refine bodyPost_ret (v := .tuple #[.agg #[.slice A2 x.len c2], .bool true]) (by simp [results, Tryz.results47, go_sem, q2]) rfl ?_
      rw [H.out]
      have hz := k11.lt
      exact ⟨A2, c2, rfl, (hf.setCell (p := ⟨w.heap.size + 1, 0, none⟩) hz _).mono hB1.size, (hB1.trans (hb2.mono hB1.size)).setCell (by simp) _⟩

set_option maxHeartbeats 400000 in
theorem isNothing_any (x : Sur) (A : Option Addr) (c : Nat) (w : World) :
    Calls Tryz.prog 33 #[.agg #[.slice A x.len c]] w fun e w' => e = .returned (.bool ((x.len : Int) == 0)) ∧ Below w.heap.size w w' := by
  go_enter Tryz.func33, Tryz.ntmps33
  go_wp2
  go_ret
  exact ⟨by simp, by go_grown⟩

set_option maxHeartbeats 400000 in
theorem whole_any (n : Int) (w : World) :
    Calls Tryz.prog 85 #[.int .i64 n] w fun e w' => e = .returned (.agg #[.int .i64 n, .int .i64 1]) ∧ Below w.heap.size w w' := by
  go_enter Tryz.func85, Tryz.ntmps85
  go_wp2
  refine bodyPost_ret (v := .agg #[.int .i64 n, .int .i64 1]) (by simp [results, Tryz.results85, go_sem]) rfl ?_
  exact ⟨rfl, by go_grown⟩

def termP (x : Sur) (n d : Int) : Sur := if n = 0 then .nil else .cons x n d .nil

set_option maxHeartbeats 800000 in
theorem term_any (x : Sur) (n d : Int) (X : Nat → Prop) (A : Option Addr) (c : Nat) (w : World) (hX : ∀ k, X k → k < w.heap.size) (sx : SSl X w x A c) (in_ : I64 n) (id_ : I64 d) :
    Calls Tryz.prog 56 #[.agg #[.slice A x.len c], .agg #[.int .i64 n, .int .i64 d]] w (RetS X w (termP x n d)) := by
  by_cases hn : n = 0
  · have H := Lib.hid (show termP x n d = .nil by simp [termP, hn])
    have e0 : (n == 0) = true := by simpa using hn
    clear hn
    go_enter Tryz.func56, Tryz.ntmps56
    go_wp2
    refine bodyPost_ret (v := .agg #[.slice none 0 0]) (by simp [results, Tryz.results56, go_sem]) rfl ?_
    rw [H.out]
    exact ⟨none, 0, rfl, SSl.nil _ _, by go_grown⟩
  · have H := Lib.hid (show termP x n d = .cons x n d .nil by simp [termP, hn])
    have e0 : (n == 0) = false := by simpa using hn
    clear hn
    go_enter Tryz.func56, Tryz.ntmps56
    go_wp2
    refine bodyPost_ret (v := .agg #[.slice (some ⟨w.heap.size + 1 + 1 + 1, 0, none⟩) 1 1]) (by simp [results, Tryz.results56, go_sem]) rfl ?_
    rw [H.out]
    exact ⟨_, _, rfl, SSl.one (Blk.new' _ _ _ (by simp)) (sx.below (by go_grown)) (fun h => by have := hX _ h; omega) in_ id_, by go_grown⟩

set_option maxHeartbeats 800000 in
theorem real_any (n d : Int) (X : Nat → Prop) (w : World) (hX : ∀ k, X k → k < w.heap.size) (in_ : I64 n) (id_ : I64 d) :
    Calls Tryz.prog 89 #[.agg #[.int .i64 n, .int .i64 d]] w (RetS X w (termP .nil n d)) := by
  have k0 := ((Blk.new w 68 #[.int .i64 n, .int .i64 d]).alloc (.cells #[.slice none 0 0] 26))
  have k1 := (Blk.new' (g := w.heap.size + 1) (w.alloc (.cells #[.int .i64 n, .int .i64 d] 68)) 26 #[.slice none 0 0] (by simp))
  have hB0 : Below w.heap.size w ((w.alloc (.cells #[.int .i64 n, .int .i64 d] 68)).alloc (.cells #[.slice none 0 0] 26)) := by go_grown
  go_enter Tryz.func89, Tryz.ntmps89
  go_wp2_with fail
  refine (term_any .nil n d (Loc X w.heap.size 2) none 0 _ (loc_lt hX (by go_size)) (SSl.nil _ _) in_ id_).mono ?_
  rintro e1 w1 ⟨A1, c1, rfl, hs, hb1⟩
  obtain ⟨q1, qf1⟩ := (k1.call hb1).c1
  have hB1 := Below.call hB0 (by go_size) hb1
  go_wp2
  refine bodyPost_ret (v := .agg #[.slice A1 (termP .nil n d).len c1]) (by simp [results, Tryz.results89, go_sem, q1]) rfl ?_
  exact ⟨A1, c1, rfl, hs.setLoc (by simp) (by simp) _, hB1.setCell (by simp) _⟩
end Go.Proofs.YtonlfnbjbmgegaaGreat

namespace Go.Proofs.YtonlfnbjbmgegaaGreat
open Go.RowKit
set_option linter.unusedSimpArgs false
set_option linter.unusedVariables false

def negI (n : Int) : Int := IntKind.i64.wrap (-n)
theorem negI_in {n : Int} (h : -9223372036854775808 < n ∧ n ≤ 9223372036854775807) : negI n = -n := IntWalk.i64_in _ (by omega)
theorem negI_I64 (n : Int) : I64 (negI n) := by unfold negI I64; rw [IntKind.wrap_i64]; omega
/-- the negative -/
def negP : Sur → Sur
  | .nil => .nil
  | .cons e n d r => .cons e (negI n) d (negP r)
theorem negP_len : ∀ (x : Sur), (negP x).len = x.len
  | .nil => rfl
  | .cons e n d r => by simp only [negP, Sur.len, negP_len r]
theorem negP_app : ∀ (x y : Sur), negP (x.app y) = (negP x).app (negP y)
  | .nil, _ => rfl
  | .cons e n d r, y => by simp only [Sur.app, negP, negP_app r y]

set_option maxHeartbeats 1600000 in
set_option maxRecDepth 100000 in
theorem negative_any (x : Sur) (X : Nat → Prop) (A : Option Addr) (c : Nat) (w : World) (hX : ∀ k, X k → k < w.heap.size) (sx : SSl X w x A c) (hl : x.len ≤ 1099511627776) :
    Calls Tryz.prog 128 #[.agg #[.slice A x.len c]] w (RetS X w (negP x)) := by
  obtain ⟨i0, hi0, iz0, iz1, iz2⟩ := info_parts infoST
  have lx := sx.cap
  have lx' := sx.le
  unfold maxLen at lx
  have k0 := (((Blk.new w 26 #[.slice A x.len c]).alloc (.cells #[.slice none 0 0] 26)).alloc (.cells #[.slice none 0 0] 26))
  have k1 := ((Blk.new' (g := w.heap.size + 1) (w.alloc (.cells #[.slice A x.len c] 26)) 26 #[.slice none 0 0] (by simp)).alloc (.cells #[.slice none 0 0] 26))
  have k2 := (Blk.new' (g := w.heap.size + 1 + 1) ((w.alloc (.cells #[.slice A x.len c] 26)).alloc (.cells #[.slice none 0 0] 26)) 26 #[.slice none 0 0] (by simp))
  have hB0 : Below w.heap.size w (((w.alloc (.cells #[.slice A x.len c] 26)).alloc (.cells #[.slice none 0 0] 26)).alloc (.cells #[.slice none 0 0] 26)) := by go_grown
  have tx := sx.low
  clear sx
  go_enter Tryz.func128, Tryz.ntmps128
  go_wp2
  go_loopw [10] (fun s wr => ∃ (i : Nat) (v : Value) (xs : List Value), s = .int .i64 i ∧ i ≤ x.len ∧
      Blk wr (w.heap.size + 1) 26 #[.slice none 0 0] ∧ Blk wr (w.heap.size + 1 + 1) 26 #[v] ∧
      wr.ownsRow (w.heap.size + 3) 70 3 v (negP (x.take i)).len xs ∧ TRow (Low X w.heap.size) wr (negP (x.take i)) xs ∧ Below w.heap.size w wr) (fun s _ => x.len - (intOf s).toNat)
  case atStart => exact ⟨0, .slice none 0 0, [], rfl, Nat.zero_le _, k1, k2, World.ownsRow_nil _ _ _ _, rfl, hB0⟩
  case round =>
    obtain ⟨i, v, xs, rfl, hi, m1, m2, hown, hrow, hB⟩ := hrel
    clear k0 k1 k2 hB0
    obtain ⟨p1, pf1⟩ := m1.c1
    obtain ⟨p2, pf2⟩ := m2.c1
    have z2 := m2.lt
    have z1 := m1.lt
    have ag := own_ne hown (k := w.heap.size + 1 + 1) (.inl (by omega))
    have hi0' : (0 : Int) ≤ (i : Int) := by omega
    have hln : (negP (x.take i)).len ≤ i := by rw [negP_len, Sur.len_take x i hi]; omega
    by_cases h1 : i < x.len
    · obtain ⟨b, o, e, n, d, A1, d1, rfl, hxk, f0, f1, f2, se, in_, id_, hXb, hbl⟩ := (tx.lowTo (Below.refl _ _) hB).at_ h1
      have hT : negP (x.take (i + 1)) = (negP (x.take i)).app (.cons e (negI n) d .nil) := by rw [x.take_succ i e n d _ hxk, negP_app]; rfl
      have HT := Lib.hid hT
      clear hT hxk
      have hnn : IntKind.i64.wrap (-n) = negI n := rfl
      go_wp2_with (at_builtin; go_must (refine wpList_append_lies _ rfl _ _ _ rfl (w.heap.size + 3) 70 i0 _ 3 40 Tryz.underlying24 hi0 iz0 iz1 iz2 rfl (by omega) v (negP (x.take i)).len xs (by rfl) ((hown.alloc _).alloc _) ⟨wr.heap.size + 1, 0, none⟩ 1 1 [.slice A1 e.len d1, .int .i64 (negI n), .int .i64 d] (by rfl) (by rfl) (World.news_of_block (cs := #[.slice A1 e.len d1, .int .i64 (negI n), .int .i64 d]) (t := 70) (fr := (0, 0)) (Blk.new' (g := wr.heap.size + 1) (wr.alloc (.cells #[.slice A1 e.len d1, .int .i64 n, .int .i64 d] 70)) 70 #[.slice A1 e.len d1, .int .i64 (negI n), .int .i64 d] (by simp))) (by simp [Value.oneCell']) (by omega) (by unfold maxLen; omega) (by omega) (by go_size) (wr.heap.size + 1 + 1) (by simp) ?_); intro gg cap w2 hown1 hgrow hat hlt; obtain ⟨u3, uf3⟩ := (Blk.app m2 (by go_grown) hgrow (Ne.symm ag)).c1)
      obtain ⟨t1, t2, t3, t4, t5⟩ := low_step (ob := w.heap.size + 1 + 1) hB hown hrow se (negI_I64 n) id_ (by go_grown) hown1 hgrow (by omega) hB.size (by omega) (by omega)
      rw [← HT.out] at t2 t3
      exact ⟨⟨i + 1, _, _, by go_num, by omega, t4 _ _ _ (by omega) (by omega) m1, t5 _ _ m2, t2, t3, t1⟩, by simp [intOf]; omega⟩
    · obtain rfl : i = x.len := by omega
      rw [x.take_len] at hown hrow
      obtain ⟨Av, cv, rfl⟩ := own_slice hown
      have hB3 := hB.setCell (p := ⟨w.heap.size + 1, 0, none⟩) (by simp) (.slice Av (negP x).len cv)
      have hsl := (SSl.of_own (own_setCell hown (p := ⟨w.heap.size + 1, 0, none⟩) (own_ne hown (.inl (by simp))) (.slice Av (negP x).len cv)) (hrow.lowTo hB hB3).unlow (fun k hk hXk => by have := hown.lt k hk; have := hX k hXk; omega)).2
      go_wp2
      refine bodyPost_ret (v := .agg #[.slice Av (negP x).len cv]) (by simp [results, Tryz.results128, go_sem, p1]) rfl ?_
      exact ⟨Av, cv, rfl, hsl, hB3⟩
end Go.Proofs.YtonlfnbjbmgegaaGreat

namespace Go.Proofs.YtonlfnbjbmgegaaGreat
open Go.RowKit
set_option linter.unusedSimpArgs false
set_option linter.unusedVariables false

def scaleT (a b : Int) : Sur → Option Sur
  | .nil => some .nil
  | .cons e n d r => match fMultiply n d a b with | none => none | some (p, q) => (scaleT a b r).map (.cons e p q ·)
/-- a number times a fraction; none where a fraction is too great -/
def scaleP (x : Sur) (a b : Int) : Option Sur := if a = 0 then some .nil else scaleT a b x

def ScaleAt (a b : Int) (x : Sur) (i : Nat) (acc : Sur) : Prop := scaleT a b x = (scaleT a b (x.drop i)).map (acc.app ·)
theorem ScaleAt.step {a b : Int} {x : Sur} {i : Nat} {acc e : Sur} {n d p q : Int} (h : ScaleAt a b x i acc) (hx : x.drop i = .cons e n d (x.drop (i + 1))) (hf : fMultiply n d a b = some (p, q)) :
    ScaleAt a b x (i + 1) (acc.app (.cons e p q .nil)) := by
  unfold ScaleAt at *
  rw [h, hx, scaleT, hf]
  simp only [Option.map_map]
  congr 1
  funext z
  simp [Sur.app_assoc, Sur.app]
theorem ScaleAt.fail {a b : Int} {x : Sur} {i : Nat} {acc e : Sur} {n d : Int} (h : ScaleAt a b x i acc) (hx : x.drop i = .cons e n d (x.drop (i + 1))) (hf : fMultiply n d a b = none) : scaleT a b x = none := by
  unfold ScaleAt at h
  rw [h, hx, scaleT, hf]; rfl
theorem ScaleAt.done {a b : Int} {x : Sur} {i : Nat} {acc : Sur} (h : ScaleAt a b x i acc) (hi : x.len ≤ i) : scaleT a b x = some acc := by
  unfold ScaleAt at h
  rw [h, x.drop_of_ge i hi]; simp [scaleT, Sur.app_nil]
theorem fMul_I64 {a b a' b' p q : Int} (h : fMultiply a b a' b' = some (p, q)) : I64 p ∧ I64 q := fracOk_I64 (two_ok h)

set_option maxHeartbeats 1600000 in
set_option maxRecDepth 100000 in
theorem scaled_any (x : Sur) (fa fb : Int) (X : Nat → Prop) (A : Option Addr) (c : Nat) (w : World) (hX : ∀ k, X k → k < w.heap.size) (sx : SSl X w x A c) (hl : x.len ≤ 1099511627776) :
    Calls Tryz.prog 144 #[.agg #[.slice A x.len c], .agg #[.int .i64 fa, .int .i64 fb]] w (RetSh X w (scaleP x fa fb)) := by
  obtain ⟨i0, hi0, iz0, iz1, iz2⟩ := info_parts infoST
  have lx := sx.cap
  have lx' := sx.le
  unfold maxLen at lx
  have k0 := ((((Blk.new w 26 #[.slice A x.len c]).alloc (.cells #[.int .i64 fa, .int .i64 fb] 68)).alloc (.cells #[.slice none 0 0] 26)).alloc (.cells #[.slice none 0 0] 26))
  have k1 := (((Blk.new' (g := w.heap.size + 1) (w.alloc (.cells #[.slice A x.len c] 26)) 68 #[.int .i64 fa, .int .i64 fb] (by simp)).alloc (.cells #[.slice none 0 0] 26)).alloc (.cells #[.slice none 0 0] 26))
  have k2 := ((Blk.new' (g := w.heap.size + 1 + 1) ((w.alloc (.cells #[.slice A x.len c] 26)).alloc (.cells #[.int .i64 fa, .int .i64 fb] 68)) 26 #[.slice none 0 0] (by simp)).alloc (.cells #[.slice none 0 0] 26))
  have k3 := (Blk.new' (g := w.heap.size + 1 + 1 + 1) (((w.alloc (.cells #[.slice A x.len c] 26)).alloc (.cells #[.int .i64 fa, .int .i64 fb] 68)).alloc (.cells #[.slice none 0 0] 26)) 26 #[.slice none 0 0] (by simp))
  have hB0 : Below w.heap.size w ((((w.alloc (.cells #[.slice A x.len c] 26)).alloc (.cells #[.int .i64 fa, .int .i64 fb] 68)).alloc (.cells #[.slice none 0 0] 26)).alloc (.cells #[.slice none 0 0] 26)) := by go_grown
  by_cases ha : fa = 0
  · have H := Lib.hid (show scaleP x fa fb = some .nil by simp [scaleP, ha])
    have e0 : (fa == 0) = true := by simpa using ha
    clear ha
    go_enter Tryz.func144, Tryz.ntmps144
    go_wp2
    refine bodyPost_ret (v := .tuple #[.agg #[.slice none 0 0], .bool true]) (by simp [results, Tryz.results144, go_sem]) rfl ?_
    rw [H.out]
    exact ⟨none, 0, rfl, SSl.nil _ _, by go_grown⟩
  · have H := Lib.hid (show scaleP x fa fb = scaleT fa fb x by simp [scaleP, ha])
    have e0 : (fa == 0) = false := by simpa using ha
    clear ha
    have tx := sx.low
    clear sx
    go_enter Tryz.func144, Tryz.ntmps144
    go_wp2
    go_loopw [19] (fun s wr => ∃ (i : Nat) (v : Value) (xs : List Value) (acc : Sur), s = .int .i64 i ∧ i ≤ x.len ∧ acc.len ≤ i ∧ Blk wr (w.heap.size + 1) 68 #[.int .i64 fa, .int .i64 fb] ∧
        Blk wr (w.heap.size + 1 + 1) 26 #[.slice none 0 0] ∧ Blk wr (w.heap.size + 1 + 1 + 1) 26 #[v] ∧
        wr.ownsRow (w.heap.size + 4) 70 3 v acc.len xs ∧ TRow (Low X w.heap.size) wr acc xs ∧ Hid (ScaleAt fa fb x i acc) ∧ Below w.heap.size w wr) (fun s _ => x.len - (intOf s).toNat)
    case atStart => exact ⟨0, .slice none 0 0, [], .nil, rfl, Nat.zero_le _, Nat.zero_le _, k1, k2, k3, World.ownsRow_nil _ _ _ _, rfl, by simp [Hid, ScaleAt, Sur.drop, Sur.app], hB0⟩
    case round =>
      obtain ⟨i, v, xs, acc, rfl, hi, hal, m1, m2, m3, hown, hrow, HS, hB⟩ := hrel
      clear k0 k1 k2 k3 hB0
      obtain ⟨p10, p11, _, _⟩ := m1.c2
      obtain ⟨p2, pf2⟩ := m2.c1
      obtain ⟨p3, pf3⟩ := m3.c1
      have z3 := m3.lt
      have z2 := m2.lt
      have z1 := m1.lt
      have ag := own_ne hown (k := w.heap.size + 1 + 1 + 1) (.inl (by omega))
      have hi0' : (0 : Int) ≤ (i : Int) := by omega
      by_cases h1 : i < x.len
      · obtain ⟨b, o, e, n, d, A1, d1, rfl, hxk, f0, f1, f2, se, in_, id_, hXb, hbl⟩ := (tx.lowTo (Below.refl _ _) hB).at_ h1
        have HXK := Lib.hid hxk
        clear hxk
        have kt := Blk.new wr 70 #[.slice A1 e.len d1, .int .i64 n, .int .i64 d]
        go_wp2_with fail
        refine (MultiplyFractions_any n d fa fb _).mono ?_
        rintro e5 w5 ⟨rfl, hb5⟩
        have hB5 : Below w.heap.size w w5 := hB.trans (Below.call (w := wr) (by go_grown) (by go_size) hb5)
        have l1 := Blk.thru m1 (by go_grown) hb5
        have l2 := Blk.thru m2 (by go_grown) hb5
        have l3 := Blk.thru m3 (by go_grown) hb5
        have lt := kt.call hb5
        have hown5 := own_thru hown (by go_grown) hb5
        obtain ⟨a2, af2⟩ := l2.c1
        obtain ⟨a3, af3⟩ := l3.c1
        obtain ⟨t0, t1, t2, _, _, _⟩ := lt.c3
        have y2 := l2.lt
        have y3 := l3.lt
        have y4 := lt.lt
        have hrow5 := hrow.lowTo hB hB5
        have se5 := se.lowTo hB hB5
        rcases hfa : fMultiply n d fa fb with _ | ⟨p, pq⟩
        · have HF := Lib.hid (HS.out.fail HXK.out hfa)
          clear hfa
          simp only [optF]
          go_wp2
          refine bodyPost_ret (v := .tuple #[.agg #[.slice none 0 0], .bool false]) (by simp [results, Tryz.results144, go_sem, a2, y2]) rfl ?_
          rw [H.out, HF.out]
          exact ⟨none, 0, rfl, SSl.nil _ _, by go_grown⟩
        · have HT := Lib.hid (HS.out.step HXK.out hfa)
          have hIp := fMul_I64 hfa
          clear hfa
          simp only [optF]
          go_wp2_with (at_builtin; go_must (refine wpList_append_lies _ rfl _ _ _ rfl (w.heap.size + 4) 70 i0 _ 3 40 Tryz.underlying24 hi0 iz0 iz1 iz2 rfl (by omega) v acc.len xs (by rfl) ((hown5.alloc _).alloc _) ⟨w5.heap.size + 1, 0, none⟩ 1 1 [.slice A1 e.len d1, .int .i64 p, .int .i64 pq] (by rfl) (by rfl) (World.news_of_block (cs := #[.slice A1 e.len d1, .int .i64 p, .int .i64 pq]) (t := 70) (fr := (0, 0)) (Blk.new' (g := w5.heap.size + 1) (w5.alloc (.cells #[.int .i64 p, .int .i64 pq] 68)) 70 #[.slice A1 e.len d1, .int .i64 p, .int .i64 pq] (by simp))) (by simp [Value.oneCell']) (by omega) (by unfold maxLen; omega) (by omega) (by go_size) (w5.heap.size + 1 + 1) (by simp) ?_); intro gg cap w2 hown1 hgrow hat hlt; obtain ⟨u3, uf3⟩ := (Blk.app l3 (by go_grown) hgrow (Ne.symm ag)).c1)
          obtain ⟨t1, t2, t3, t4, t5⟩ := low_step (ob := w.heap.size + 1 + 1 + 1) hB5 hown5 hrow5 se5 hIp.1 hIp.2 (by go_grown) hown1 hgrow (by omega) hB5.size (by omega) (by omega)
          exact ⟨⟨i + 1, _, _, _, by go_num, by omega, by rw [Sur.len_snoc]; omega, t4 _ _ _ (by omega) (by omega) l1, t4 _ _ _ (by omega) (by omega) l2, t5 _ _ l3, t2, t3, HT, t1⟩, by simp [intOf]; omega⟩
      · have HF := Lib.hid (HS.out.done (by omega))
        obtain ⟨Av, cv, rfl⟩ := own_slice hown
        have hB3 := hB.setCell (p := ⟨w.heap.size + 1 + 1, 0, none⟩) (by simp; omega) (.slice Av acc.len cv)
        have hsl := (SSl.of_own (own_setCell hown (p := ⟨w.heap.size + 1 + 1, 0, none⟩) (own_ne hown (.inl (by simp))) (.slice Av acc.len cv)) (hrow.lowTo hB hB3).unlow (fun k hk hXk => by have := hown.lt k hk; have := hX k hXk; omega)).2
        go_wp2
        refine bodyPost_ret (v := .tuple #[.agg #[.slice Av acc.len cv], .bool true]) (by simp [results, Tryz.results144, go_sem, p2]) rfl ?_
        rw [H.out, HF.out]
        exact ⟨Av, cv, rfl, hsl, hB3⟩
end Go.Proofs.YtonlfnbjbmgegaaGreat

namespace Go.Proofs.YtonlfnbjbmgegaaGreat
open Go.RowKit
set_option linter.unusedSimpArgs false
set_option linter.unusedVariables false

/-- AddSurreals -/
def addS (x y : Sur) : Option Sur := if (sGood x && sGood y) = true then (sumP x y).bind fun z => told z true else none
/-- ScaleSurreal -/
def scaleS (x : Sur) (a b : Int) : Option Sur := if (sGood x && fracOk a b) = true then (scaleP x a b).bind fun z => told z true else none
def subS (x y : Sur) : Option Sur := addS x (negP y)
def negS (x : Sur) : Option Sur := if sGood x = true then told (negP x) true else none

theorem told_bind (o : Option Sur) : told (o.getD .nil) o.isSome = o.bind fun z => told z true := by cases o <;> simp [told]
theorem told_eq {x : Sur} {ok : Bool} {z : Sur} (h : told x ok = some z) : z = x ∧ ok = true ∧ sGood x = true := by
  unfold told at h
  split at h
  · rename_i hc
    simp only [Bool.and_eq_true] at hc
    simp only [Option.some.injEq] at h
    exact ⟨h.symm, hc.1, hc.2⟩
  · cases h
theorem sGood_len {x : Sur} (h : sGood x = true) : x.len ≤ 60 ∧ x.nodes ≤ 60 ∧ x.All FOk := by
  have h1 := sOk_nodes h
  have h2 := x.len_lt_nodes
  exact ⟨by omega, by omega, sOk_all h⟩
theorem addS_good {x y z : Sur} (h : addS x y = some z) : sGood z = true := by
  unfold addS at h
  split at h
  · obtain ⟨u, _, hu⟩ := Option.bind_eq_some_iff.1 h
    obtain ⟨rfl, _, hg⟩ := told_eq hu
    exact hg
  · cases h

theorem sumP_all : ∀ (x y : Sur), x.All FOk → y.All FOk → ∀ z, sumP x y = some z → z.All FOk ∧ z.len ≤ x.len + y.len
  | .nil, y, _, hy, z, h => by simp only [sumP, Option.some.injEq] at h; subst h; exact ⟨hy, by simp [Sur.len]⟩
  | .cons e n d r, .nil, hx, _, z, h => by simp only [sumP, Option.some.injEq] at h; subst h; exact ⟨hx, by simp [Sur.len]⟩
  | .cons e n d r, .cons e' n' d' r', hx, hy, z, h => by
    rw [sumP] at h
    split at h
    · obtain ⟨u, hu, rfl⟩ := Option.map_eq_some_iff.1 h
      obtain ⟨h1, h2⟩ := sumP_all r _ hx.2.2 hy u hu
      exact ⟨⟨hx.1, hx.2.1, h1⟩, by simp only [Sur.len] at *; omega⟩
    · split at h
      · obtain ⟨u, hu, rfl⟩ := Option.map_eq_some_iff.1 h
        obtain ⟨h1, h2⟩ := sumP_all _ r' hx hy.2.2 u hu
        exact ⟨⟨hy.1, hy.2.1, h1⟩, by simp only [Sur.len] at *; omega⟩
      · cases hf : fAdd n d n' d' with
        | none => rw [hf] at h; cases h
        | some v =>
          obtain ⟨p, q⟩ := v
          rw [hf] at h
          obtain ⟨u, hu, rfl⟩ := Option.map_eq_some_iff.1 h
          obtain ⟨h1, h2⟩ := sumP_all r r' hx.2.2 hy.2.2 u hu
          split
          · exact ⟨h1, by simp only [Sur.len] at *; omega⟩
          · exact ⟨⟨hx.1, two_ok hf, h1⟩, by simp only [Sur.len] at *; omega⟩
  termination_by x y => x.len + y.len
  decreasing_by all_goals simp only [Sur.len]; omega

/-- the terms of one number times one term, added -/
def mulIn (e : Sur) (n d : Int) : Sur → Sur → Option Sur
  | .nil, out => some out
  | .cons e' n' d' r, out => match addS e e', fMultiply n d n' d' with
    | some z, some (p, q) => (sumP out (termP z p q)).bind (mulIn e n d r)
    | _, _ => none
def mulOut (y : Sur) : Sur → Sur → Option Sur
  | .nil, out => some out
  | .cons e n d r, out => (mulIn e n d y out).bind (mulOut y r)
/-- MultiplySurreals -/
def mulS (x y : Sur) : Option Sur := if (sGood x && sGood y) = true then (mulOut y x .nil).bind fun z => told z true else none

theorem termP_all {z : Sur} {p q : Int} (hz : z.All FOk) (h : FOk p q) : (termP z p q).All FOk ∧ (termP z p q).len ≤ 1 := by
  unfold termP
  split
  · exact ⟨trivial, by simp [Sur.len]⟩
  · exact ⟨⟨hz, h, trivial⟩, by simp [Sur.len]⟩

/-- a step of the inner loop -/
theorem mulIn_step {e y : Sur} {n d : Int} {k : Nat} {out e' : Sur} {n' d' : Int} (hy : y.drop k = .cons e' n' d' (y.drop (k + 1))) :
    (addS e e' = none ∨ fMultiply n d n' d' = none → mulIn e n d (y.drop k) out = none) ∧
    (∀ z p q, addS e e' = some z → fMultiply n d n' d' = some (p, q) → (sumP out (termP z p q) = none → mulIn e n d (y.drop k) out = none) ∧
      ∀ nx, sumP out (termP z p q) = some nx → mulIn e n d (y.drop k) out = mulIn e n d (y.drop (k + 1)) nx) := by
  rw [hy, mulIn]
  refine ⟨?_, ?_⟩
  · rintro (h | h)
    · rw [h]
    · rw [h]; cases addS e e' <;> rfl
  · intro z p q h1 h2
    rw [h1, h2]
    exact ⟨fun h => by simp [h], fun nx h => by simp [h]⟩

end Go.Proofs.YtonlfnbjbmgegaaGreat
