/-
  Sums: plain.
  Walks, the reference's side: fractions.
-/
import Derived.Test.YtonlfnbjbmgegaaGreatBA
import Derived.Test.YtonlfnbjbmgegaaGreatBB
namespace Go.Proofs.YtonlfnbjbmgegaaGreat
open Go.RowKit
set_option linter.unusedSimpArgs false
set_option linter.unusedVariables false

/-- the sum of two numbers; none where a fraction is too great -/
def sumP : Sur → Sur → Option Sur
  | .nil, y => some y
  | .cons e n d r, .nil => some (.cons e n d r)
  | .cons e n d r, .cons e' n' d' r' =>
    if order e e' = 1 then (sumP r (.cons e' n' d' r')).map (.cons e n d ·)
    else if order e e' = -1 then (sumP (.cons e n d r) r').map (.cons e' n' d' ·)
    else match fAdd n d n' d' with
      | none => none
      | some (p, q) => (sumP r r').map fun z => if p = 0 then z else .cons e p q z
  termination_by x y => x.len + y.len
  decreasing_by all_goals simp only [Sur.len]; omega

theorem sumP_nil (x : Sur) : sumP x .nil = some x := by cases x <;> simp [sumP]
/-- the first number's term comes next -/
theorem sumP_left {e : Sur} {n d : Int} {r y : Sur} (h : y = .nil ∨ ∃ e' n' d' r', y = .cons e' n' d' r' ∧ order e e' = 1) : sumP (.cons e n d r) y = (sumP r y).map (.cons e n d ·) := by
  rcases h with rfl | ⟨e', n', d', r', rfl, h⟩
  · rw [sumP_nil, sumP_nil]; rfl
  · rw [sumP, if_pos h]
theorem sumP_right {e : Sur} {n d : Int} {r x : Sur} (h : x = .nil ∨ ∃ e' n' d' r', x = .cons e' n' d' r' ∧ order e' e = -1) : sumP x (.cons e n d r) = (sumP x r).map (.cons e n d ·) := by
  rcases h with rfl | ⟨e', n', d', r', rfl, h⟩
  · simp [sumP]
  · rw [sumP, if_neg (by omega), if_pos h]
theorem sumP_both {e e' : Sur} {n d n' d' : Int} {r r' : Sur} (h : order e e' = 0) :
    sumP (.cons e n d r) (.cons e' n' d' r') = (match fAdd n d n' d' with | none => none | some (p, q) => (sumP r r').map fun z => if p = 0 then z else .cons e p q z) := by
  rw [sumP, if_neg (by omega), if_neg (by omega)]

/-- what was collected, and what is to come -/
def SumAt (x y : Sur) (i k : Nat) (acc : Sur) : Prop := sumP x y = (sumP (x.drop i) (y.drop k)).map (acc.app ·)

theorem SumAt.left {x y : Sur} {i k : Nat} {acc e : Sur} {n d : Int} (h : SumAt x y i k acc) (hx : x.drop i = .cons e n d (x.drop (i + 1)))
    (hy : y.drop k = .nil ∨ ∃ e' n' d' r', y.drop k = .cons e' n' d' r' ∧ order e e' = 1) : SumAt x y (i + 1) k (acc.app (.cons e n d .nil)) := by
  unfold SumAt at *
  rw [h, hx, sumP_left hy, Option.map_map]
  congr 1
  funext z
  simp [Sur.app_assoc, Sur.app]
theorem SumAt.right {x y : Sur} {i k : Nat} {acc e : Sur} {n d : Int} (h : SumAt x y i k acc) (hy : y.drop k = .cons e n d (y.drop (k + 1)))
    (hx : x.drop i = .nil ∨ ∃ e' n' d' r', x.drop i = .cons e' n' d' r' ∧ order e' e = -1) : SumAt x y i (k + 1) (acc.app (.cons e n d .nil)) := by
  unfold SumAt at *
  rw [h, hy, sumP_right hx, Option.map_map]
  congr 1
  funext z
  simp [Sur.app_assoc, Sur.app]
theorem SumAt.fail {x y : Sur} {i k : Nat} {acc e e' : Sur} {n d n' d' : Int} (h : SumAt x y i k acc) (hx : x.drop i = .cons e n d (x.drop (i + 1))) (hy : y.drop k = .cons e' n' d' (y.drop (k + 1)))
    (ho : order e e' = 0) (hf : fAdd n d n' d' = none) : sumP x y = none := by
  unfold SumAt at h
  rw [h, hx, hy, sumP_both ho, hf]; rfl
theorem SumAt.both {x y : Sur} {i k : Nat} {acc e e' : Sur} {n d n' d' p q : Int} (h : SumAt x y i k acc) (hx : x.drop i = .cons e n d (x.drop (i + 1))) (hy : y.drop k = .cons e' n' d' (y.drop (k + 1)))
    (ho : order e e' = 0) (hf : fAdd n d n' d' = some (p, q)) : SumAt x y (i + 1) (k + 1) (if p = 0 then acc else acc.app (.cons e p q .nil)) := by
  unfold SumAt at *
  rw [h, hx, hy, sumP_both ho, hf]
  simp only [Option.map_map]
  congr 1
  funext z
  by_cases hp : p = 0
  · simp [hp]
  · simp [hp, Sur.app_assoc, Sur.app]
theorem SumAt.done {x y : Sur} {i k : Nat} {acc : Sur} (h : SumAt x y i k acc) (hi : x.len ≤ i) (hk : y.len ≤ k) : sumP x y = some acc := by
  unfold SumAt at h
  rw [h, x.drop_of_ge i hi, y.drop_of_ge k hk]
  simp [sumP, Sur.app_nil]

/-- blocks that may hold none of what is old: X, and all from B on -/
def Low (X : Nat → Prop) (B : Nat) : Nat → Prop := fun k => X k ∨ B ≤ k
theorem SSl.low {X : Nat → Prop} {w : World} {e : Sur} {A : Option Addr} {c : Nat} (h : SSl X w e A c) : SSl (Low X w.heap.size) w e A c :=
  h.more fun k hk hlt => by rcases hk with h | h; exact h; omega
theorem SSl.lowTo {X : Nat → Prop} {B : Nat} {w w1 w2 : World} {e : Sur} {A : Option Addr} {c : Nat} (h : SSl (Low X B) w1 e A c) (h1 : Below B w w1) (h2 : Below B w w2) : SSl (Low X B) w2 e A c :=
  h.keep fun k hx _ => ⟨hx, by have hk : k < B := by rcases Nat.lt_or_ge k B with h | h; exact h; exact absurd (.inr h) hx
                               rw [h2.block k hk, h1.block k hk]⟩
theorem TRow.lowTo {X : Nat → Prop} {B : Nat} {w w1 w2 : World} {e : Sur} {xs : List Value} (h : TRow (Low X B) w1 e xs) (h1 : Below B w w1) (h2 : Below B w w2) : TRow (Low X B) w2 e xs :=
  h.keep fun k hx _ => ⟨hx, by have hk : k < B := by rcases Nat.lt_or_ge k B with h | h; exact h; exact absurd (.inr h) hx
                               rw [h2.block k hk, h1.block k hk]⟩
theorem SSl.unlow {X : Nat → Prop} {B : Nat} {w : World} {e : Sur} {A : Option Addr} {c : Nat} (h : SSl (Low X B) w e A c) : SSl X w e A c := h.more fun _ hk _ => .inl hk
theorem TRow.unlow {X : Nat → Prop} {B : Nat} {w : World} {e : Sur} {xs : List Value} (h : TRow (Low X B) w e xs) : TRow X w e xs := h.keep fun _ hx _ => ⟨fun h => hx (.inl h), rfl⟩

theorem made_ok {n d p q : Int} (h : made n d = some (p, q)) : fracOk p q = true := by
  unfold made at h
  split at h
  · cases h
  · split at h
    · rename_i hf
      simp only [Option.some.injEq, Prod.mk.injEq] at h
      obtain ⟨rfl, rfl⟩ := h
      exact hf
    · cases h
theorem two_ok {a b a' b' n d p q : Int} (h : two a b a' b' n d = some (p, q)) : fracOk p q = true := by
  unfold two at h
  split at h
  · exact made_ok h
  · cases h
theorem fracOk_I64 {p q : Int} (h : fracOk p q = true) : I64 p ∧ I64 q := by
  have := fracOk_iff.1 h
  unfold I64; omega
theorem fAdd_I64 {a b a' b' p q : Int} (h : fAdd a b a' b' = some (p, q)) : I64 p ∧ I64 q := fracOk_I64 (two_ok h)

/-- an old cell, in any later world -/
theorem old_cell {B : Nat} {w wr W : World} (h1 : Below B w wr) (h2 : Below B w W) {p : Addr} {u : Value} (hp : p.block < B) (h : wr.cell? p = some u) : W.cell? p = some u :=
  (h2.cell hp).trans ((h1.cell hp).symm.trans h)
theorem low_lt {X : Nat → Prop} {B b : Nat} (h : ¬ Low X B b) : b < B := by
  rcases Nat.lt_or_ge b B with h1 | h1
  · exact h1
  · exact absurd (.inr h1) h
theorem own_thru {w W w' : World} {base : Nat} {e : TypeId} {size : Nat} {v : Value} {n : Nat} {xs : List Value} (h : w.ownsRow base e size v n xs) (hW : Below w.heap.size w W) (hb : Below W.heap.size W w') : w'.ownsRow base e size v n xs :=
  own_below h (hW.trans (hb.mono hW.size))
theorem two_sets {w : World} {g g' : Nat} {t : TypeId} {cs : Array Value} (h : Blk w g t cs) (hne : g ≠ g') (a b : Value) : Blk ((w.setCell ⟨g', 0, none⟩ a).setCell ⟨g', 1, none⟩ b) g t cs := (h.far hne _).far hne _

/-- a cell behind a call, whatever was laid before it -/
theorem cell_call {w W w1 : World} {p : Addr} {u : Value} (hW : Below w.heap.size w W) (hb : Below W.heap.size W w1) (h : w.cell? p = some u) : w1.cell? p = some u :=
  ((hW.trans (hb.mono hW.size)).cell (World.block_lt_of_cell? w p h)).trans h
theorem Blk.thru {w W w1 : World} {g : Nat} {t : TypeId} {cs : Array Value} (h : Blk w g t cs) (hW : Below w.heap.size w W) (hb : Below W.heap.size W w1) : Blk w1 g t cs := h.call (hW.trans (hb.mono hW.size))

theorem Sur.len_snoc (x e : Sur) (n d : Int) : (x.app (.cons e n d .nil)).len = x.len + 1 := by simp [Sur.len_app, Sur.len]

/-- behind 'out = append(out, term)': the row is one term longer, all else is as it was -/
theorem low_step {X : Nat → Prop} {B base E ob gg cap d1 : Nat} {w wr W w2 : World} {v : Value} {xs : List Value} {acc e : Sur} {n d : Int} {A1 : Option Addr}
    (hB : Below B w wr) (hown : wr.ownsRow base E 3 v acc.len xs) (hrow : TRow (Low X B) wr acc xs) (se : SSl (Low X B) wr e A1 d1) (in_ : I64 n) (id_ : I64 d) (hBW : Below wr.heap.size wr W)
    (hown1 : w2.ownsRow base E 3 (.slice (some ⟨gg, 0, none⟩) (acc.len + 1) cap) (acc.len + 1) (xs ++ [.slice A1 e.len d1, .int .i64 n, .int .i64 d]))
    (hgrow : W.grownBy w2 v.ownBlock) (hb : B ≤ base) (hwb : B ≤ wr.heap.size) (ho : B ≤ ob) (hob : ob < base) :
    Below B w (w2.setCell ⟨ob, 0, none⟩ (.slice (some ⟨gg, 0, none⟩) (acc.len + 1) cap)) ∧
    (w2.setCell ⟨ob, 0, none⟩ (.slice (some ⟨gg, 0, none⟩) (acc.len + 1) cap)).ownsRow base E 3 (.slice (some ⟨gg, 0, none⟩) (acc.len + 1) cap) (acc.app (.cons e n d .nil)).len (xs ++ [.slice A1 e.len d1, .int .i64 n, .int .i64 d]) ∧
    TRow (Low X B) (w2.setCell ⟨ob, 0, none⟩ (.slice (some ⟨gg, 0, none⟩) (acc.len + 1) cap)) (acc.app (.cons e n d .nil)) (xs ++ [.slice A1 e.len d1, .int .i64 n, .int .i64 d]) ∧
    (∀ g t cs, g < base → g ≠ ob → Blk wr g t cs → Blk (w2.setCell ⟨ob, 0, none⟩ (.slice (some ⟨gg, 0, none⟩) (acc.len + 1) cap)) g t cs) ∧
    (∀ t u, Blk wr ob t #[u] → Blk (w2.setCell ⟨ob, 0, none⟩ (.slice (some ⟨gg, 0, none⟩) (acc.len + 1) cap)) ob t #[.slice (some ⟨gg, 0, none⟩) (acc.len + 1) cap]) := by
  have hbel : Below B w w2 := (hB.trans (hBW.mono hwb)).grown hgrow (Nat.le_trans hwb hBW.size) (fun g hg => by have := hown.lt g hg; omega)
  have hbel2 := hbel.setCell (p := ⟨ob, 0, none⟩) ho (.slice (some ⟨gg, 0, none⟩) (acc.len + 1) cap)
  have hk : ∀ g t cs, g < base → Blk wr g t cs → Blk w2 g t cs := fun g t cs hg h => (h.call hBW).grown hgrow (fun e => by have := hown.lt g e.symm; omega)
  refine ⟨hbel2, ?_, ?_, ?_, ?_⟩
  · rw [Sur.len_snoc]
    exact own_setCell hown1 (own_ne hown1 (.inl hob)) _
  · exact TRow.snoc (se.lowTo hB hbel2) in_ id_ (hrow.lowTo hB hbel2)
  · intro g t cs hg hne h
    exact (hk g t cs hg h).far hne _
  · intro t u h
    exact (hk ob t _ hob h).set_ 0 _

end Go.Proofs.YtonlfnbjbmgegaaGreat

namespace Go.Proofs.YtonlfnbjbmgegaaGreat
open Go.RowKit
set_option linter.unusedSimpArgs false
set_option linter.unusedVariables false

set_option maxHeartbeats 400000 in
theorem l1In_any (a lo hi : Int) (w : World) :
    Calls Tryz.prog 92 #[.int .i64 a, .int .i64 lo, .int .i64 hi] w fun e w' => e = .returned (.bool (inB a lo hi)) ∧ w = w' := by
  by_cases h1 : lo ≤ a
  · by_cases h2 : a ≤ hi
    · have h : inB a lo hi = true := inB_true.2 ⟨h1, h2⟩
      have H := Lib.hid h; clear h
      go_enter Tryz.func92, Tryz.ntmps92
      go_wp2
      go_ret
      exact ⟨by rw [H.out]; rfl, rfl⟩
    · have h : inB a lo hi = false := inB_false.2 (by omega)
      have H := Lib.hid h; clear h
      go_enter Tryz.func92, Tryz.ntmps92
      go_wp2
      go_ret
      exact ⟨by rw [H.out]; rfl, rfl⟩
  · have h : inB a lo hi = false := inB_false.2 (by omega)
    have H := Lib.hid h; clear h
    go_enter Tryz.func92, Tryz.ntmps92
    go_wp2
    go_ret
    exact ⟨by rw [H.out]; rfl, rfl⟩

def mostI (a b : Int) : Int := if b < a then a else b
set_option maxHeartbeats 400000 in
theorem l1Most_any (a b : Int) (w : World) :
    Calls Tryz.prog 145 #[.int .i64 a, .int .i64 b] w fun e w' => e = .returned (.int .i64 (mostI a b)) ∧ w = w' := by
  by_cases h : b < a
  · have hn : mostI a b = a := if_pos h
    have H := Lib.hid hn; clear hn
    go_enter Tryz.func145, Tryz.ntmps145
    go_wp2
    go_ret
    exact ⟨by rw [H.out]; rfl, rfl⟩
  · have hn : mostI a b = b := if_neg h
    have H := Lib.hid hn; clear hn
    go_enter Tryz.func145, Tryz.ntmps145
    go_wp2
    go_ret
    exact ⟨by rw [H.out]; rfl, rfl⟩

set_option maxHeartbeats 400000 in
theorem l1Abs_any (a : Int) (h1 : -9223372036854775808 < a) (h2 : a ≤ 9223372036854775807) (w : World) :
    Calls Tryz.prog 130 #[.int .i64 a] w fun e w' => e = .returned (.int .i64 (a.natAbs : Int)) ∧ w = w' := by
  have hn : mostI a (-a) = (a.natAbs : Int) := by unfold mostI; split <;> omega
  have H := Lib.hid hn; clear hn
  go_enter Tryz.func130, Tryz.ntmps130
  go_wp2_with (go_at_call 145; refine (l1Most_any _ _ _).mono ?_; rintro e w' ⟨rfl, rfl⟩)
  go_ret
  exact ⟨by rw [H.out]; rfl, rfl⟩

set_option maxHeartbeats 400000 in
theorem shGcd_any (a b : Int) (ha : -9223372036854775808 < a) (ha' : a ≤ 9223372036854775807) (hb : -9223372036854775808 < b) (hb' : b ≤ 9223372036854775807) (w : World) :
    Calls Tryz.prog 112 #[.int .i64 a, .int .i64 b] w fun e w' => e = .returned (.int .i64 (Int.gcd a b : Int)) ∧ Below w.heap.size w w' := by
  go_enter Tryz.func112, Tryz.ntmps112
  go_wp2
  go_loopw [0, 1] (fun s0 s1 wr => ∃ x y : Int, s0 = .int .i64 x ∧ s1 = .int .i64 y ∧ Hid (Int.gcd x y = Int.gcd a b) ∧ -9223372036854775808 < x ∧ x ≤ 9223372036854775807 ∧ -9223372036854775808 < y ∧ y ≤ 9223372036854775807 ∧ Below w.heap.size w wr) (fun _ s1 _ => (intOf s1).natAbs)
  case atStart => exact ⟨a, b, rfl, rfl, rfl, by omega, by omega, by omega, by omega, Below.refl _ _⟩
  case round =>
    obtain ⟨x, y, rfl, rfl, hg, hx1, hx2, hy1, hy2, hb⟩ := hrel
    by_cases h0 : y = 0
    · subst h0
      have hg' : Hid ((x.natAbs : Int) = (Int.gcd a b : Int)) := by have := hg.out; simp only [Int.gcd_zero_right] at this; exact congrArg Int.ofNat this
      clear hg
      go_wp2_with (go_at_call 130; refine (l1Abs_any _ (by omega) (by omega) _).mono ?_; rintro e w' ⟨rfl, rfl⟩)
      go_ret
      exact ⟨by rw [← hg'.out]; rfl, hb⟩
    · have ht := tmod_lt x y h0
      have h00 : (y == 0) = false := by simpa using h0
      have hs : Hid (Int.gcd y (x.tmod y) = Int.gcd a b) := (gcd_step x y).trans hg.out
      clear hg
      have hw : IntKind.i64.wrap (x.tmod y) = x.tmod y := IntWalk.i64_in _ (by omega)
      go_wp2
      go_quiet (fail)
      go_wp2
      exact ⟨⟨y, _, rfl, rfl, hs, by omega, by omega, by omega, by omega, Below.drewN hb nq⟩, by simpa [intOf] using ht⟩

set_option maxHeartbeats 400000 in
theorem shGood_any (n d : Int) (w : World) :
    Calls Tryz.prog 115 #[.agg #[.int .i64 n, .int .i64 d]] w fun e w' => e = .returned (.bool (fracOk n d)) ∧ Below w.heap.size w w' := by
  cases h1 : inB d 1 1000000
  · have h : fracOk n d = false := by simp [fracOk, h1]
    have H := Lib.hid h; clear h
    go_enter Tryz.func115, Tryz.ntmps115
    go_wp2_with (go_at_call 92; refine (l1In_any _ _ _ _).mono ?_; rintro e w' ⟨rfl, rfl⟩)
    go_ret
    exact ⟨by rw [H.out]; rfl, (Below.refl _ _).alloc (Nat.le_refl _) _⟩
  · cases h2 : inB n (-1000000) 1000000
    · have h : fracOk n d = false := by simp [fracOk, h1, h2]
      have H := Lib.hid h; clear h
      go_enter Tryz.func115, Tryz.ntmps115
      go_wp2_with (go_at_call 92; refine (l1In_any _ _ _ _).mono ?_; rintro e w' ⟨rfl, rfl⟩)
      go_ret
      exact ⟨by rw [H.out]; rfl, (Below.refl _ _).alloc (Nat.le_refl _) _⟩
    · have b1 := inB_true.1 h1
      have b2 := inB_true.1 h2
      have h : fracOk n d = ((Int.gcd n d : Int) == 1) := by simp [fracOk, h1, h2]; rfl
      have H := Lib.hid h; clear h
      go_enter Tryz.func115, Tryz.ntmps115
      go_wp2_with (first | (go_at_call 92; refine (l1In_any _ _ _ _).mono ?_; rintro e w' ⟨rfl, rfl⟩) | (go_at_call 112; refine (shGcd_any _ _ (by omega) (by omega) (by omega) (by omega) _).mono ?_; rintro e w' ⟨rfl, hb⟩))
      go_ret
      exact ⟨by rw [H.out]; rfl, Below.call ((Below.refl _ _).alloc (Nat.le_refl _) _) (by simp) hb⟩

set_option maxHeartbeats 400000 in
theorem l1Sign_any (a : Int) (w : World) :
    Calls Tryz.prog 104 #[.int .i64 a] w fun e w' => e = .returned (.int .i64 (cmpI a 0)) ∧ w = w' := by
  by_cases h1 : a < 0
  · have h : cmpI a 0 = -1 := by simp [cmpI, h1]
    have H := Lib.hid h; clear h
    go_enter Tryz.func104, Tryz.ntmps104
    go_wp2
    go_ret
    exact ⟨by rw [H.out]; rfl, rfl⟩
  · by_cases h2 : 0 < a
    · have h : cmpI a 0 = 1 := by simp [cmpI, h1, h2]
      have H := Lib.hid h; clear h
      go_enter Tryz.func104, Tryz.ntmps104
      go_wp2
      go_ret
      exact ⟨by rw [H.out]; rfl, rfl⟩
    · have h : cmpI a 0 = 0 := by simp [cmpI, h1, h2]
      have H := Lib.hid h; clear h
      go_enter Tryz.func104, Tryz.ntmps104
      go_wp2
      go_ret
      exact ⟨by rw [H.out]; rfl, rfl⟩

theorem cmpF_sub (a b : Int) : cmpI (a - b) 0 = cmpI a b := by unfold cmpI; split <;> split <;> (try split) <;> (try split) <;> omega

set_option maxHeartbeats 400000 in
theorem shCmp_any (n d n' d' : Int) (h : FOk n d) (h' : FOk n' d') (w : World) :
    Calls Tryz.prog 105 #[.agg #[.int .i64 n, .int .i64 d], .agg #[.int .i64 n', .int .i64 d']] w fun e w' => e = .returned (.int .i64 (cmpF n d n' d')) ∧ Below w.heap.size w w' := by
  have h := fracOk_iff.1 h
  have h' := fracOk_iff.1 h'
  have m1 := mul_bd6 (a := n) (b := d') (by omega) (by omega)
  have m2 := mul_bd6 (a := n') (b := d) (by omega) (by omega)
  have hw1 : IntKind.i64.wrap (n * d') = n * d' := IntWalk.i64_in _ (by omega)
  have hw2 : IntKind.i64.wrap (n' * d) = n' * d := IntWalk.i64_in _ (by omega)
  have hw3 : IntKind.i64.wrap (n * d' - n' * d) = n * d' - n' * d := IntWalk.i64_in _ (by omega)
  have H := Lib.hid (show cmpI (n * d' - n' * d) 0 = cmpF n d n' d' from cmpF_sub _ _)
  go_enter Tryz.func105, Tryz.ntmps105
  go_wp2_with (go_at_call 104; refine (l1Sign_any _ _).mono ?_; rintro e w' ⟨rfl, rfl⟩)
  go_ret
  exact ⟨by rw [H.out]; rfl, by go_grown⟩

set_option maxHeartbeats 400000 in
theorem shInt_any (n : Int) (w : World) :
    Calls Tryz.prog 78 #[.int .i64 n] w fun e w' => e = .returned (.agg #[.int .i64 n, .int .i64 1]) ∧ Below w.heap.size w w' := by
  go_enter Tryz.func78, Tryz.ntmps78
  go_wp2
  refine bodyPost_ret (v := .agg #[.int .i64 n, .int .i64 1]) (by simp [results, Tryz.results78, go_sem]) rfl ?_
  exact ⟨rfl, by go_grown⟩

set_option maxHeartbeats 800000 in
theorem shMake_any (n d : Int) (hn : -4611686018427387904 ≤ n ∧ n ≤ 4611686018427387904) (hd : -4611686018427387904 ≤ d ∧ d ≤ 4611686018427387904) (h0 : d ≠ 0) (w : World) :
    Calls Tryz.prog 69 #[.int .i64 n, .int .i64 d] w fun e w' => e = .returned (.agg #[.int .i64 (mkN n d), .int .i64 (mkD n d)]) ∧ Below w.heap.size w w' := by
  obtain ⟨G, hGe⟩ : ∃ G, G = gsign n d := ⟨_, rfl⟩
  have g0 : G ≠ 0 := by rw [hGe]; exact gsign_ne (n := n) h0
  have a1 := natAbs_tdiv_le n G
  have a2 := natAbs_tdiv_le d G
  have hgle : (Int.gcd n d : Int) ≤ 4611686018427387904 := by
    have h1 := Int.gcd_le_natAbs_right n h0
    omega
  have hg0 : (0 : Int) < (Int.gcd n d : Int) := by have := Int.gcd_pos_of_ne_zero_right n h0; omega
  have w1 : IntKind.i64.wrap (n.tdiv G) = n.tdiv G := IntWalk.i64_in _ (by omega)
  have w2 : IntKind.i64.wrap (d.tdiv G) = d.tdiv G := IntWalk.i64_in _ (by omega)
  have H := Lib.hid (show mkN n d = n.tdiv G ∧ mkD n d = d.tdiv G by simp only [mkN, mkD, ← hGe, and_self])
  have g1 : (G == 0) = false := beq_eq_false_iff_ne.2 g0
  have hcase : (d < 0 ∧ -(Int.gcd n d : Int) = G) ∨ (¬ d < 0 ∧ (Int.gcd n d : Int) = G) := by
    by_cases hs : d < 0
    · exact .inl ⟨hs, by simp [hGe, gsign, hs]⟩
    · exact .inr ⟨hs, by simp [hGe, gsign, hs]⟩
  clear h0 hGe
  rcases hcase with ⟨hs, hG⟩ | ⟨hs, hG⟩
  all_goals
    have HG := Lib.hid hG
    clear hG
    go_enter Tryz.func69, Tryz.ntmps69
    go_wp2_with (go_at_call 112; refine (shGcd_any _ _ (by omega) (by omega) (by omega) (by omega) _).mono ?_; rintro e w' ⟨rfl, hb⟩)
    have k1 := (Blk.new w _ _).call hb
    have hz0 := k1.lt
    obtain ⟨c0, c1, cf0, cf1⟩ := k1.c2
    have hw1 : Below w.heap.size w w' := Below.call (by go_grown) (by go_size) hb
    rw [HG.out]
    go_region
    all_goals
      go_wp2
      refine bodyPost_ret (v := .agg #[.int .i64 (n.tdiv G), .int .i64 (d.tdiv G)]) (by simp [results, Tryz.results69, go_sem, c0, c1]) rfl ?_
      exact ⟨by rw [H.out.1, H.out.2], by go_grown⟩

/-- what a sum and a product of fractions are in lowest terms -/
def adN (n d n' d' : Int) : Int := mkN (n * d' + n' * d) (d * d')
def adD (n d n' d' : Int) : Int := mkD (n * d' + n' * d) (d * d')
def muN (n d n' d' : Int) : Int := mkN (n * n') (d * d')
def muD (n d n' d' : Int) : Int := mkD (n * n') (d * d')

theorem mul_ne0 {d d' : Int} (h : 1 ≤ d) (h' : 1 ≤ d') : d * d' ≠ 0 := by
  have : 0 < d * d' := Int.mul_pos (by omega) (by omega)
  omega

set_option maxHeartbeats 400000 in
theorem shAdd_any (n d n' d' : Int) (h : FOk n d) (h' : FOk n' d') (w : World) :
    Calls Tryz.prog 114 #[.agg #[.int .i64 n, .int .i64 d], .agg #[.int .i64 n', .int .i64 d']] w fun e w' => e = .returned (.agg #[.int .i64 (adN n d n' d'), .int .i64 (adD n d n' d')]) ∧ Below w.heap.size w w' := by
  have h := fracOk_iff.1 h
  have h' := fracOk_iff.1 h'
  have hne := mul_ne0 h.1 h'.1
  have bnd1 := mul_bd6 (a := n) (b := d') (by omega) (by omega)
  have wnd1 : IntKind.i64.wrap (n * d') = n * d' := IntWalk.i64_in _ (by omega)
  have bn1d := mul_bd6 (a := n') (b := d) (by omega) (by omega)
  have wn1d : IntKind.i64.wrap (n' * d) = n' * d := IntWalk.i64_in _ (by omega)
  have bdd1 := mul_bd6 (a := d) (b := d') (by omega) (by omega)
  have wdd1 : IntKind.i64.wrap (d * d') = d * d' := IntWalk.i64_in _ (by omega)
  have s1 : IntKind.i64.wrap (n * d' + n' * d) = n * d' + n' * d := IntWalk.i64_in _ (by omega)
  have HNE := Lib.hid hne
  clear hne
  have k0 := (((Blk.new w 68 #[.int .i64 n, .int .i64 d]).alloc (.cells #[.int .i64 n', .int .i64 d'] 68)).alloc (.cells #[.int .i64 0, .int .i64 0] 68))
  have k1 := ((Blk.new' (g := w.heap.size + 1) (w.alloc (.cells #[.int .i64 n, .int .i64 d] 68)) 68 #[.int .i64 n', .int .i64 d'] (by simp)).alloc (.cells #[.int .i64 0, .int .i64 0] 68))
  have k2 := (Blk.new' (g := w.heap.size + 1 + 1) ((w.alloc (.cells #[.int .i64 n, .int .i64 d] 68)).alloc (.cells #[.int .i64 n', .int .i64 d'] 68)) 68 #[.int .i64 0, .int .i64 0] (by simp))
  have hB0 : Below w.heap.size w (((w.alloc (.cells #[.int .i64 n, .int .i64 d] 68)).alloc (.cells #[.int .i64 n', .int .i64 d'] 68)).alloc (.cells #[.int .i64 0, .int .i64 0] 68)) := by go_grown
  go_enter Tryz.func114, Tryz.ntmps114
  go_wp2_with fail
  refine (shMake_any _ _ (by omega) (by omega) HNE.out _).mono ?_
  rintro e1 w1 ⟨rfl, hb1⟩
  have hB1 := Below.call hB0 (by go_size) hb1
  obtain ⟨q0, q1, _, _⟩ := (k2.call hb1).c2
  go_wp2
  refine bodyPost_ret (v := .agg #[.int .i64 (adN n d n' d'), .int .i64 (adD n d n' d')]) (by simp [results, Tryz.results114, go_sem, q0, q1, adN, adD]) rfl ?_
  exact ⟨rfl, by go_grown⟩

set_option maxHeartbeats 400000 in
theorem shMul_any (n d n' d' : Int) (h : FOk n d) (h' : FOk n' d') (w : World) :
    Calls Tryz.prog 116 #[.agg #[.int .i64 n, .int .i64 d], .agg #[.int .i64 n', .int .i64 d']] w fun e w' => e = .returned (.agg #[.int .i64 (muN n d n' d'), .int .i64 (muD n d n' d')]) ∧ Below w.heap.size w w' := by
  have h := fracOk_iff.1 h
  have h' := fracOk_iff.1 h'
  have hne := mul_ne0 h.1 h'.1
  have bnd1 := mul_bd6 (a := n) (b := n') (by omega) (by omega)
  have wnd1 : IntKind.i64.wrap (n * n') = n * n' := IntWalk.i64_in _ (by omega)
  have bdd1 := mul_bd6 (a := d) (b := d') (by omega) (by omega)
  have wdd1 : IntKind.i64.wrap (d * d') = d * d' := IntWalk.i64_in _ (by omega)
  have HNE := Lib.hid hne
  clear hne
  have k0 := (((Blk.new w 68 #[.int .i64 n, .int .i64 d]).alloc (.cells #[.int .i64 n', .int .i64 d'] 68)).alloc (.cells #[.int .i64 0, .int .i64 0] 68))
  have k1 := ((Blk.new' (g := w.heap.size + 1) (w.alloc (.cells #[.int .i64 n, .int .i64 d] 68)) 68 #[.int .i64 n', .int .i64 d'] (by simp)).alloc (.cells #[.int .i64 0, .int .i64 0] 68))
  have k2 := (Blk.new' (g := w.heap.size + 1 + 1) ((w.alloc (.cells #[.int .i64 n, .int .i64 d] 68)).alloc (.cells #[.int .i64 n', .int .i64 d'] 68)) 68 #[.int .i64 0, .int .i64 0] (by simp))
  have hB0 : Below w.heap.size w (((w.alloc (.cells #[.int .i64 n, .int .i64 d] 68)).alloc (.cells #[.int .i64 n', .int .i64 d'] 68)).alloc (.cells #[.int .i64 0, .int .i64 0] 68)) := by go_grown
  go_enter Tryz.func116, Tryz.ntmps116
  go_wp2_with fail
  refine (shMake_any _ _ (by omega) (by omega) HNE.out _).mono ?_
  rintro e1 w1 ⟨rfl, hb1⟩
  have hB1 := Below.call hB0 (by go_size) hb1
  obtain ⟨q0, q1, _, _⟩ := (k2.call hb1).c2
  go_wp2
  refine bodyPost_ret (v := .agg #[.int .i64 (muN n d n' d'), .int .i64 (muD n d n' d')]) (by simp [results, Tryz.results116, go_sem, q0, q1, muN, muD]) rfl ?_
  exact ⟨rfl, by go_grown⟩

/-- the sum and the product as the program makes them -/
theorem fAdd_sh {n d n' d' : Int} (h : FOk n d) (h' : FOk n' d') : fAdd n d n' d' = if fracOk (adN n d n' d') (adD n d n' d') = true then some (adN n d n' d', adD n d n' d') else none := by
  have a := (fracOk_iff.1 h).1
  have b := (fracOk_iff.1 h').1
  unfold fAdd two made
  rw [if_pos ⟨h, h'⟩, if_neg (mul_ne0 a b)]; rfl
theorem fMul_sh {n d n' d' : Int} (h : FOk n d) (h' : FOk n' d') : fMultiply n d n' d' = if fracOk (muN n d n' d') (muD n d n' d') = true then some (muN n d n' d', muD n d n' d') else none := by
  have a := (fracOk_iff.1 h).1
  have b := (fracOk_iff.1 h').1
  unfold fMultiply two made
  rw [if_pos ⟨h, h'⟩, if_neg (mul_ne0 a b)]; rfl
end Go.Proofs.YtonlfnbjbmgegaaGreat
