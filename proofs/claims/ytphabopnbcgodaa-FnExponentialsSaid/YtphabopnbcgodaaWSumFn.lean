/-
  Sums: plain.
-/
import Derived.Test.YtphabopnbcgodaaWOkFn
import Derived.Test.YtphabopnbcgodaaWFrac3
import Derived.Test.YtphabopnbcgodaaWTree
namespace Go.Proofs.Ytphabopnbcgodaa
open Go.RowKit
set_option linter.unusedSimpArgs false
set_option linter.unusedVariables false

/-- the sum of two numbers; none where a fraction is too great -/
def sumP : Sur → Sur → Option Sur
  | .nil, y => some y
  | .cons e n d r, .nil => some (.cons e n d r)
  | .cons e n d r, .cons e' n' d' r' =>
    if order e e' = 1 then (sumP r (.cons e' n' d' r')).map (.cons e n d ·)
    else if order e e' = -1 then (sumP (.cons e n d r) r').map (.cons e' n' d' ·)
    else match fAdd n d n' d' with
      | none => none
      | some (p, q) => (sumP r r').map fun z => if p = 0 then z else .cons e p q z
  termination_by x y => x.len + y.len
  decreasing_by all_goals simp only [Sur.len]; omega

theorem sumP_nil (x : Sur) : sumP x .nil = some x := by cases x <;> simp [sumP]
/-- the first number's term comes next -/
theorem sumP_left {e : Sur} {n d : Int} {r y : Sur} (h : y = .nil ∨ ∃ e' n' d' r', y = .cons e' n' d' r' ∧ order e e' = 1) : sumP (.cons e n d r) y = (sumP r y).map (.cons e n d ·) := by
  rcases h with rfl | ⟨e', n', d', r', rfl, h⟩
  · rw [sumP_nil, sumP_nil]; rfl
  · rw [sumP, if_pos h]
theorem sumP_right {e : Sur} {n d : Int} {r x : Sur} (h : x = .nil ∨ ∃ e' n' d' r', x = .cons e' n' d' r' ∧ order e' e = -1) : sumP x (.cons e n d r) = (sumP x r).map (.cons e n d ·) := by
  rcases h with rfl | ⟨e', n', d', r', rfl, h⟩
  · simp [sumP]
  · rw [sumP, if_neg (by omega), if_pos h]
theorem sumP_both {e e' : Sur} {n d n' d' : Int} {r r' : Sur} (h : order e e' = 0) :
    sumP (.cons e n d r) (.cons e' n' d' r') = (match fAdd n d n' d' with | none => none | some (p, q) => (sumP r r').map fun z => if p = 0 then z else .cons e p q z) := by
  rw [sumP, if_neg (by omega), if_neg (by omega)]

/-- what was collected, and what is to come -/
def SumAt (x y : Sur) (i k : Nat) (acc : Sur) : Prop := sumP x y = (sumP (x.drop i) (y.drop k)).map (acc.app ·)

theorem SumAt.left {x y : Sur} {i k : Nat} {acc e : Sur} {n d : Int} (h : SumAt x y i k acc) (hx : x.drop i = .cons e n d (x.drop (i + 1)))
    (hy : y.drop k = .nil ∨ ∃ e' n' d' r', y.drop k = .cons e' n' d' r' ∧ order e e' = 1) : SumAt x y (i + 1) k (acc.app (.cons e n d .nil)) := by
  unfold SumAt at *
  rw [h, hx, sumP_left hy, Option.map_map]
  congr 1
  funext z
  simp [Sur.app_assoc, Sur.app]
theorem SumAt.right {x y : Sur} {i k : Nat} {acc e : Sur} {n d : Int} (h : SumAt x y i k acc) (hy : y.drop k = .cons e n d (y.drop (k + 1)))
    (hx : x.drop i = .nil ∨ ∃ e' n' d' r', x.drop i = .cons e' n' d' r' ∧ order e' e = -1) : SumAt x y i (k + 1) (acc.app (.cons e n d .nil)) := by
  unfold SumAt at *
  rw [h, hy, sumP_right hx, Option.map_map]
  congr 1
  funext z
  simp [Sur.app_assoc, Sur.app]
theorem SumAt.fail {x y : Sur} {i k : Nat} {acc e e' : Sur} {n d n' d' : Int} (h : SumAt x y i k acc) (hx : x.drop i = .cons e n d (x.drop (i + 1))) (hy : y.drop k = .cons e' n' d' (y.drop (k + 1)))
    (ho : order e e' = 0) (hf : fAdd n d n' d' = none) : sumP x y = none := by
  unfold SumAt at h
  rw [h, hx, hy, sumP_both ho, hf]; rfl
theorem SumAt.both {x y : Sur} {i k : Nat} {acc e e' : Sur} {n d n' d' p q : Int} (h : SumAt x y i k acc) (hx : x.drop i = .cons e n d (x.drop (i + 1))) (hy : y.drop k = .cons e' n' d' (y.drop (k + 1)))
    (ho : order e e' = 0) (hf : fAdd n d n' d' = some (p, q)) : SumAt x y (i + 1) (k + 1) (if p = 0 then acc else acc.app (.cons e p q .nil)) := by
  unfold SumAt at *
  rw [h, hx, hy, sumP_both ho, hf]
  simp only [Option.map_map]
  congr 1
  funext z
  by_cases hp : p = 0
  · simp [hp]
  · simp [hp, Sur.app_assoc, Sur.app]
theorem SumAt.done {x y : Sur} {i k : Nat} {acc : Sur} (h : SumAt x y i k acc) (hi : x.len ≤ i) (hk : y.len ≤ k) : sumP x y = some acc := by
  unfold SumAt at h
  rw [h, x.drop_of_ge i hi, y.drop_of_ge k hk]
  simp [sumP, Sur.app_nil]

/-- blocks that may hold none of what is old: X, and all from B on -/
def Low (X : Nat → Prop) (B : Nat) : Nat → Prop := fun k => X k ∨ B ≤ k
theorem SSl.low {X : Nat → Prop} {w : World} {e : Sur} {A : Option Addr} {c : Nat} (h : SSl X w e A c) : SSl (Low X w.heap.size) w e A c :=
  h.more fun k hk hlt => by rcases hk with h | h; exact h; omega
theorem SSl.lowTo {X : Nat → Prop} {B : Nat} {w w1 w2 : World} {e : Sur} {A : Option Addr} {c : Nat} (h : SSl (Low X B) w1 e A c) (h1 : Below B w w1) (h2 : Below B w w2) : SSl (Low X B) w2 e A c :=
  h.keep fun k hx _ => ⟨hx, by have hk : k < B := by rcases Nat.lt_or_ge k B with h | h; exact h; exact absurd (.inr h) hx
                               rw [h2.block k hk, h1.block k hk]⟩
theorem TRow.lowTo {X : Nat → Prop} {B : Nat} {w w1 w2 : World} {e : Sur} {xs : List Value} (h : TRow (Low X B) w1 e xs) (h1 : Below B w w1) (h2 : Below B w w2) : TRow (Low X B) w2 e xs :=
  h.keep fun k hx _ => ⟨hx, by have hk : k < B := by rcases Nat.lt_or_ge k B with h | h; exact h; exact absurd (.inr h) hx
                               rw [h2.block k hk, h1.block k hk]⟩
theorem SSl.unlow {X : Nat → Prop} {B : Nat} {w : World} {e : Sur} {A : Option Addr} {c : Nat} (h : SSl (Low X B) w e A c) : SSl X w e A c := h.more fun _ hk _ => .inl hk
theorem TRow.unlow {X : Nat → Prop} {B : Nat} {w : World} {e : Sur} {xs : List Value} (h : TRow (Low X B) w e xs) : TRow X w e xs := h.keep fun _ hx _ => ⟨fun h => hx (.inl h), rfl⟩

theorem made_ok {n d p q : Int} (h : made n d = some (p, q)) : fracOk p q = true := by
  unfold made at h
  split at h
  · cases h
  · split at h
    · rename_i hf
      simp only [Option.some.injEq, Prod.mk.injEq] at h
      obtain ⟨rfl, rfl⟩ := h
      exact hf
    · cases h
theorem two_ok {a b a' b' n d p q : Int} (h : two a b a' b' n d = some (p, q)) : fracOk p q = true := by
  unfold two at h
  split at h
  · exact made_ok h
  · cases h
theorem fracOk_I64 {p q : Int} (h : fracOk p q = true) : I64 p ∧ I64 q := by
  have := fracOk_iff.1 h
  unfold I64; omega
theorem fAdd_I64 {a b a' b' p q : Int} (h : fAdd a b a' b' = some (p, q)) : I64 p ∧ I64 q := fracOk_I64 (two_ok h)

/-- an old cell, in any later world -/
theorem old_cell {B : Nat} {w wr W : World} (h1 : Below B w wr) (h2 : Below B w W) {p : Addr} {u : Value} (hp : p.block < B) (h : wr.cell? p = some u) : W.cell? p = some u :=
  (h2.cell hp).trans ((h1.cell hp).symm.trans h)
theorem low_lt {X : Nat → Prop} {B b : Nat} (h : ¬ Low X B b) : b < B := by
  rcases Nat.lt_or_ge b B with h1 | h1
  · exact h1
  · exact absurd (.inr h1) h
theorem own_thru {w W w' : World} {base : Nat} {e : TypeId} {size : Nat} {v : Value} {n : Nat} {xs : List Value} (h : w.ownsRow base e size v n xs) (hW : Below w.heap.size w W) (hb : Below W.heap.size W w') : w'.ownsRow base e size v n xs :=
  own_below h (hW.trans (hb.mono hW.size))
theorem two_sets {w : World} {g g' : Nat} {t : TypeId} {cs : Array Value} (h : Blk w g t cs) (hne : g ≠ g') (a b : Value) : Blk ((w.setCell ⟨g', 0, none⟩ a).setCell ⟨g', 1, none⟩ b) g t cs := (h.far hne _).far hne _

/-- a cell behind a call, whatever was laid before it -/
theorem cell_call {w W w1 : World} {p : Addr} {u : Value} (hW : Below w.heap.size w W) (hb : Below W.heap.size W w1) (h : w.cell? p = some u) : w1.cell? p = some u :=
  ((hW.trans (hb.mono hW.size)).cell (World.block_lt_of_cell? w p h)).trans h
theorem Blk.thru {w W w1 : World} {g : Nat} {t : TypeId} {cs : Array Value} (h : Blk w g t cs) (hW : Below w.heap.size w W) (hb : Below W.heap.size W w1) : Blk w1 g t cs := h.call (hW.trans (hb.mono hW.size))

theorem Sur.len_snoc (x e : Sur) (n d : Int) : (x.app (.cons e n d .nil)).len = x.len + 1 := by simp [Sur.len_app, Sur.len]

/-- behind 'out = append(out, term)': the row is one term longer, all else is as it was -/
theorem low_step {X : Nat → Prop} {B base E ob gg cap d1 : Nat} {w wr W w2 : World} {v : Value} {xs : List Value} {acc e : Sur} {n d : Int} {A1 : Option Addr}
    (hB : Below B w wr) (hown : wr.ownsRow base E 3 v acc.len xs) (hrow : TRow (Low X B) wr acc xs) (se : SSl (Low X B) wr e A1 d1) (in_ : I64 n) (id_ : I64 d) (hBW : Below wr.heap.size wr W)
    (hown1 : w2.ownsRow base E 3 (.slice (some ⟨gg, 0, none⟩) (acc.len + 1) cap) (acc.len + 1) (xs ++ [.slice A1 e.len d1, .int .i64 n, .int .i64 d]))
    (hgrow : W.grownBy w2 v.ownBlock) (hb : B ≤ base) (hwb : B ≤ wr.heap.size) (ho : B ≤ ob) (hob : ob < base) :
    Below B w (w2.setCell ⟨ob, 0, none⟩ (.slice (some ⟨gg, 0, none⟩) (acc.len + 1) cap)) ∧
    (w2.setCell ⟨ob, 0, none⟩ (.slice (some ⟨gg, 0, none⟩) (acc.len + 1) cap)).ownsRow base E 3 (.slice (some ⟨gg, 0, none⟩) (acc.len + 1) cap) (acc.app (.cons e n d .nil)).len (xs ++ [.slice A1 e.len d1, .int .i64 n, .int .i64 d]) ∧
    TRow (Low X B) (w2.setCell ⟨ob, 0, none⟩ (.slice (some ⟨gg, 0, none⟩) (acc.len + 1) cap)) (acc.app (.cons e n d .nil)) (xs ++ [.slice A1 e.len d1, .int .i64 n, .int .i64 d]) ∧
    (∀ g t cs, g < base → g ≠ ob → Blk wr g t cs → Blk (w2.setCell ⟨ob, 0, none⟩ (.slice (some ⟨gg, 0, none⟩) (acc.len + 1) cap)) g t cs) ∧
    (∀ t u, Blk wr ob t #[u] → Blk (w2.setCell ⟨ob, 0, none⟩ (.slice (some ⟨gg, 0, none⟩) (acc.len + 1) cap)) ob t #[.slice (some ⟨gg, 0, none⟩) (acc.len + 1) cap]) := by
  have hbel : Below B w w2 := (hB.trans (hBW.mono hwb)).grown hgrow (Nat.le_trans hwb hBW.size) (fun g hg => by have := hown.lt g hg; omega)
  have hbel2 := hbel.setCell (p := ⟨ob, 0, none⟩) ho (.slice (some ⟨gg, 0, none⟩) (acc.len + 1) cap)
  have hk : ∀ g t cs, g < base → Blk wr g t cs → Blk w2 g t cs := fun g t cs hg h => (h.call hBW).grown hgrow (fun e => by have := hown.lt g e.symm; omega)
  refine ⟨hbel2, ?_, ?_, ?_, ?_⟩
  · rw [Sur.len_snoc]
    exact own_setCell hown1 (own_ne hown1 (.inl hob)) _
  · exact TRow.snoc (se.lowTo hB hbel2) in_ id_ (hrow.lowTo hB hbel2)
  · intro g t cs hg hne h
    exact (hk g t cs hg h).far hne _
  · intro t u h
    exact (hk ob t _ hob h).set_ 0 _

end Go.Proofs.Ytphabopnbcgodaa
