/-
  What functions on surreal numbers return.
-/
import Derived.Test.YtphabopnbcgodaaWTree
namespace Go.Proofs.Ytphabopnbcgodaa
open Go.RowKit
set_option linter.unusedSimpArgs false
set_option linter.unusedVariables false

/-- a number that may share memory, and whether there is one -/
def RetSh (X : Nat → Prop) (w : World) (o : Option Sur) (e : Ending) (w' : World) : Prop :=
  ∃ A c, e = .returned (.tuple #[.agg #[.slice A (o.getD .nil).len c], .bool o.isSome]) ∧ SSl X w' (o.getD .nil) A c ∧ Below w.heap.size w w'
/-- a number that may share memory -/
def RetS (X : Nat → Prop) (w : World) (x : Sur) (e : Ending) (w' : World) : Prop :=
  ∃ A c, e = .returned (.agg #[.slice A x.len c]) ∧ SSl X w' x A c ∧ Below w.heap.size w w'
/-- a number of its own, and whether there is one -/
def RetFreshB (w : World) (o : Option Sur) (e : Ending) (w' : World) : Prop :=
  ∃ A c, e = .returned (.tuple #[.agg #[.slice A (o.getD .nil).len c], .bool o.isSome]) ∧ SFresh w.heap.size w' (o.getD .nil) A c ∧ Below w.heap.size w w'

/-- X, and the call's own n blocks from B on -/
def Loc (X : Nat → Prop) (B n : Nat) : Nat → Prop := fun k => X k ∨ (B ≤ k ∧ k < B + n)
theorem SSl.loc {X : Nat → Prop} {w : World} {x : Sur} {A : Option Addr} {c : Nat} (h : SSl X w x A c) (n : Nat) : SSl (Loc X w.heap.size n) w x A c :=
  h.more fun k hk hlt => by rcases hk with h | h; exact h; omega
theorem SSl.unloc {X : Nat → Prop} {B n : Nat} {w : World} {x : Sur} {A : Option Addr} {c : Nat} (h : SSl (Loc X B n) w x A c) : SSl X w x A c := h.more fun _ hk _ => .inl hk
theorem loc_lt {X : Nat → Prop} {B n H : Nat} (hX : ∀ k, X k → k < B) (h : B + n ≤ H) : ∀ k, Loc X B n k → k < H := fun k hk => by
  rcases hk with h1 | h1
  · have := hX k h1; omega
  · omega
/-- a store into a block of the call's own -/
theorem SSl.setLoc {X : Nat → Prop} {B n : Nat} {w : World} {x : Sur} {A : Option Addr} {c : Nat} (h : SSl (Loc X B n) w x A c) {p : Addr} (h1 : B ≤ p.block) (h2 : p.block < B + n) (u : Value) : SSl X (w.setCell p u) x A c :=
  (h.far (.inr ⟨h1, h2⟩) u).unloc

/-- one term in a block of its own -/
theorem SSl.one {X : Nat → Prop} {w : World} {x : Sur} {A : Option Addr} {c g E : Nat} {n d : Int} (h : Blk w g E #[.slice A x.len c, .int .i64 n, .int .i64 d]) (sx : SSl X w x A c) (hX : ¬ X g) (in_ : I64 n) (id_ : I64 d) :
    SSl X w (.cons x n d .nil) (some ⟨g, 0, none⟩) 1 :=
  ⟨by simp [Sur.len], by simp [maxLen], rfl, hX, ⟨A, c, h.cell 0, sx.1, sx.2.1, sx.2.2⟩, h.cell 1, h.cell 2, in_, id_, trivial⟩

end Go.Proofs.Ytphabopnbcgodaa
