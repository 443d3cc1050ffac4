/-
  What is held at a world is found by classes: each fact stands at the world where it arose, and is carried to later worlds when it is asked for.
  More words for the classes: marks of a caller's block; trees apart from all that was.
  Appends for the classes: a row that a call owns, and what its cells read as.
  The cursor of the draws: some numbers come, and its block alone is written.
-/
import Derived.Test.YtonlfnbjbmgegaaGreatBA
import Derived.Test.YtonlfnbjbmgegaaGreatWClone
import Derived.Test.YtonlfnbjbmgegaaGreatBC
import Derived.Deep.AppendLies
namespace Go.Proofs.YtonlfnbjbmgegaaGreat
open Go.RowKit
set_option linter.unusedSimpArgs false
set_option linter.unusedVariables false

/-- w1 is the world behind a call (or an allocation) at W -/
class Bel (W : outParam World) (w1 : World) : Prop where h : Below W.heap.size W w1
class Has (W : World) (g : Nat) (o : outParam Obj) : Prop where h : W.heap[g]? = some o
/-- the block that an allocation at W made -/
class Born (g : Nat) (W : outParam World) : Prop where h : g = W.heap.size
/-- an allocation at W leads to w1 -/
class Nx (W : World) (w1 : outParam World) : Prop where h : W.heap.size < w1.heap.size
/-- W comes behind v (told) -/
class Aft (v : outParam World) (W : World) : Prop where h : v.heap.size ≤ W.heap.size
class LeB (w W : World) : Prop where h : w.heap.size ≤ W.heap.size
class LtB (g : Nat) (W : World) : Prop where h : g < W.heap.size
class GeB (w : World) (g : Nat) : Prop where h : w.heap.size ≤ g
class NeB (a b : Nat) : Prop where h : a ≠ b
class XOk (X : Nat → Prop) (g : Nat) : Prop where h : X g
/-- all that w held is still there -/
class Ext (w W : World) : Prop where h : Below w.heap.size w W
/-- the tree at A can be read; none of its blocks is one of X -/
class Tr (W : World) (A : Option Addr) (X : outParam (Nat → Prop)) (x : outParam Sur) (c : outParam Nat) : Prop where h : SSl X W x A c
/-- the tree at A has blocks of its own, made from U on, there at v -/
class Fs (W : World) (A : Option Addr) (U v : outParam World) (x : outParam Sur) (c : outParam Nat) : Prop where
  h : ∃ bs, STree W x A c bs ∧ bs.Nodup ∧ ∀ k ∈ bs, U.heap.size ≤ k ∧ k < v.heap.size

theorem has_lt {w : World} {g : Nat} {o : Obj} (h : w.heap[g]? = some o) : g < w.heap.size := (Array.getElem?_eq_some_iff.1 h).1
def XV (v : World) (X : Nat → Prop) (k : Nat) : Prop := v.heap.size ≤ k ∨ X k
def XL (U : World) (k : Nat) : Prop := k < U.heap.size
def XE (b k : Nat) : Prop := k = b
def XN (k : Nat) : Prop := False
def XU (X Y : Nat → Prop) (k : Nat) : Prop := X k ∨ Y k

section
variable {w w1 W U v : World} {g g' i n : Nat} {o : Obj} {u : Value} {X Y : Nat → Prop} {A : Option Addr} {x : Sur} {c : Nat} {t : TypeId} {fr : Nat × Nat}
instance LeB.same : LeB w w := ⟨Nat.le_refl _⟩
instance LeB.bel [a : Bel W w1] [b : LeB w W] : LeB w w1 := ⟨Nat.le_trans b.h a.h.size⟩
instance LeB.set {p : Addr} [b : LeB w W] : LeB w (W.setCell p u) := ⟨by rw [World.size_setCell]; exact b.h⟩
instance LeB.drew [b : LeB w W] : LeB w W.drew := ⟨b.h⟩
instance LeB.drewN [b : LeB w W] : LeB w (W.drewN n) := ⟨b.h⟩
instance (priority := low) LeB.setl {p : Addr} [b : LeB w W] : LeB (w.setCell p u) W := ⟨by rw [World.size_setCell]; exact b.h⟩
instance (priority := low) LeB.drewl [b : LeB w W] : LeB w.drew W := ⟨b.h⟩
instance (priority := low) LeB.ext [b : Ext w W] : LeB w W := ⟨b.h.size⟩
instance (priority := low) LeB.aft [a : Aft v W] [b : LeB w v] : LeB w W := ⟨Nat.le_trans b.h a.h⟩
instance (priority := low) LtB.aft [a : Aft v W] [b : LtB g v] : LtB g W := ⟨Nat.lt_of_lt_of_le b.h a.h⟩
instance (priority := low) LtB.has [a : Has W g o] : LtB g W := ⟨has_lt a.h⟩
instance LtB.born {W0 : World} [a : Born g W0] [e : Nx W0 w1] [b : LeB w1 W] : LtB g W := ⟨by have := a.h; have := e.h; have := b.h; omega⟩
instance GeB.born [a : Born g W] [b : LeB w W] : GeB w g := ⟨by rw [a.h]; exact b.h⟩
instance NeB.l [a : Born g' W] [b : LtB g W] : NeB g g' := ⟨by have := a.h; have := b.h; omega⟩
instance NeB.r [a : Born g W] [b : LtB g' W] : NeB g g' := ⟨by have := a.h; have := b.h; omega⟩

instance Ext.same : Ext w w := ⟨Below.refl _ _⟩
instance Ext.bel [a : Bel W w1] [b : Ext w W] : Ext w w1 := ⟨b.h.trans (a.h.mono b.h.size)⟩
instance Ext.set {k : Option Nat} [b : Ext w W] [a : GeB w g] : Ext w (W.setCell ⟨g, i, k⟩ u) := ⟨b.h.setCell a.h _⟩
instance Ext.drew [b : Ext w W] : Ext w W.drew := ⟨b.h.drew⟩
instance Ext.drewN [b : Ext w W] : Ext w (W.drewN n) := ⟨Below.drewN b.h n⟩

instance Has.bel [a : Bel W w1] [b : Has W g o] : Has w1 g o := ⟨(a.h.block g (has_lt b.h)).trans b.h⟩
instance Has.far [a : NeB g g'] [b : Has W g o] : Has (W.setCell ⟨g', i, none⟩ u) g o := ⟨(Below.heap_setCell _ _ _ _ a.h).trans b.h⟩
instance Has.drew [b : Has W g o] : Has W.drew g o := ⟨b.h⟩
instance Has.drewN [b : Has W g o] : Has (W.drewN n) g o := ⟨b.h⟩
theorem Has.put {cs : Array Value} [b : Has W g (.cells cs t (0, 0))] : (W.setCell ⟨g, i, none⟩ u).heap[g]? = some (.cells (cs.setIfInBounds i u) t (0, 0)) := by
  have := b.h
  simp [World.setCell, Array.getElem?_modify, this]
instance Has.n11 {a0 : Value} [b : Has W g (.cells #[a0] t (0, 0))] : Has (W.setCell ⟨g, 0, none⟩ u) g (.cells #[u] t (0, 0)) := ⟨by simpa using Has.put (cs := #[a0]) (i := 0) (u := u) (b := b)⟩
instance Has.n21 {a0 a1 : Value} [b : Has W g (.cells #[a0, a1] t (0, 0))] : Has (W.setCell ⟨g, 0, none⟩ u) g (.cells #[u, a1] t (0, 0)) := ⟨by simpa using Has.put (cs := #[a0, a1]) (i := 0) (u := u) (b := b)⟩
instance Has.n22 {a0 a1 : Value} [b : Has W g (.cells #[a0, a1] t (0, 0))] : Has (W.setCell ⟨g, 1, none⟩ u) g (.cells #[a0, u] t (0, 0)) := ⟨by simpa using Has.put (cs := #[a0, a1]) (i := 1) (u := u) (b := b)⟩
instance Has.n31 {a0 a1 a2 : Value} [b : Has W g (.cells #[a0, a1, a2] t (0, 0))] : Has (W.setCell ⟨g, 0, none⟩ u) g (.cells #[u, a1, a2] t (0, 0)) := ⟨by simpa using Has.put (cs := #[a0, a1, a2]) (i := 0) (u := u) (b := b)⟩
instance Has.n32 {a0 a1 a2 : Value} [b : Has W g (.cells #[a0, a1, a2] t (0, 0))] : Has (W.setCell ⟨g, 1, none⟩ u) g (.cells #[a0, u, a2] t (0, 0)) := ⟨by simpa using Has.put (cs := #[a0, a1, a2]) (i := 1) (u := u) (b := b)⟩
instance Has.n33 {a0 a1 a2 : Value} [b : Has W g (.cells #[a0, a1, a2] t (0, 0))] : Has (W.setCell ⟨g, 2, none⟩ u) g (.cells #[a0, a1, u] t (0, 0)) := ⟨by simpa using Has.put (cs := #[a0, a1, a2]) (i := 2) (u := u) (b := b)⟩

theorem has_cell {cs : Array Value} [b : Has W g (.cells cs t fr)] : W.cell? ⟨g, i, none⟩ = cs[i]? := cell_of_row W g i cs t fr b.h
theorem has_frozen {cs : Array Value} [b : Has W g (.cells cs t (0, 0))] : W.frozen? ⟨g, i, none⟩ = false := by
  have := b.h
  simp [World.frozen?, this]

theorem has1 {a0 : Value} [b : Has W g (.cells #[a0] t fr)] : W.cell? ⟨g, 0, none⟩ = some a0 := cell_of_row W g 0 _ t fr b.h
theorem has2 {a0 a1 : Value} [b : Has W g (.cells #[a0, a1] t fr)] : W.cell? ⟨g, 0, none⟩ = some a0 ∧ W.cell? ⟨g, 1, none⟩ = some a1 := ⟨cell_of_row W g 0 _ t fr b.h, cell_of_row W g 1 _ t fr b.h⟩
theorem has3 {a0 a1 a2 : Value} [b : Has W g (.cells #[a0, a1, a2] t fr)] : W.cell? ⟨g, 0, none⟩ = some a0 ∧ W.cell? ⟨g, 1, none⟩ = some a1 ∧ W.cell? ⟨g, 2, none⟩ = some a2 := ⟨cell_of_row W g 0 _ t fr b.h, cell_of_row W g 1 _ t fr b.h, cell_of_row W g 2 _ t fr b.h⟩
/-- an allocation that has got no name -/
instance Born.here : Born W.heap.size W := ⟨rfl⟩
instance LeB.alloc [b : LeB w W] : LeB w (W.alloc o) := ⟨by rw [World.size_alloc]; have := b.h; omega⟩
instance Ext.alloc [b : Ext w W] : Ext w (W.alloc o) := ⟨b.h.alloc b.h.size _⟩
class Sz (W W0 : World) : Prop where h : W.heap.size = W0.heap.size
instance Sz.same : Sz W W := ⟨rfl⟩
instance Sz.set {p : Addr} {W0 : World} [a : Sz W W0] : Sz (W.setCell p u) W0 := ⟨by rw [World.size_setCell]; exact a.h⟩
instance Sz.drew {W0 : World} [a : Sz W W0] : Sz W.drew W0 := ⟨a.h⟩
instance Sz.drewN {W0 : World} [a : Sz W W0] : Sz (W.drewN n) W0 := ⟨a.h⟩
instance Has.here {cs : Array Value} {W0 : World} [a : Sz W W0] : Has (W.alloc (.cells cs t)) W0.heap.size (.cells cs t (0, 0)) := ⟨by rw [← a.h]; exact Blk.new W t cs⟩
instance Has.alloc {o' : Obj} [b : Has W g o] : Has (W.alloc o') g o := ⟨(Below.heap_alloc W o' g (has_lt b.h)).trans b.h⟩
instance Tr.alloc [b : Tr W A X x c] : Tr (W.alloc o) A X x c := ⟨b.h.below ((Below.refl _ _).alloc (Nat.le_refl _) _)⟩
instance Fs.alloc [b : Fs W A U v x c] : Fs (W.alloc o) A U v x c := ⟨by
  obtain ⟨bs, h1, h2, h3⟩ := b.h
  exact ⟨bs, h1.below ((Below.refl _ _).alloc (Nat.le_refl _) _), h2, h3⟩⟩
instance XOk.iv [a : GeB v g] : XOk (XV v X) g := ⟨.inl a.h⟩
instance (priority := low) XOk.ix [a : XOk X g] : XOk (XV v X) g := ⟨.inr a.h⟩
instance XOk.il [a : LtB g U] : XOk (XL U) g := ⟨a.h⟩
instance XOk.ie : XOk (XE g) g := ⟨rfl⟩
instance XOk.u1 [a : XOk X g] : XOk (XU X Y) g := ⟨.inl a.h⟩
instance (priority := low) XOk.u2 [a : XOk Y g] : XOk (XU X Y) g := ⟨.inr a.h⟩

instance Tr.bel [a : Bel W w1] [b : Tr W A X x c] : Tr w1 A X x c := ⟨b.h.below a.h⟩
instance Tr.set {k : Option Nat} [b : Tr W A X x c] [a : XOk X g] : Tr (W.setCell ⟨g, i, k⟩ u) A X x c := ⟨b.h.far (p := ⟨g, i, k⟩) a.h u⟩
instance Tr.drew [b : Tr W A X x c] : Tr W.drew A X x c := ⟨b.h.below (Below.refl _ _).drew⟩
instance Tr.drewN [b : Tr W A X x c] : Tr (W.drewN n) A X x c := ⟨b.h.below (Below.drewN (Below.refl _ _) n)⟩

instance Fs.bel [a : Bel W w1] [b : Fs W A U v x c] : Fs w1 A U v x c := ⟨by
  obtain ⟨bs, h1, h2, h3⟩ := b.h
  exact ⟨bs, h1.below a.h, h2, h3⟩⟩
theorem Fs.far {p : Addr} (b : Fs W A U v x c) (a : p.block < U.heap.size ∨ v.heap.size ≤ p.block) : Fs (W.setCell p u) A U v x c := ⟨by
  obtain ⟨bs, h1, h2, h3⟩ := b.h
  refine ⟨bs, h1.keep (by simp) (fun k hk => Below.heap_setCell _ _ _ _ ?_), h2, h3⟩
  have := h3 k hk
  omega⟩
instance Fs.set1 {k : Option Nat} [b : Fs W A U v x c] [a : LtB g U] : Fs (W.setCell ⟨g, i, k⟩ u) A U v x c := Fs.far b (.inl a.h)
instance Fs.set2 {k : Option Nat} [b : Fs W A U v x c] [a : GeB v g] : Fs (W.setCell ⟨g, i, k⟩ u) A U v x c := Fs.far b (.inr a.h)
instance Fs.drew [b : Fs W A U v x c] : Fs W.drew A U v x c := ⟨by obtain ⟨bs, h1, h2⟩ := b.h; exact ⟨bs, h1.below (Below.refl _ _).drew, h2⟩⟩
instance Fs.drewN [b : Fs W A U v x c] : Fs (W.drewN n) A U v x c := ⟨by obtain ⟨bs, h1, h2⟩ := b.h; exact ⟨bs, h1.below (Below.drewN (Below.refl _ _) n), h2⟩⟩
instance (priority := low) Tr.own [b : Fs W A U v x c] : Tr W A (XV v (XL U)) x c := ⟨by
  obtain ⟨bs, h1, h2, h3⟩ := b.h
  refine h1.toS (fun k hk hX => ?_)
  have := h3 k hk
  rcases hX with h | h
  · omega
  · have : k < U.heap.size := h
    omega⟩
theorem Fs.of (h : SFresh U.heap.size W x A c) : Fs W A U W x c := ⟨by
  obtain ⟨bs, h1, h2, h3⟩ := h
  exact ⟨bs, h1, h2, fun k hk => ⟨h3 k hk, h1.lt k hk⟩⟩⟩
theorem belM {p : Addr} (h : Below W.heap.size (W.setCell p u) w1) : Bel (W.setCell p u) w1 := ⟨by rw [World.size_setCell]; exact h⟩
/-- what a loop's relation says of a tree: apart from these blocks, and from all that comes -/
class XSub (B X : Nat → Prop) : Prop where h : ∀ k, B k → X k
instance XSub.ie [a : XOk X g] : XSub (XE g) X := ⟨fun k hk => by have : k = g := hk; subst this; exact a.h⟩
instance XSub.iu {B C : Nat → Prop} [a : XSub B X] [b : XSub C X] : XSub (XU B C) X := ⟨fun k hk => hk.elim (a.h k) (b.h k)⟩
instance XSub.in_ : XSub XN X := ⟨fun k hk => hk.elim⟩
/-- what a loop leaves: of what W held, only blocks of S were written -/
def KpP (W : World) (S : Nat → Prop) (w1 : World) : Prop := w1.os = W.os ∧ w1.tape = W.tape ∧ w1.output = W.output ∧ W.heap.size ≤ w1.heap.size ∧ ∀ k, k < W.heap.size → ¬ S k → w1.heap[k]? = W.heap[k]?
class Kp (W : outParam World) (S : outParam (Nat → Prop)) (w1 : World) : Prop where h : KpP W S w1
class KpI (W : World) (S : Nat → Prop) (w1 : World) : Prop where h : KpP W S w1
class XNot (S : Nat → Prop) (g : Nat) : Prop where h : ¬ S g
class XGe (w : World) (S : Nat → Prop) : Prop where h : ∀ k, S k → w.heap.size ≤ k
class XOut (U v : World) (S : Nat → Prop) : Prop where h : ∀ k, S k → k < U.heap.size ∨ v.heap.size ≤ k
instance XNot.ie [a : NeB g g'] : XNot (XE g') g := ⟨fun h => a.h h⟩
instance XNot.iu {B C : Nat → Prop} [a : XNot B g] [b : XNot C g] : XNot (XU B C) g := ⟨fun h => h.elim a.h b.h⟩
instance XNot.in_ : XNot XN g := ⟨fun h => h⟩
instance XGe.ie [a : GeB w g] : XGe w (XE g) := ⟨fun k hk => by have : k = g := hk; subst this; exact a.h⟩
instance XGe.iu {B C : Nat → Prop} [a : XGe w B] [b : XGe w C] : XGe w (XU B C) := ⟨fun k h => h.elim (a.h k) (b.h k)⟩
instance XGe.in_ : XGe w XN := ⟨fun k h => h.elim⟩
instance XOut.ie1 [a : LtB g U] : XOut U v (XE g) := ⟨fun k hk => by have : k = g := hk; subst this; exact .inl a.h⟩
instance XOut.ie2 [a : GeB v g] : XOut U v (XE g) := ⟨fun k hk => by have : k = g := hk; subst this; exact .inr a.h⟩
instance XOut.iu {B C : Nat → Prop} [a : XOut U v B] [b : XOut U v C] : XOut U v (XU B C) := ⟨fun k h => h.elim (a.h k) (b.h k)⟩
instance XOut.in_ : XOut U v XN := ⟨fun k h => h.elim⟩
instance KpI.of {S : Nat → Prop} [a : Kp W S w1] : KpI W S w1 := ⟨a.h⟩
instance KpI.same {S : Nat → Prop} : KpI W S W := ⟨rfl, rfl, rfl, Nat.le_refl _, fun _ _ _ => rfl⟩
instance KpI.bel {S : Nat → Prop} {W1 : World} [a : Bel W1 w1] [b : KpI W S W1] : KpI W S w1 := ⟨by
  obtain ⟨h1, h2, h3, h4, h5⟩ := b.h
  exact ⟨a.h.os.trans h1, a.h.tape.trans h2, a.h.output.trans h3, Nat.le_trans h4 a.h.size, fun k hk hS => (a.h.block k (Nat.lt_of_lt_of_le hk h4)).trans (h5 k hk hS)⟩⟩
theorem KpI.put {S : Nat → Prop} {W1 : World} {p : Addr} (b : KpI W S W1) (a : S p.block ∨ W.heap.size ≤ p.block) : KpI W S (W1.setCell p u) := ⟨by
  obtain ⟨h1, h2, h3, h4, h5⟩ := b.h
  refine ⟨h1, h2, h3, by rw [World.size_setCell]; exact h4, fun k hk hS => ?_⟩
  rw [Below.heap_setCell _ _ _ _ ?_]
  · exact h5 k hk hS
  · rintro rfl
    rcases a with a | a
    · exact hS a
    · omega⟩
instance KpI.set1 {S : Nat → Prop} {W1 : World} {k : Option Nat} [b : KpI W S W1] [a : XOk S g] : KpI W S (W1.setCell ⟨g, i, k⟩ u) := KpI.put b (.inl a.h)
instance KpI.set2 {S : Nat → Prop} {W1 : World} {k : Option Nat} [b : KpI W S W1] [a : GeB W g] : KpI W S (W1.setCell ⟨g, i, k⟩ u) := KpI.put b (.inr a.h)
instance KpI.drew {S : Nat → Prop} {W1 : World} [b : KpI W S W1] : KpI W S W1.drew := ⟨b.h⟩
instance KpI.drewN {S : Nat → Prop} {W1 : World} [b : KpI W S W1] : KpI W S (W1.drewN n) := ⟨b.h⟩
instance KpI.alloc {S : Nat → Prop} {W1 : World} [b : KpI W S W1] : KpI W S (W1.alloc o) := ⟨by
  obtain ⟨h1, h2, h3, h4, h5⟩ := b.h
  exact ⟨h1, h2, h3, by rw [World.size_alloc]; omega, fun k hk hS => (Below.heap_alloc W1 o k (by omega)).trans (h5 k hk hS)⟩⟩
instance KpI.kp {S S' : Nat → Prop} {W1 : World} [a : Kp W1 S' w1] [b : KpI W S W1] [e : XSub S' S] : KpI W S w1 := ⟨by
  obtain ⟨h1, h2, h3, h4, h5⟩ := b.h
  obtain ⟨k1, k2, k3, k4, k5⟩ := a.h
  exact ⟨k1.trans h1, k2.trans h2, k3.trans h3, Nat.le_trans h4 k4, fun k hk hS => (k5 k (Nat.lt_of_lt_of_le hk h4) (fun h => hS (e.h k h))).trans (h5 k hk hS)⟩⟩
theorem kp (W : World) (S : Nat → Prop) (w1 : World) [a : KpI W S w1] : Kp W S w1 := ⟨a.h⟩
instance LeB.kp {S : Nat → Prop} [a : Kp W S w1] [b : LeB w W] : LeB w w1 := ⟨Nat.le_trans b.h a.h.2.2.2.1⟩
instance Has.kp {S : Nat → Prop} [a : Kp W S w1] [e : XNot S g] [b : Has W g o] : Has w1 g o := ⟨(a.h.2.2.2.2 g (has_lt b.h) e.h).trans b.h⟩
instance Ext.kp {S : Nat → Prop} [a : Kp W S w1] [b : Ext w W] [e : XGe w S] : Ext w w1 := ⟨by
  obtain ⟨h1, h2, h3, h4, h5⟩ := a.h
  exact b.h.trans ⟨h1, h2, h3, h4, fun k hk => h5 k (Nat.lt_of_lt_of_le hk b.h.size) (fun hS => by have := e.h k hS; omega)⟩⟩
instance Tr.kp {S : Nat → Prop} [a : Kp W S w1] [b : Tr W A X x c] [e : XSub S X] : Tr w1 A X x c := ⟨b.h.keep (fun k hX hk => ⟨hX, a.h.2.2.2.2 k hk (fun hS => hX (e.h k hS))⟩)⟩
instance Fs.kp {S : Nat → Prop} [a : Kp W S w1] [b : Fs W A U v x c] [e : XOut U v S] : Fs w1 A U v x c := ⟨by
  obtain ⟨bs, h1, h2, h3⟩ := b.h
  refine ⟨bs, h1.keep a.h.2.2.2.1 (fun k hk => a.h.2.2.2.2 k (h1.lt k hk) (fun hS => ?_)), h2, h3⟩
  have := h3 k hk
  have := e.h k hS
  omega⟩
theorem _root_.Go.Proofs.YtonlfnbjbmgegaaGreat.SFresh.mono' (h : SFresh U.heap.size W x A c) (w : World) [a : LeB w U] : SFresh w.heap.size W x A c := h.mono a.h
/-- asked for: the tree as the contracts have it -/
theorem tr (W : World) (A : Option Addr) [b : Tr W A X x c] : SSl X W x A c := b.h
theorem fs (W : World) (A : Option Addr) (w : World) [b : Fs W A U v x c] [a : LeB w U] : SFresh w.heap.size W x A c := by
  obtain ⟨bs, h1, h2, h3⟩ := b.h
  exact ⟨bs, h1, h2, fun k hk => Nat.le_trans a.h (h3 k hk).1⟩
theorem ext (w W : World) [b : Ext w W] : Below w.heap.size w W := b.h
theorem has (W : World) (g : Nat) {o : Obj} [b : Has W g o] : W.heap[g]? = some o := b.h
theorem Tr.arg (h : SSl X w x A c) : Tr w A (XV w X) x c := ⟨h.more fun k hk hlt => by
  rcases hk with hk | hk
  · omega
  · exact hk⟩
theorem Tr.lp (B : Nat → Prop) [b : Tr W A X x c] [a : XSub B X] : Tr W A (XV W B) x c := ⟨b.h.more fun k hk hlt => by
  rcases hk with hk | hk
  · omega
  · exact a.h k hk⟩
theorem Fs.lp {U' : World} [b : Fs W A U v x c] [a : LeB U' U] [e : LeB v W] : Fs W A U' W x c := ⟨by
  obtain ⟨bs, h1, h2, h3⟩ := b.h
  refine ⟨bs, h1, h2, fun k hk => ?_⟩
  have := h3 k hk
  have := a.h
  have := e.h
  omega⟩
theorem Fs.nil : Fs W none U v .nil 0 := ⟨[], STree.nil _, by simp, by simp⟩
instance Tr.nil : Tr W none XN .nil 0 := ⟨SSl.nil _ _⟩
end

section
variable {P : Program} {ops : Array Oper} {rest : List Oper} {o : Oper} {a : Act} {Q : Exit → Act → World → Prop}
/-- the operation that writes slot N -/
theorem at_dst {W : World} {N : Tmp} (_hN : o.dst = some N) (h : wpList P ops Q (o :: rest) a W) : wpList P ops Q (o :: rest) a W := h
/-- an allocation: its block and the world behind it get names -/
theorem ev_box {W : World} (hgd : o.guard = none) {cs : Array Value} {t : TypeId}
    (hrun : (execOp a.eval o).run P W = .ok (.value (.pointer (some ⟨W.heap.size, 0, none⟩))) (W.alloc (.cells cs t (0, 0))))
    (h : ∀ g w1, Born g W → Has w1 g (.cells cs t (0, 0)) → Bel W w1 → Nx W w1 → wpList P ops Q rest (a.put o.dst (.pointer (some ⟨g, 0, none⟩))) w1) : wpList P ops Q (o :: rest) a W := by
  refine wpList_plain hgd fun K hK => ?_
  unfold Oper.wp
  rw [hrun, Oper.upon_value]
  exact hK _ _ (h _ _ ⟨rfl⟩ ⟨Blk.new W t cs⟩ ⟨(Below.refl _ _).alloc (Nat.le_refl _) _⟩ ⟨by simp⟩)
end
end Go.Proofs.YtonlfnbjbmgegaaGreat

namespace Go.Proofs.YtonlfnbjbmgegaaGreat
open Go.RowKit
set_option linter.unusedSimpArgs false
set_option linter.unusedVariables false

theorem below_mark {w W : World} {mb : Nat} {t : TypeId} {b b' : Value} (k : KpP w (XE mb) W) (h : W.heap[mb]? = some (.cells #[b'] t (0, 0))) (h0 : w.heap[mb]? = some (.cells #[b] t (0, 0))) : Below w.heap.size (w.setCell ⟨mb, 0, none⟩ b') W := by
  obtain ⟨h1, h2, h3, h4, h5⟩ := k
  refine ⟨h1, h2, h3, by rw [World.size_setCell]; exact h4, fun j hj => ?_⟩
  by_cases hm : j = mb
  · subst hm
    rw [h]
    simp [World.setCell, Array.getElem?_modify, h0]
  · rw [Below.heap_setCell _ _ _ _ hm]
    exact h5 j hj hm
theorem kpp (w : World) (S : Nat → Prop) (W : World) [a : KpI w S W] : KpP w S W := a.h
/-- what a method leaves of its receiver's block -/
theorem marked (w W : World) (mb : Nat) {t : TypeId} {b b' : Value} [h0 : Has w mb (.cells #[b] t (0, 0))] [h : Has W mb (.cells #[b'] t (0, 0))] [k : KpI w (XE mb) W] : Below w.heap.size (w.setCell ⟨mb, 0, none⟩ b') W := below_mark k.h h.h h0.h
section
variable {w U v W : World} {B X : Nat → Prop} {A : Option Addr} {x : Sur} {c : Nat}
instance XSub.il [a : LeB w U] : XSub (XL w) (XL U) := ⟨fun k hk => by have h1 : k < w.heap.size := hk; have h2 := a.h; show k < U.heap.size; omega⟩
instance XSub.iv [a : XSub B X] : XSub B (XV v X) := ⟨fun k hk => .inr (a.h k hk)⟩
instance XSub.iu1 {C : Nat → Prop} [a : XSub (XL w) B] : XSub (XL w) (XU B C) := ⟨fun k hk => .inl (a.h k hk)⟩
instance (priority := low) XSub.iu2 {C : Nat → Prop} [a : XSub (XL w) C] : XSub (XL w) (XU B C) := ⟨fun k hk => .inr (a.h k hk)⟩
theorem trx (Y : Nat → Prop) (W : World) (A : Option Addr) [b : Tr W A X x c] [a : XSub Y X] : SSl Y W x A c := b.h.more fun k hk _ => a.h k hk
end
end Go.Proofs.YtonlfnbjbmgegaaGreat

namespace Go.Proofs.YtonlfnbjbmgegaaGreat
open Go.RowKit
set_option linter.unusedSimpArgs false
set_option linter.unusedVariables false

/-- blocks of S', but for those that came behind W, are blocks of S -/
class XSubW (W : World) (S' S : Nat → Prop) : Prop where h : ∀ k, S' k → S k ∨ W.heap.size ≤ k
/-- the block of v's row -/
def XOw (v : Value) (k : Nat) : Prop := v.ownBlock = some k
class Own (W : World) (v : Value) (lo : outParam World) (E : outParam TypeId) (m n : outParam Nat) (xs : outParam (List Value)) : Prop where
  h : W.ownsRow lo.heap.size E m v n xs
/-- v's row lies from lo on, and was there at hi -/
class OwR (v : Value) (lo hi : outParam World) : Prop where h : ∀ g, v.ownBlock = some g → lo.heap.size ≤ g ∧ g < hi.heap.size
/-- the row of v is none of S -/
class XDis (S : Nat → Prop) (v : Value) : Prop where h : ∀ g, v.ownBlock = some g → ¬ S g

theorem own_keep {w w' : World} {base : Nat} {e : TypeId} {size : Nat} {v : Value} {n : Nat} {xs : List Value} (h : w.ownsRow base e size v n xs) (hk : ∀ g, v.ownBlock = some g → w'.heap[g]? = w.heap[g]?) : w'.ownsRow base e size v n xs := by
  obtain ⟨h1, h2⟩ := h
  refine ⟨h1, ?_⟩
  rcases h2 with h2 | ⟨g, cap, cur, hv, hg, hh, r⟩
  · exact .inl h2
  · exact .inr ⟨g, cap, cur, hv, hg, (hk g (by rw [hv]; rfl)).trans hh, r⟩
section
variable {w w1 W U v0 lo hi lo' hi' : World} {g g' i : Nat} {o : Obj} {u v v' : Value} {S X B C : Nat → Prop} {E : TypeId} {m n : Nat} {xs : List Value}
instance XSubW.ie1 [a : XOk S g] : XSubW W (XE g) S := ⟨fun k hk => by have : k = g := hk; subst this; exact .inl a.h⟩
instance XSubW.ie2 [a : GeB W g] : XSubW W (XE g) S := ⟨fun k hk => by have : k = g := hk; subst this; exact .inr a.h⟩
instance XSubW.iu [a : XSubW W B S] [b : XSubW W C S] : XSubW W (XU B C) S := ⟨fun k hk => hk.elim (a.h k) (b.h k)⟩
instance XSubW.iw [a : OwR v lo hi] [b : LeB W lo] : XSubW W (XOw v) S := ⟨fun k hk => .inr (Nat.le_trans b.h (a.h k hk).1)⟩
instance XSub.vv {w0 : World} [a : LeB w0 W] [b : XSub B C] : XSub (XV W B) (XV w0 C) := ⟨fun k h => h.elim (fun h => .inl (Nat.le_trans a.h h)) (fun h => .inr (b.h k h))⟩
instance XSub.same : XSub S S := ⟨fun k h => h⟩
instance XSubW.in_ : XSubW W XN S := ⟨fun k hk => hk.elim⟩
instance (priority := low) XSubW.ix [a : XSub B S] : XSubW W B S := ⟨fun k hk => .inl (a.h k hk)⟩
instance (priority := low) KpI.kpw {W1 : World} {S' : Nat → Prop} [a : Kp W1 S' w1] [b : KpI W S W1] [e : XSubW W S' S] : KpI W S w1 := ⟨by
  obtain ⟨h1, h2, h3, h4, h5⟩ := b.h
  obtain ⟨k1, k2, k3, k4, k5⟩ := a.h
  exact ⟨k1.trans h1, k2.trans h2, k3.trans h3, Nat.le_trans h4 k4, fun k hk hS => (k5 k (Nat.lt_of_lt_of_le hk h4) (fun h => (e.h k h).elim hS (by omega))).trans (h5 k hk hS)⟩⟩

instance XNot.ow1 [a : OwR v lo hi] [b : LtB g lo] : XNot (XOw v) g := ⟨fun h => by have := (a.h g h).1; have := b.h; omega⟩
instance XNot.ow2 [a : OwR v lo hi] [b : GeB hi g] : XNot (XOw v) g := ⟨fun h => by have := (a.h g h).2; have := b.h; omega⟩
instance XSub.owv [a : OwR v lo hi] [b : LeB v0 lo] : XSub (XOw v) (XV v0 B) := ⟨fun k h => .inl (Nat.le_trans b.h (a.h k h).1)⟩
instance XSub.owl [a : OwR v lo hi] [b : LeB hi U] : XSub (XOw v) (XL U) := ⟨fun k h => Nat.lt_of_lt_of_le (a.h k h).2 b.h⟩
instance XSub.owo : XSub (XOw v) (XOw v) := ⟨fun k h => h⟩
instance XSub.owu1 [a : XSub (XOw v) B] : XSub (XOw v) (XU B C) := ⟨fun k h => .inl (a.h k h)⟩
instance (priority := low) XSub.owu2 [a : XSub (XOw v) C] : XSub (XOw v) (XU B C) := ⟨fun k h => .inr (a.h k h)⟩
instance XGe.ow [a : OwR v lo hi] [b : LeB w lo] : XGe w (XOw v) := ⟨fun k h => Nat.le_trans b.h (a.h k h).1⟩
instance XOut.ow1 [a : OwR v lo hi] [b : LeB hi U] : XOut U v0 (XOw v) := ⟨fun k h => .inl (Nat.lt_of_lt_of_le (a.h k h).2 b.h)⟩
instance XOut.ow2 [a : OwR v lo hi] [b : LeB v0 lo] : XOut U v0 (XOw v) := ⟨fun k h => .inr (Nat.le_trans b.h (a.h k h).1)⟩
instance XDis.e1 [a : OwR v lo hi] [b : LtB g lo] : XDis (XE g) v := ⟨fun k h e => by have : k = g := e; subst this; have := (a.h k h).1; have := b.h; omega⟩
instance XDis.e2 [a : OwR v lo hi] [b : GeB hi g] : XDis (XE g) v := ⟨fun k h e => by have : k = g := e; subst this; have := (a.h k h).2; have := b.h; omega⟩
instance XDis.xu [a : XDis B v] [b : XDis C v] : XDis (XU B C) v := ⟨fun k h e => e.elim (a.h k h) (b.h k h)⟩
instance XDis.xn : XDis XN v := ⟨fun k h e => e⟩
instance XDis.ow1 [a : OwR v lo hi] [b : OwR v' lo' hi'] [e : LeB hi lo'] : XDis (XOw v') v := ⟨fun k h h' => by have := (a.h k h).2; have := (b.h k h').1; have := e.h; omega⟩
instance XDis.ow2 [a : OwR v lo hi] [b : OwR v' lo' hi'] [e : LeB hi' lo] : XDis (XOw v') v := ⟨fun k h h' => by have := (a.h k h).1; have := (b.h k h').2; have := e.h; omega⟩
instance XDis.l [a : OwR v lo hi] [b : LeB U lo] : XDis (XL U) v := ⟨fun k h e => by have : k < U.heap.size := e; have := (a.h k h).1; have := b.h; omega⟩

instance Own.bel [a : Bel W w1] [b : Own W v lo E m n xs] : Own w1 v lo E m n xs := ⟨own_keep b.h fun g hg => a.h.block g (b.h.lt g hg).2⟩
instance Own.alloc [b : Own W v lo E m n xs] : Own (W.alloc o) v lo E m n xs := ⟨own_keep b.h fun g hg => Below.heap_alloc _ _ _ (b.h.lt g hg).2⟩
instance Own.drew [b : Own W v lo E m n xs] : Own W.drew v lo E m n xs := ⟨own_keep b.h fun _ _ => rfl⟩
instance Own.drewN {j : Nat} [b : Own W v lo E m n xs] : Own (W.drewN j) v lo E m n xs := ⟨own_keep b.h fun _ _ => rfl⟩
instance Own.set {k : Option Nat} [b : Own W v lo E m n xs] [a : XDis (XE g) v] : Own (W.setCell ⟨g, i, k⟩ u) v lo E m n xs := ⟨own_keep b.h fun j hj => Below.heap_setCell _ _ _ _ (fun e => a.h j hj e)⟩
instance Own.kp {S : Nat → Prop} [a : Kp W S w1] [b : Own W v lo E m n xs] [e : XDis S v] : Own w1 v lo E m n xs := ⟨own_keep b.h fun g hg => a.h.2.2.2.2 g (b.h.lt g hg).2 (e.h g hg)⟩
theorem Own.nil (W lo : World) (E : TypeId) (m : Nat) : Own W (.slice none 0 0) lo E m 0 [] := ⟨World.ownsRow_nil _ _ _ _⟩
theorem Own.rg (W : World) (v : Value) [b : Own W v lo E m n xs] : OwR v lo W := ⟨fun g hg => b.h.lt g hg⟩
theorem OwR.nil (lo hi : World) : OwR (.slice none 0 0) lo hi := ⟨fun g h => by cases h⟩
end
/-- how a slice type's elements lie -/
class Elem (ty : TypeId) (E : outParam TypeId) (m bytes : outParam Nat) : Prop where
  ht : Tryz.prog.underlying ty = some (.slice E)
  hi : ∃ i z, Tryz.prog.info? E = some i ∧ i.zero = some z ∧ i.size = m ∧ i.bytes = bytes ∧ z.cells.size = m
  hm : 0 < m
  hb : bytes ≤ 64
theorem Elem.of {ty E : TypeId} {m bytes : Nat} {z : Value} (ht : Tryz.prog.underlying ty = some (.slice E)) (hi : (Tryz.prog.info? E).map (fun i => (i.zero, i.size, i.bytes)) = some (some z, m, bytes)) (hz : z.cells.size = m) (hm : 0 < m) (hb : bytes ≤ 64) : Elem ty E m bytes := by
  refine ⟨ht, ?_, hm, hb⟩
  rcases h : Tryz.prog.info? E with _ | i
  · rw [h] at hi; cases hi
  · rw [h] at hi
    simp only [Option.map_some, Option.some.injEq, Prod.mk.injEq] at hi
    exact ⟨i, z, rfl, hi.1, hi.2.1, hi.2.2, hz⟩
section
variable {ops : Array Oper} {rest : List Oper} {o : Oper} {a : Act} {Q : Exit → Act → World → Prop} {K : Act → World → Prop} {Z : Prop}
theorem KpP.grown {W w2 : World} {v : Value} (h : W.grownBy w2 v.ownBlock) : KpP W (XOw v) w2 := ⟨h.os, h.tape, h.output, h.size, fun k hk hS => h.block k hk (fun e => hS e.symm)⟩
/-- one element more behind a row of one's own -/
theorem ap_list {W : World} (hgd : o.guard = none) (s x : Operand) (t : TypeId) (ho : o.op = .call { callee := .builtin .append, args := #[s, x], argTypes := #[t, t] })
    {E : TypeId} {m bytes n : Nat} [el : Elem t E m bytes] {v : Value} {lo : World} {xs : List Value} [ow : Own W v lo E m n xs] (hs : a.eval s = v) {B : Nat} (hx : a.eval x = .slice (some ⟨B, 0, none⟩) 1 1) {cs : List Value} {t' : TypeId} {fr : Nat × Nat} [hb : Has W B (.cells cs.toArray t' fr)]
    (hl : cs.length = 1 * m) (h1 : ∀ u ∈ cs, u.oneCell' = true) (hn : n ≤ 1099511627776) [hlo : LeB lo W]
    (h : ∀ g cap w', Own w' (.slice (some ⟨g, 0, none⟩) (n + 1) cap) lo E m (n + 1) (xs ++ cs) → Kp W (XOw v) w' → OwR (.slice (some ⟨g, 0, none⟩) (n + 1) cap) lo w' → (v.ownBlock = some g ∨ g = W.heap.size) → Nx W w' ∨ True → wpList Tryz.prog ops Q rest (a.put o.dst (.slice (some ⟨g, 0, none⟩) (n + 1) cap)) w') : wpList Tryz.prog ops Q (o :: rest) a W := by
  obtain ⟨i, z, e1, e2, e3, e4, e5⟩ := el.hi
  refine wpList_append_lies W hgd s x t ho lo.heap.size E i z m bytes el.ht e1 e2 e3 e4 e5 el.hm v n xs hs ow.h ⟨B, 0, none⟩ 1 1 cs hx hl (fun j u hu => World.news_of_block hb.h j u hu) h1 (by omega) (by unfold maxLen; omega) (by have := Nat.mul_le_mul_left (n + 1) el.hb; omega) hlo.h _ rfl ?_
  intro g cap w' hown hgrow hat hlt
  exact h g cap w' ⟨hown⟩ ⟨KpP.grown hgrow⟩ ⟨fun k hk => hown.lt k hk⟩ hat (.inr trivial)
theorem ap_step {W : World} (hgd : o.guard = none) (s x : Operand) (t : TypeId) (ho : o.op = .call { callee := .builtin .append, args := #[s, x], argTypes := #[t, t] })
    {E : TypeId} {m bytes n : Nat} [el : Elem t E m bytes] {v : Value} {lo : World} {xs : List Value} [ow : Own W v lo E m n xs] (hs : a.eval s = v) {B : Nat} (hx : a.eval x = .slice (some ⟨B, 0, none⟩) 1 1) {cs : List Value} {t' : TypeId} {fr : Nat × Nat} [hb : Has W B (.cells cs.toArray t' fr)]
    (hl : cs.length = 1 * m) (h1 : ∀ u ∈ cs, u.oneCell' = true) (hn : n ≤ 1099511627776) [hlo : LeB lo W]
    (h : ∀ g cap w', Own w' (.slice (some ⟨g, 0, none⟩) (n + 1) cap) lo E m (n + 1) (xs ++ cs) → Kp W (XOw v) w' → OwR (.slice (some ⟨g, 0, none⟩) (n + 1) cap) lo w' → (v.ownBlock = some g ∨ g = W.heap.size) → Nx W w' ∨ True → K (a.put o.dst (.slice (some ⟨g, 0, none⟩) (n + 1) cap)) w') : if Region.wanted o (yielded ops a.tmps) = true then Oper.wp Tryz.prog o a W K Q else Z := by
  obtain ⟨i, z, e1, e2, e3, e4, e5⟩ := el.hi
  refine step_append_lies W hgd s x t ho lo.heap.size E i z m bytes el.ht e1 e2 e3 e4 e5 el.hm v n xs hs ow.h ⟨B, 0, none⟩ 1 1 cs hx hl (fun j u hu => World.news_of_block hb.h j u hu) h1 (by omega) (by unfold maxLen; omega) (by have := Nat.mul_le_mul_left (n + 1) el.hb; omega) hlo.h _ rfl ?_
  intro g cap w' hown hgrow hat hlt
  exact h g cap w' ⟨hown⟩ ⟨KpP.grown hgrow⟩ ⟨fun k hk => hown.lt k hk⟩ hat (.inr trivial)
end
instance elST : Elem 24 70 3 40 := Elem.of (z := .agg #[.slice none 0 0, .int .i64 0, .int .i64 0]) Tryz.underlying24 (by kernel_rfl) rfl (by omega) (by omega)

/-- the cells read as terms -/
class TR (W : World) (X : outParam (Nat → Prop)) (x : outParam Sur) (xs : List Value) : Prop where h : TRow X W x xs
theorem TRow.more {X Y : Nat → Prop} {w : World} {e : Sur} {xs : List Value} (h : TRow X w e xs) (hY : ∀ k, Y k → k < w.heap.size → X k) : TRow Y w e xs :=
  h.keep fun k hx hk => ⟨fun hy => hx (hY k hy hk), rfl⟩
section
variable {w w1 W U v0 lo hi : World} {g i : Nat} {o : Obj} {u v : Value} {S X Y : Nat → Prop} {E : TypeId} {n : Nat} {xs : List Value} {x e : Sur} {A : Option Addr} {c : Nat}
instance TR.bel [a : Bel W w1] [b : TR W X x xs] : TR w1 X x xs := ⟨b.h.below a.h⟩
instance TR.alloc [b : TR W X x xs] : TR (W.alloc o) X x xs := ⟨b.h.below ((Below.refl _ _).alloc (Nat.le_refl _) _)⟩
instance TR.drew [b : TR W X x xs] : TR W.drew X x xs := ⟨b.h.below (Below.refl _ _).drew⟩
instance TR.drewN {j : Nat} [b : TR W X x xs] : TR (W.drewN j) X x xs := ⟨b.h.below (Below.drewN (Below.refl _ _) j)⟩
instance TR.set {k : Option Nat} [b : TR W X x xs] [a : XOk X g] : TR (W.setCell ⟨g, i, k⟩ u) X x xs := ⟨b.h.keep fun j hx _ => ⟨hx, Below.heap_setCell _ _ _ _ (fun e => hx (e ▸ a.h))⟩⟩
instance TR.kp {S : Nat → Prop} [a : Kp W S w1] [b : TR W X x xs] [e : XSub S X] : TR w1 X x xs := ⟨b.h.keep (fun k hX hk => ⟨hX, a.h.2.2.2.2 k hk (fun hS => hX (e.h k hS))⟩)⟩
theorem TR.nil (W : World) (X : Nat → Prop) : TR W X .nil [] := ⟨rfl⟩
theorem TR.snoc {k d : Int} {Ae : Option Addr} {ce : Nat} [b : TR W X x xs] (hs : SSl X W e Ae ce) (hn : I64 k) (hd : I64 d) : TR W X (x.app (.cons e k d .nil)) (xs ++ [.slice Ae e.len ce, .int .i64 k, .int .i64 d]) := ⟨TRow.snoc hs hn hd b.h⟩
theorem TR.more (Y : Nat → Prop) [b : TR W X x xs] (hY : ∀ k, Y k → k < W.heap.size → X k) : TR W Y x xs := ⟨b.h.more hY⟩
theorem Own.snoc {k d : Int} (h : Own W v lo E 3 (x.len + 1) xs) : Own W v lo E 3 (x.app (.cons e k d .nil)).len xs := ⟨by rw [Sur.len_snoc]; exact h.h⟩
/-- the row as a slice value; its block is not to be one of Y -/
theorem sl_own (Y : Nat → Prop) (W : World) (A : Option Addr) (c : Nat) (x : Sur) [h : Own W (.slice A x.len c) lo E 3 x.len xs] [b : TR W X x xs] [a : XSub Y X] [d : XDis Y (.slice A x.len c)] : SSl Y W x A c :=
  (SSl.of_own h.h (b.h.more fun k hk _ => a.h k hk) d.h).2
end

theorem own_lower {w : World} {B B' : Nat} {e : TypeId} {size : Nat} {v : Value} {n : Nat} {xs : List Value} (h : w.ownsRow B e size v n xs) (hb : B' ≤ B) : w.ownsRow B' e size v n xs := by
  obtain ⟨h1, h2⟩ := h
  refine ⟨h1, ?_⟩
  rcases h2 with h2 | ⟨g, cap, cur, hv, hg, r⟩
  · exact .inl h2
  · exact .inr ⟨g, cap, cur, hv, by omega, r⟩
/-- a row of one's own whose exponents may be shared: all of it lies in blocks made from U on, there at v -/
class Ro (W : World) (A : Option Addr) (U v : outParam World) (x : outParam Sur) (c : outParam Nat) : Prop where
  h : ∃ xs, W.ownsRow U.heap.size 70 3 (.slice A x.len c) x.len xs ∧ TRow (fun k => k < U.heap.size ∨ v.heap.size ≤ k ∨ XOw (.slice A x.len c) k) W x xs ∧ ∀ g, XOw (.slice A x.len c) g → g < v.heap.size
section
variable {w w1 W U v : World} {g i : Nat} {o : Obj} {u : Value} {S : Nat → Prop} {x : Sur} {A : Option Addr} {c : Nat}
theorem Ro.keep (b : Ro W A U v x c) (hk : ∀ k, U.heap.size ≤ k → k < v.heap.size → k < W.heap.size → w1.heap[k]? = W.heap[k]?) : Ro w1 A U v x c := ⟨by
  obtain ⟨xs, h1, h2, h3⟩ := b.h
  refine ⟨xs, own_keep h1 fun g hg => ?_, h2.keep fun k hx hlt => ⟨hx, hk k ?_ ?_ hlt⟩, h3⟩
  · have := h1.lt g hg
    exact hk g this.1 (h3 g hg) this.2
  · rcases Nat.lt_or_ge k U.heap.size with h | h
    · exact absurd (.inl h) hx
    · exact h
  · rcases Nat.lt_or_ge k v.heap.size with h | h
    · exact h
    · exact absurd (.inr (.inl h)) hx⟩
instance Ro.bel [a : Bel W w1] [b : Ro W A U v x c] : Ro w1 A U v x c := b.keep fun k _ _ hk => a.h.block k hk
instance Ro.alloc [b : Ro W A U v x c] : Ro (W.alloc o) A U v x c := b.keep fun k _ _ hk => Below.heap_alloc _ _ _ hk
instance Ro.drew [b : Ro W A U v x c] : Ro W.drew A U v x c := b.keep fun _ _ _ _ => rfl
instance Ro.drewN {j : Nat} [b : Ro W A U v x c] : Ro (W.drewN j) A U v x c := b.keep fun _ _ _ _ => rfl
instance Ro.set1 {k : Option Nat} [b : Ro W A U v x c] [a : LtB g U] : Ro (W.setCell ⟨g, i, k⟩ u) A U v x c := b.keep fun j h1 _ _ => Below.heap_setCell _ _ _ _ (by have := a.h; show j ≠ g; omega)
instance Ro.set2 {k : Option Nat} [b : Ro W A U v x c] [a : GeB v g] : Ro (W.setCell ⟨g, i, k⟩ u) A U v x c := b.keep fun j _ h2 _ => Below.heap_setCell _ _ _ _ (by have := a.h; show j ≠ g; omega)
instance Ro.kp {S : Nat → Prop} [a : Kp W S w1] [b : Ro W A U v x c] [e : XOut U v S] : Ro w1 A U v x c := b.keep fun k h1 h2 hk => a.h.2.2.2.2 k hk fun hS => by have := e.h k hS; omega
instance (priority := low) Tr.ro [b : Ro W A U v x c] : Tr W A (XV v (XL U)) x c := ⟨by
  obtain ⟨xs, h1, h2, h3⟩ := b.h
  refine (SSl.of_own h1 (h2.more (Y := XV v (XL U)) fun k hk _ => hk.elim (fun h => .inr (.inl h)) .inl) fun k hk hX => ?_).2
  have := h1.lt k hk
  have := h3 k hk
  rcases hX with h | h
  · omega
  · have : k < U.heap.size := h
    omega⟩
theorem Ro.nil (W U v : World) : Ro W none U v .nil 0 := ⟨[], World.ownsRow_nil _ _ _ _, rfl, fun g h => by cases h⟩
theorem Ro.lp {U' : World} [b : Ro W A U v x c] [a : LeB U' U] [e : LeB v W] : Ro W A U' W x c := ⟨by
  obtain ⟨xs, h1, h2, h3⟩ := b.h
  have ha := a.h
  have he := e.h
  refine ⟨xs, own_lower h1 ha, h2.more fun k hk _ => ?_, fun g hg => Nat.lt_of_lt_of_le (h3 g hg) he⟩
  rcases hk with h | h | h
  · exact .inl (by omega)
  · exact .inr (.inl (by omega))
  · exact .inr (.inr h)⟩
theorem Own.of {lo : World} {v : Value} {E : TypeId} {m n : Nat} {xs : List Value} (h : W.ownsRow lo.heap.size E m v n xs) : Own W v lo E m n xs := ⟨h⟩
theorem TR.of {X : Nat → Prop} {xs : List Value} (h : TRow X W x xs) : TR W X x xs := ⟨h⟩
theorem Ro.made (U V : World) {lo : World} {xs : List Value} {X : Nat → Prop} [a : Own W (.slice A x.len c) lo 70 3 x.len xs] [b : TR W X x xs] [e : LeB V lo] [f : LeB U lo] [q : XSub (XV V (XL U)) X] : Ro W A U W x c := ⟨by
  have he := e.h
  refine ⟨xs, own_lower a.h f.h, b.h.more fun k hk hlt => q.h k ?_, fun g hg => (a.h.lt g hg).2⟩
  rcases hk with h | h | h
  · exact .inr h
  · omega
  · exact .inl (by have := (a.h.lt k h).1; omega)⟩
/-- what suPut returns, told so -/
theorem Ro.of {xs : List Value} (U : World) (h1 : w1.ownsRow W.heap.size 70 3 (.slice A x.len c) x.len xs) (h2 : TRow (Low (XL U) W.heap.size) w1 x xs) (hs : W.heap.size ≤ w1.heap.size) [a : LeB U W] : Ro w1 A U w1 x c := ⟨by
  have ha := a.h
  refine ⟨xs, own_lower h1 ha, h2.more fun k hk _ => ?_, fun g hg => (h1.lt g hg).2⟩
  rcases hk with h | h | h
  · exact .inl h
  · exact .inr (by omega)
  · exact .inr (h1.lt k h).1⟩
end

section
variable {ops : Array Oper} {rest : List Oper} {o : Oper} {a : Act} {Q : Exit → Act → World → Prop} {K : Act → World → Prop} {Z : Prop} {A Ae : Option Addr} {U v : World} {x ex : Sur} {c ce : Nat} {n d : Int}
theorem Ro.rg (W : World) (A : Option Addr) [b : Ro W A U v x c] : OwR (.slice A x.len c) U v := ⟨fun g hg => by
  obtain ⟨xs, h1, _, h3⟩ := b.h
  exact ⟨(h1.lt g hg).1, h3 g hg⟩⟩
theorem Ro.grown {W w' : World} {xs : List Value} {g cap : Nat} (he : SSl (fun k => k < U.heap.size ∨ XOw (.slice A x.len c) k) W ex Ae ce) (in_ : I64 n) (id_ : I64 d)
    (hr : TRow (fun k => k < U.heap.size ∨ v.heap.size ≤ k ∨ XOw (.slice A x.len c) k) W x xs)
    (own : w'.ownsRow U.heap.size 70 3 (.slice (some ⟨g, 0, none⟩) (x.len + 1) cap) (x.len + 1) (xs ++ [.slice Ae ex.len ce, .int .i64 n, .int .i64 d])) (kp : Kp W (XOw (.slice A x.len c)) w') (hat : (Value.slice A x.len c).ownBlock = some g ∨ g = W.heap.size) (hv : v.heap.size ≤ W.heap.size) :
    Ro w' (some ⟨g, 0, none⟩) U w' (x.app (.cons ex n d .nil)) cap := ⟨by
  have key : ∀ k, (k < U.heap.size ∨ w'.heap.size ≤ k ∨ k = g) → k < W.heap.size → k < U.heap.size ∨ XOw (.slice A x.len c) k := fun k hk hlt => by
    have := kp.h.2.2.2.1
    rcases hk with h | h | h
    · exact .inl h
    · omega
    · subst h
      rcases hat with h | h
      · exact .inr h
      · omega
  have hk5 := kp.h.2.2.2.2
  refine ⟨_, by rw [Sur.len_snoc]; exact own, TRow.snoc (he.keep fun k hX hlt => ⟨fun hY => hX (key k ?_ hlt), hk5 k hlt fun h => hX (.inr h)⟩) in_ id_ (hr.keep fun k hX hlt => ⟨fun hY => ?_, hk5 k hlt fun h => hX (.inr (.inr h))⟩), fun k hk => ?_⟩
  · rcases hY with h | h | h
    · exact .inl h
    · exact .inr (.inl h)
    · refine .inr (.inr ?_)
      rw [Sur.len_snoc] at h
      have : g = k := by simpa [XOw, Value.ownBlock] using h
      omega
  · have := key k (by
      rcases hY with h | h | h
      · exact .inl h
      · exact .inr (.inl h)
      · refine .inr (.inr ?_)
        rw [Sur.len_snoc] at h
        have : g = k := by simpa [XOw, Value.ownBlock] using h
        omega) hlt
    exact hX (this.elim .inl fun h => .inr (.inr h))
  · rw [Sur.len_snoc] at hk
    exact (own.lt k hk).2⟩
/-- one term more behind such a row -/
theorem ro_list {W : World} (hgd : o.guard = none) (s y : Operand) (ho : o.op = .call { callee := .builtin .append, args := #[s, y], argTypes := #[24, 24] })
    [ro : Ro W A U v x c] (hs : a.eval s = .slice A x.len c) {B : Nat} (hx : a.eval y = .slice (some ⟨B, 0, none⟩) 1 1) {t' : TypeId} {fr : Nat × Nat} [hb : Has W B (.cells #[.slice Ae ex.len ce, .int .i64 n, .int .i64 d] t' fr)]
    (he : SSl (fun k => k < U.heap.size ∨ XOw (.slice A x.len c) k) W ex Ae ce) (in_ : I64 n) (id_ : I64 d) (hn : x.len ≤ 1099511627776) [hlo : LeB U W] [hv : LeB v W]
    (h : ∀ A' c' w', Ro w' A' U w' (x.app (.cons ex n d .nil)) c' → Kp W (XOw (.slice A x.len c)) w' → wpList Tryz.prog ops Q rest (a.put o.dst (.slice A' (x.len + 1) c')) w') : wpList Tryz.prog ops Q (o :: rest) a W := by
  obtain ⟨xs, h1, h2, h3⟩ := ro.h
  haveI : Own W (.slice A x.len c) U 70 3 x.len xs := ⟨h1⟩
  refine ap_list hgd s y _ ho hs hx (by rfl) (by simp [Value.oneCell']) hn ?_
  intro g cap w' own kp _ hat _
  exact h _ _ _ (Ro.grown he in_ id_ h2 own.h kp hat hv.h) kp
theorem ro_step {W : World} (hgd : o.guard = none) (s y : Operand) (ho : o.op = .call { callee := .builtin .append, args := #[s, y], argTypes := #[24, 24] })
    [ro : Ro W A U v x c] (hs : a.eval s = .slice A x.len c) {B : Nat} (hx : a.eval y = .slice (some ⟨B, 0, none⟩) 1 1) {t' : TypeId} {fr : Nat × Nat} [hb : Has W B (.cells #[.slice Ae ex.len ce, .int .i64 n, .int .i64 d] t' fr)]
    (he : SSl (fun k => k < U.heap.size ∨ XOw (.slice A x.len c) k) W ex Ae ce) (in_ : I64 n) (id_ : I64 d) (hn : x.len ≤ 1099511627776) [hlo : LeB U W] [hv : LeB v W]
    (h : ∀ A' c' w', Ro w' A' U w' (x.app (.cons ex n d .nil)) c' → Kp W (XOw (.slice A x.len c)) w' → K (a.put o.dst (.slice A' (x.len + 1) c')) w') : if Region.wanted o (yielded ops a.tmps) = true then Oper.wp Tryz.prog o a W K Q else Z := by
  obtain ⟨xs, h1, h2, h3⟩ := ro.h
  haveI : Own W (.slice A x.len c) U 70 3 x.len xs := ⟨h1⟩
  refine ap_step hgd s y _ ho hs hx (by rfl) (by simp [Value.oneCell']) hn ?_
  intro g cap w' own kp _ hat _
  exact h _ _ _ (Ro.grown he in_ id_ h2 own.h kp hat hv.h) kp
/-- the tree to be put behind the row is none of the row -/
theorem ro_arg (W : World) (Ae : Option Addr) (U : World) (v : Value) {X : Nat → Prop} [b : Tr W Ae X ex ce] [e1 : XSub (XL U) X] [e2 : XSub (XOw v) X] : SSl (fun k => k < U.heap.size ∨ XOw v k) W ex Ae ce :=
  b.h.more fun k hk _ => hk.elim (fun h => e1.h k h) (fun h => e2.h k h)
end

section
variable {ops : Array Oper} {rest : List Oper} {o : Oper} {a : Act} {Q : Exit → Act → World → Prop} {P : Program} {K : Act → World → Prop} {Z : Prop}
/-- a slice of one element, made: its block and the world behind it get names -/
theorem ev_sl {W : World} (hgd : o.guard = none) {cs : Array Value} {t : TypeId}
    (hrun : (execOp a.eval o).run P W = .ok (.value (.slice (some ⟨W.heap.size, 0, none⟩) 1 1)) (W.alloc (.cells cs t (0, 0))))
    (h : ∀ g w1, Born g W → Has w1 g (.cells cs t (0, 0)) → Bel W w1 → Nx W w1 → wpList P ops Q rest (a.put o.dst (.slice (some ⟨g, 0, none⟩) 1 1)) w1) : wpList P ops Q (o :: rest) a W := by
  refine wpList_plain hgd fun K hK => ?_
  unfold Oper.wp
  rw [hrun, Oper.upon_value]
  exact hK _ _ (h _ _ ⟨rfl⟩ ⟨Blk.new W t cs⟩ ⟨(Below.refl _ _).alloc (Nat.le_refl _) _⟩ ⟨by simp⟩)
end

/-- blocks that are there at W -/
class XLt (W : World) (X : Nat → Prop) : Prop where h : ∀ k, X k → k < W.heap.size
section
variable {w W : World} {g : Nat} {B C : Nat → Prop}
instance XLt.e [a : LtB g W] : XLt W (XE g) := ⟨fun k h => by have : k = g := h; subst this; exact a.h⟩
instance XLt.xu [a : XLt W B] [b : XLt W C] : XLt W (XU B C) := ⟨fun k h => h.elim (a.h k) (b.h k)⟩
instance XLt.l [a : LeB w W] : XLt W (XL w) := ⟨fun k h => Nat.lt_of_lt_of_le h a.h⟩
instance XLt.xn : XLt W XN := ⟨fun k h => h.elim⟩
end
theorem xlt (X : Nat → Prop) (W : World) [a : XLt W X] : ∀ k, X k → k < W.heap.size := a.h
section
variable {ops : Array Oper} {rest : List Oper} {o : Oper} {a : Act} {Q : Exit → Act → World → Prop} {K : Act → World → Prop} {Z : Prop} {A Ae : Option Addr} {U v : World} {x ex : Sur} {c ce : Nat} {n d : Int}
/-- one term more behind such a row: what comes is none of X -/
theorem ro_stepX (X : Nat → Prop) {W : World} (hgd : o.guard = none) (s y : Operand) (ho : o.op = .call { callee := .builtin .append, args := #[s, y], argTypes := #[24, 24] })
    [ro : Ro W A U v x c] (hs : a.eval s = .slice A x.len c) {B : Nat} (hx : a.eval y = .slice (some ⟨B, 0, none⟩) 1 1) {t' : TypeId} {fr : Nat × Nat} [hb : Has W B (.cells #[.slice Ae ex.len ce, .int .i64 n, .int .i64 d] t' fr)]
    (he : SSl (XU (XOw (.slice A x.len c)) X) W ex Ae ce) (in_ : I64 n) (id_ : I64 d) (hn : x.len ≤ 1099511627776) [hlo : LeB U W] [q : XSub X (XV v (XL U))] [hX : XLt W X]
    (h : ∀ A' c' w', Tr w' A' X (x.app (.cons ex n d .nil)) c' → Kp W (XOw (.slice A x.len c)) w' → K (a.put o.dst (.slice A' (x.len + 1) c')) w') : if Region.wanted o (yielded ops a.tmps) = true then Oper.wp Tryz.prog o a W K Q else Z := by
  obtain ⟨xs, h1, h2, h3⟩ := ro.h
  haveI : Own W (.slice A x.len c) U 70 3 x.len xs := ⟨h1⟩
  refine ap_step hgd s y _ ho hs hx (by rfl) (by simp [Value.oneCell']) hn ?_
  intro g cap w' own kp _ hat _
  refine h (some ⟨g, 0, none⟩) cap w' ⟨?_⟩ kp
  have hk5 := kp.h.2.2.2.2
  have hr : TRow (XU (XOw (.slice A x.len c)) X) W x xs := h2.more fun k hk _ => hk.elim (fun h => .inr (.inr h)) (fun h => (q.h k h).elim (fun h => .inr (.inl h)) .inl)
  have hr' : TRow X w' (x.app (.cons ex n d .nil)) (xs ++ [.slice Ae ex.len ce, .int .i64 n, .int .i64 d]) :=
    TRow.snoc (he.keep fun k hX' hlt => ⟨fun hY => hX' (.inr hY), hk5 k hlt fun h => hX' (.inl h)⟩) in_ id_ (hr.keep fun k hX' hlt => ⟨fun hY => hX' (.inr hY), hk5 k hlt fun h => hX' (.inl h)⟩)
  have ho := own.h
  rw [← Sur.len_snoc x ex n d] at ho
  refine (SSl.of_own ho hr' fun k hk hXk => ?_).2
  have hkg : g = k := by simpa [Value.ownBlock] using hk
  subst hkg
  rcases hat with h | h
  · have := h1.lt g h
    have := h3 g h
    rcases q.h g hXk with h | h
    · omega
    · have : g < U.heap.size := h
      omega
  · have := hX.h g hXk
    omega
theorem ro_argX (W : World) (Ae : Option Addr) (Y : Nat → Prop) (v : Value) {X : Nat → Prop} [b : Tr W Ae X ex ce] [e1 : XSub Y X] [e2 : XSub (XOw v) X] : SSl (XU (XOw v) Y) W ex Ae ce :=
  b.h.more fun k hk _ => hk.elim (fun h => e2.h k h) (fun h => e1.h k h)
end
end Go.Proofs.YtonlfnbjbmgegaaGreat

namespace Go.Proofs.YtonlfnbjbmgegaaGreat
open Go.RowKit
open List renaming getElem_toArray → zp1, getElem_cons_zero → zp2, getElem_cons_succ → zp3, setIfInBounds_toArray → zp4, set_cons_zero → zp5, set_cons_succ → zp6
set_option linter.unusedSimpArgs false
set_option linter.unusedVariables false

/-- bytes that can be read, in a block before g -/
def CodeOk (W : World) (g : Nat) (A : Option Addr) (n : Nat) : Prop := ∀ i, i < n → ∃ (cb o : Nat) (b : Int), A = some ⟨cb, o, none⟩ ∧ cb < g ∧ W.cell? ⟨cb, o + i, none⟩ = some (.int .u8 b) ∧ 0 ≤ b ∧ b ≤ 255
def CurAt (W : World) (g : Nat) (A : Option Addr) (n c : Nat) (p s : Int) : Prop :=
  W.heap[g]? = some (.cells #[.slice A n c, .int .i64 p, .int .u64 s] 51 (0, 0)) ∧ CodeOk W g A n ∧ n ≤ 1099511627776 ∧ 0 ≤ p
/-- a cursor at g; it is at k at most -/
class Cur (W : World) (g : Nat) (k : outParam Int) : Prop where h : ∃ A n c p s, CurAt W g A n c p s ∧ p ≤ k
class GtB (g g' : Nat) : Prop where h : g < g'
section
variable {w w1 W U v : World} {g g' i n : Nat} {o : Obj} {u : Value} {A : Option Addr} {k : Int}
instance GtB.born [a : Born g' W] [b : LtB g W] : GtB g g' := ⟨by have := a.h; have := b.h; omega⟩
theorem CodeOk.keep (h : CodeOk W g A n) (hk : ∀ b, b < g → w1.heap[b]? = W.heap[b]?) : CodeOk w1 g A n := by
  intro i hi
  obtain ⟨cb, o, b, h1, h2, h3, h4⟩ := h i hi
  refine ⟨cb, o, b, h1, h2, ?_, h4⟩
  have := hk cb h2
  unfold World.cell? at *
  simp only [this] at *
  exact h3
theorem Cur.keep (b : Cur W g k) (hk : ∀ b, b ≤ g → w1.heap[b]? = W.heap[b]?) : Cur w1 g k := ⟨by
  obtain ⟨A, n, c, p, s, ⟨h1, h2, h3⟩, h4⟩ := b.h
  exact ⟨A, n, c, p, s, ⟨(hk g (Nat.le_refl _)).trans h1, h2.keep (fun b hb => hk b (by omega)), h3⟩, h4⟩⟩
theorem Cur.lt (b : Cur W g k) : g < W.heap.size := by
  obtain ⟨A, n, c, p, s, ⟨h1, _⟩, _⟩ := b.h
  exact has_lt h1
instance (priority := low) LtB.cur [b : Cur W g k] : LtB g W := ⟨b.lt⟩
instance Cur.bel [a : Bel W w1] [b : Cur W g k] : Cur w1 g k := b.keep fun j hj => a.h.block j (by have := b.lt; omega)
instance Cur.far [a : GtB g g'] [b : Cur W g k] : Cur (W.setCell ⟨g', i, none⟩ u) g k := b.keep fun j hj => Below.heap_setCell _ _ _ _ (by have := a.h; show j ≠ g'; omega)
instance Cur.drew [b : Cur W g k] : Cur W.drew g k := b.keep fun _ _ => rfl
instance Cur.drewN [b : Cur W g k] : Cur (W.drewN n) g k := b.keep fun _ _ => rfl
instance Cur.alloc [b : Cur W g k] : Cur (W.alloc o) g k := b.keep fun j hj => Below.heap_alloc _ _ _ (by have := b.lt; omega)
theorem Cur.le {k' : Int} (b : Cur W g k) (h : k ≤ k') : Cur W g k' := ⟨by
  obtain ⟨A, n, c, p, s, h1, h2⟩ := b.h
  exact ⟨A, n, c, p, s, h1, by omega⟩⟩
/-- its block was written -/
theorem CurAt.set {W : World} {n c : Nat} {p s : Int} (b : CurAt W g A n c p s) {W' : World} {p' s' : Int} (hk : ∀ j, j < g → W'.heap[j]? = W.heap[j]?) (h' : W'.heap[g]? = some (.cells #[.slice A n c, .int .i64 p', .int .u64 s'] 51 (0, 0))) (hp : 0 ≤ p') : CurAt W' g A n c p' s' :=
  ⟨h', b.2.1.keep hk, b.2.2.1, hp⟩
end

theorem CurAt.put {W W' : World} {g : Nat} {A : Option Addr} {n c : Nat} {p s p' s' : Int} (b : CurAt W g A n c p s) (h' : W'.heap[g]? = some (.cells #[.slice A n c, .int .i64 p', .int .u64 s'] 51 (0, 0))) (h : KpP W (XE g) W') (hp : 0 ≤ p') : CurAt W' g A n c p' s' :=
  b.set (fun j hj => h.2.2.2.2 j (by have := has_lt b.1; omega) (fun e => by have : j = g := e; omega)) h' hp
theorem and255 (x : Int) : 0 ≤ bits .and .u64 x 255 ∧ bits .and .u64 x 255 ≤ 255 := by
  have h : (BitVec.ofInt 64 x &&& BitVec.ofInt 64 255).toNat ≤ 255 := by
    rw [BitVec.toNat_and]; exact Nat.le_trans Nat.and_le_right (by decide)
  show 0 ≤ IntKind.u64.wrap ((BitVec.ofInt 64 x &&& BitVec.ofInt 64 255).toNat : Int) ∧ IntKind.u64.wrap ((BitVec.ofInt 64 x &&& BitVec.ofInt 64 255).toNat : Int) ≤ 255
  rw [IntKind.wrap_u64]
  omega
theorem wrap64_in {y : Int} (h0 : 0 ≤ y) (h1 : y ≤ 255) : wrap64 y = y := by unfold wrap64; omega
/-- what a draw leaves -/
def Drew (w : World) (g : Nat) (k : Int) (w' : World) : Prop := Kp w (XE g) w' ∧ Cur w' g k

attribute [local go_sem high] has_cell has_frozen
set_option maxHeartbeats 1600000 in
set_option maxRecDepth 100000 in
theorem next_any (g : Nat) (k : Int) (w : World) [hc : Cur w g k] (hk : k ≤ 1125899906842624) :
    Calls Tryz.prog 113 #[.pointer (some ⟨g, 0, none⟩)] w fun e w' => ∃ r : Int, e = .returned (.int .i64 r) ∧ 0 ≤ r ∧ r ≤ 255 ∧ Drew w g (k + 1) w' := by
  obtain ⟨A, n, c, p, s, hcu, hpk⟩ := hc.h
  haveI H0 : Has w g (.cells #[.slice A n c, .int .i64 p, .int .u64 s] 51 (0, 0)) := ⟨hcu.1⟩
  have h0 := hcu.2.2.2
  have hn := hcu.2.2.1
  have hco := hcu.2.1
  go_enter Tryz.func113, Tryz.ntmps113
  go_wp2
  refine wp_region_held_drew (S := (fun w' => w'.cell? ⟨g, 0, none⟩ = some (.slice A n c) ∧ w'.cell? ⟨g, 1, none⟩ = some (.int .i64 p))) (by kernel_rfl) ?hSn1_ (fun hHeld => ?hRn1_)
  case hSn1_ => (exact ⟨has3.1, has3.2.1⟩)
  refine wpAnyH_take (i := 0) (v := ?vn1_1) rfl (by kernel_rfl) (by kernel_rfl) (by kernel_rfl) (fun _ _ _ h => h) (Or.inl ⟨by rfl, ?hyn1_1⟩) (by assumption) ?hRn1_1
  case hyn1_1 => (intro w hSw; (try dsimp only at hSw); go_simp; (try with_reducible rfl))
  try simp only [Act.put, zp1, zp2, zp3, zp4, zp5, zp6]
  refine wpAnyH_take (i := 1) (v := ?vn1_2) rfl (by kernel_rfl) (by kernel_rfl) (by kernel_rfl) (fun _ _ _ h => h) (Or.inl ⟨by rfl, ?hyn1_2⟩) (by assumption) ?hRn1_2
  case hyn1_2 => (intro w hSw; (try dsimp only at hSw); go_simp; (try with_reducible rfl))
  try simp only [Act.put, zp1, zp2, zp3, zp4, zp5, zp6]
  refine wpAnyH_take (i := 2) (v := ?vn1_3) rfl (by kernel_rfl) (by kernel_rfl) (by kernel_rfl) (fun _ _ _ h => h) (Or.inl ⟨by rfl, ?hyn1_3⟩) (by assumption) ?hRn1_3
  case hyn1_3 => (intro w hSw; (try dsimp only at hSw); go_simp; (try with_reducible rfl))
  try simp only [Act.put, zp1, zp2, zp3, zp4, zp5, zp6]
  refine wpAnyH_take (i := 3) (v := ?vn1_4) rfl (by kernel_rfl) (by kernel_rfl) (by kernel_rfl) (fun _ _ _ h => h) (Or.inl ⟨by rfl, ?hyn1_4⟩) (by assumption) ?hRn1_4
  case hyn1_4 => (intro w hSw; (try dsimp only at hSw); go_simp; (try with_reducible rfl))
  try simp only [Act.put, zp1, zp2, zp3, zp4, zp5, zp6]
  refine wpAnyH_take (i := 4) (v := ?vn1_5) rfl (by kernel_rfl) (by kernel_rfl) (by kernel_rfl) (fun _ _ _ h => h) (Or.inl ⟨by rfl, ?hyn1_5⟩) (by assumption) ?hRn1_5
  case hyn1_5 => (intro w hSw; (try dsimp only at hSw); go_simp; (try with_reducible rfl))
  try simp only [Act.put, zp1, zp2, zp3, zp4, zp5, zp6]
  refine wpAnyH_take (i := 5) (v := ?vn1_6) rfl (by kernel_rfl) (by kernel_rfl) (by kernel_rfl) (fun _ _ _ h => h) (Or.inl ⟨by rfl, ?hyn1_6⟩) (by assumption) ?hRn1_6
  case hyn1_6 => (intro w hSw; (try dsimp only at hSw); go_simp; (try with_reducible rfl))
  try simp only [Act.put, zp1, zp2, zp3, zp4, zp5, zp6]
  refine wpAnyH_take (i := 6) (v := ?vn1_7) rfl (by kernel_rfl) (by kernel_rfl) (by kernel_rfl) (fun _ _ _ h => h) (Or.inl ⟨by rfl, ?hyn1_7⟩) (by assumption) ?hRn1_7
  case hyn1_7 => (intro w hSw; (try dsimp only at hSw); go_simp; (try with_reducible rfl))
  try simp only [Act.put, zp1, zp2, zp3, zp4, zp5, zp6]
  refine wpAnyH_take (i := 7) (v := ?vn1_8) rfl (by kernel_rfl) (by kernel_rfl) (by kernel_rfl) (fun _ _ _ h => h) (Or.inl ⟨by rfl, ?hyn1_8⟩) (by assumption) ?hRn1_8
  case hyn1_8 => (intro w hSw; (try dsimp only at hSw); go_simp; (try with_reducible rfl))
  try simp only [Act.put, zp1, zp2, zp3, zp4, zp5, zp6]
  refine wpAnyH_ready (rs := [8]) (by kernel_rfl) (by simp) ?_
  refine AllReadyH.cons rfl (fun K hK => ?_) AllReadyH.nil
  go_simp
  refine hK.out _ _ ?hSn1_9 (fun hHeld => ?hRn1_9)
  case hSn1_9 => ((try dsimp only); exact ⟨has3.1, has3.2.1⟩)
  clear hK K
  try simp only [Act.put, zp1, zp2, zp3, zp4, zp5, zp6]
  refine wpAnyH_take (i := 9) (v := ?vn1_10) rfl (by kernel_rfl) (by kernel_rfl) (by kernel_rfl) (fun _ _ _ h => h) (Or.inl ⟨by rfl, ?hyn1_10⟩) (by assumption) ?hRn1_10
  case hyn1_10 => (intro w hSw; (try dsimp only at hSw); go_simp; (try with_reducible rfl))
  try simp only [Act.put, zp1, zp2, zp3, zp4, zp5, zp6]
  refine wpAnyH_done (by kernel_rfl) ?_ _
  have hp1 : IntKind.i64.wrap (p + 1) = p + 1 := IntWalk.i64_in _ (by omega)
  by_cases hlt : p < (n : Int)
  · obtain ⟨cb, o, b, rfl, hcb, hcell, hb0, hb1⟩ := hco p.toNat (by omega)
    have hcell' : w.cell? ⟨cb, o + p.toNat, none⟩ = some (.int .u8 b) := hcell
    have hwb : IntKind.i64.wrap b = b := IntWalk.i64_in _ (by omega)
    go_wp2
    refine wp_region_held_drew (S := (fun w' => w'.cell? ⟨g, 0, none⟩ = some (.slice (some ⟨cb, o, none⟩) n c) ∧ w'.cell? ⟨g, 1, none⟩ = some (.int .i64 p) ∧ w'.cell? ⟨cb, o + p.toNat, none⟩ = some (.int .u8 b))) (by kernel_rfl) ?hSn2_ (fun hHeld => ?hRn2_)
    case hSn2_ => (exact ⟨has3.1, has3.2.1, hcell'⟩)
    refine wpAnyH_take (i := 0) (v := ?vn2_1) rfl (by kernel_rfl) (by kernel_rfl) (by kernel_rfl) (fun _ _ _ h => h) (Or.inl ⟨by rfl, ?hyn2_1⟩) (by assumption) ?hRn2_1
    case hyn2_1 => (intro w hSw; (try dsimp only at hSw); go_simp; (try with_reducible rfl))
    try simp only [Act.put, zp1, zp2, zp3, zp4, zp5, zp6]
    refine wpAnyH_take (i := 1) (v := ?vn2_2) rfl (by kernel_rfl) (by kernel_rfl) (by kernel_rfl) (fun _ _ _ h => h) (Or.inl ⟨by rfl, ?hyn2_2⟩) (by assumption) ?hRn2_2
    case hyn2_2 => (intro w hSw; (try dsimp only at hSw); go_simp; (try with_reducible rfl))
    try simp only [Act.put, zp1, zp2, zp3, zp4, zp5, zp6]
    refine wpAnyH_take (i := 2) (v := ?vn2_3) rfl (by kernel_rfl) (by kernel_rfl) (by kernel_rfl) (fun _ _ _ h => h) (Or.inl ⟨by rfl, ?hyn2_3⟩) (by assumption) ?hRn2_3
    case hyn2_3 => (intro w hSw; (try dsimp only at hSw); go_simp; (try with_reducible rfl))
    try simp only [Act.put, zp1, zp2, zp3, zp4, zp5, zp6]
    refine wpAnyH_take (i := 3) (v := ?vn2_4) rfl (by kernel_rfl) (by kernel_rfl) (by kernel_rfl) (fun _ _ _ h => h) (Or.inl ⟨by rfl, ?hyn2_4⟩) (by assumption) ?hRn2_4
    case hyn2_4 => (intro w hSw; (try dsimp only at hSw); go_simp; (try with_reducible rfl))
    try simp only [Act.put, zp1, zp2, zp3, zp4, zp5, zp6]
    refine wpAnyH_take (i := 4) (v := ?vn2_5) rfl (by kernel_rfl) (by kernel_rfl) (by kernel_rfl) (fun _ _ _ h => h) (Or.inl ⟨by rfl, ?hyn2_5⟩) (by assumption) ?hRn2_5
    case hyn2_5 => (intro w hSw; (try dsimp only at hSw); go_simp; (try with_reducible rfl))
    try simp only [Act.put, zp1, zp2, zp3, zp4, zp5, zp6]
    refine wpAnyH_take (i := 5) (v := ?vn2_6) rfl (by kernel_rfl) (by kernel_rfl) (by kernel_rfl) (fun _ _ _ h => h) (Or.inl ⟨by rfl, ?hyn2_6⟩) (by assumption) ?hRn2_6
    case hyn2_6 => (intro w hSw; (try dsimp only at hSw); go_simp; (try with_reducible rfl))
    try simp only [Act.put, zp1, zp2, zp3, zp4, zp5, zp6]
    refine wpAnyH_take (i := 6) (v := ?vn2_7) rfl (by kernel_rfl) (by kernel_rfl) (by kernel_rfl) (fun _ _ _ h => h) (Or.inl ⟨by rfl, ?hyn2_7⟩) (by assumption) ?hRn2_7
    case hyn2_7 => (intro w hSw; (try dsimp only at hSw); go_simp; (try with_reducible rfl))
    try simp only [Act.put, zp1, zp2, zp3, zp4, zp5, zp6]
    refine wpAnyH_take (i := 7) (v := ?vn2_8) rfl (by kernel_rfl) (by kernel_rfl) (by kernel_rfl) (fun _ _ _ h => h) (Or.inl ⟨by rfl, ?hyn2_8⟩) (by assumption) ?hRn2_8
    case hyn2_8 => (intro w hSw; (try dsimp only at hSw); go_simp; (try with_reducible rfl))
    try simp only [Act.put, zp1, zp2, zp3, zp4, zp5, zp6]
    refine wpAnyH_take (i := 8) (v := ?vn2_9) rfl (by kernel_rfl) (by kernel_rfl) (by kernel_rfl) (fun _ _ _ h => h) (Or.inl ⟨by rfl, ?hyn2_9⟩) (by assumption) ?hRn2_9
    case hyn2_9 => (intro w hSw; (try dsimp only at hSw); go_simp; (try with_reducible rfl))
    try simp only [Act.put, zp1, zp2, zp3, zp4, zp5, zp6]
    refine wpAnyH_take (i := 9) (v := ?vn2_10) rfl (by kernel_rfl) (by kernel_rfl) (by kernel_rfl) (fun _ _ _ h => h) (Or.inl ⟨by rfl, ?hyn2_10⟩) (by assumption) ?hRn2_10
    case hyn2_10 => (intro w hSw; (try dsimp only at hSw); go_simp; (try with_reducible rfl))
    try simp only [Act.put, zp1, zp2, zp3, zp4, zp5, zp6]
    refine wpAnyH_take (i := 10) (v := ?vn2_11) rfl (by kernel_rfl) (by kernel_rfl) (by kernel_rfl) (fun _ _ _ h => h) (Or.inl ⟨by rfl, ?hyn2_11⟩) (by assumption) ?hRn2_11
    case hyn2_11 => (intro w hSw; (try dsimp only at hSw); go_simp; (try with_reducible rfl))
    try simp only [Act.put, zp1, zp2, zp3, zp4, zp5, zp6]
    refine wpAnyH_take (i := 11) (v := ?vn2_12) rfl (by kernel_rfl) (by kernel_rfl) (by kernel_rfl) (fun _ _ _ h => h) (Or.inl ⟨by rfl, ?hyn2_12⟩) (by assumption) ?hRn2_12
    case hyn2_12 => (intro w hSw; (try dsimp only at hSw); go_simp; (try with_reducible rfl))
    try simp only [Act.put, zp1, zp2, zp3, zp4, zp5, zp6]
    refine wpAnyH_done (by kernel_rfl) ?_ _
    go_wp2
    have hle : p + 1 ≤ (n : Int) := by omega
    refine wp_region_held_drew (S := (fun w' => w'.cell? ⟨g, 0, none⟩ = some (.slice (some ⟨cb, o, none⟩) n c) ∧ w'.cell? ⟨g, 1, none⟩ = some (.int .i64 (p + 1)))) (by kernel_rfl) ?hSn3_ (fun hHeld => ?hRn3_)
    case hSn3_ => (exact ⟨has3.1, has3.2.1⟩)
    refine wpAnyH_take (i := 0) (v := ?vn3_1) rfl (by kernel_rfl) (by kernel_rfl) (by kernel_rfl) (fun _ _ _ h => h) (Or.inl ⟨by rfl, ?hyn3_1⟩) (by assumption) ?hRn3_1
    case hyn3_1 => (intro w hSw; (try dsimp only at hSw); go_simp; (try with_reducible rfl))
    try simp only [Act.put, zp1, zp2, zp3, zp4, zp5, zp6]
    refine wpAnyH_take (i := 1) (v := ?vn3_2) rfl (by kernel_rfl) (by kernel_rfl) (by kernel_rfl) (fun _ _ _ h => h) (Or.inl ⟨by rfl, ?hyn3_2⟩) (by assumption) ?hRn3_2
    case hyn3_2 => (intro w hSw; (try dsimp only at hSw); go_simp; (try with_reducible rfl))
    try simp only [Act.put, zp1, zp2, zp3, zp4, zp5, zp6]
    refine wpAnyH_take (i := 2) (v := ?vn3_3) rfl (by kernel_rfl) (by kernel_rfl) (by kernel_rfl) (fun _ _ _ h => h) (Or.inl ⟨by rfl, ?hyn3_3⟩) (by assumption) ?hRn3_3
    case hyn3_3 => (intro w hSw; (try dsimp only at hSw); go_simp; (try with_reducible rfl))
    try simp only [Act.put, zp1, zp2, zp3, zp4, zp5, zp6]
    refine wpAnyH_take (i := 3) (v := ?vn3_4) rfl (by kernel_rfl) (by kernel_rfl) (by kernel_rfl) (fun _ _ _ h => h) (Or.inl ⟨by rfl, ?hyn3_4⟩) (by assumption) ?hRn3_4
    case hyn3_4 => (intro w hSw; (try dsimp only at hSw); go_simp; (try with_reducible rfl))
    try simp only [Act.put, zp1, zp2, zp3, zp4, zp5, zp6]
    refine wpAnyH_take (i := 4) (v := ?vn3_5) rfl (by kernel_rfl) (by kernel_rfl) (by kernel_rfl) (fun _ _ _ h => h) (Or.inl ⟨by rfl, ?hyn3_5⟩) (by assumption) ?hRn3_5
    case hyn3_5 => (intro w hSw; (try dsimp only at hSw); go_simp; (try with_reducible rfl))
    try simp only [Act.put, zp1, zp2, zp3, zp4, zp5, zp6]
    refine wpAnyH_take (i := 5) (v := ?vn3_6) rfl (by kernel_rfl) (by kernel_rfl) (by kernel_rfl) (fun _ _ _ h => h) (Or.inl ⟨by rfl, ?hyn3_6⟩) (by assumption) ?hRn3_6
    case hyn3_6 => (intro w hSw; (try dsimp only at hSw); go_simp; (try with_reducible rfl))
    try simp only [Act.put, zp1, zp2, zp3, zp4, zp5, zp6]
    refine wpAnyH_take (i := 6) (v := ?vn3_7) rfl (by kernel_rfl) (by kernel_rfl) (by kernel_rfl) (fun _ _ _ h => h) (Or.inl ⟨by rfl, ?hyn3_7⟩) (by assumption) ?hRn3_7
    case hyn3_7 => (intro w hSw; (try dsimp only at hSw); go_simp; (try with_reducible rfl))
    try simp only [Act.put, zp1, zp2, zp3, zp4, zp5, zp6]
    refine wpAnyH_take (i := 7) (v := ?vn3_8) rfl (by kernel_rfl) (by kernel_rfl) (by kernel_rfl) (fun _ _ _ h => h) (Or.inl ⟨by rfl, ?hyn3_8⟩) (by assumption) ?hRn3_8
    case hyn3_8 => (intro w hSw; (try dsimp only at hSw); go_simp; (try with_reducible rfl))
    try simp only [Act.put, zp1, zp2, zp3, zp4, zp5, zp6]
    refine wpAnyH_ready (rs := [8]) (by kernel_rfl) (by simp) ?_
    refine AllReadyH.cons rfl (fun K hK => ?_) AllReadyH.nil
    go_simp
    refine hK.out _ _ ?hSn3_9 (fun hHeld => ?hRn3_9)
    case hSn3_9 => ((try dsimp only); exact ⟨has3.1, has3.2.1⟩)
    clear hK K
    try simp only [Act.put, zp1, zp2, zp3, zp4, zp5, zp6]
    refine wpAnyH_take (i := 9) (v := ?vn3_10) rfl (by kernel_rfl) (by kernel_rfl) (by kernel_rfl) (fun _ _ _ h => h) (Or.inl ⟨by rfl, ?hyn3_10⟩) (by assumption) ?hRn3_10
    case hyn3_10 => (intro w hSw; (try dsimp only at hSw); go_simp; (try with_reducible rfl))
    try simp only [Act.put, zp1, zp2, zp3, zp4, zp5, zp6]
    refine wpAnyH_done (by kernel_rfl) ?_ _
    go_wp2
    refine bodyPost_ret (v := .int .i64 b) (by simp [results, Tryz.results113, go_sem]) rfl ?_
    exact ⟨b, rfl, hb0, hb1, kp _ _ _, ⟨_, _, _, p + 1, _, hcu.put (has _ g) (kpp w (XE g) _) (by omega), by omega⟩⟩
  · go_wp2
    have hle : ¬ p + 1 ≤ (n : Int) := by omega
    refine wp_region_held_drew (S := (fun w' => w'.cell? ⟨g, 0, none⟩ = some (.slice A n c) ∧ w'.cell? ⟨g, 1, none⟩ = some (.int .i64 (p + 1)))) (by kernel_rfl) ?hSn4_ (fun hHeld => ?hRn4_)
    case hSn4_ => (exact ⟨has3.1, has3.2.1⟩)
    refine wpAnyH_take (i := 0) (v := ?vn4_1) rfl (by kernel_rfl) (by kernel_rfl) (by kernel_rfl) (fun _ _ _ h => h) (Or.inl ⟨by rfl, ?hyn4_1⟩) (by assumption) ?hRn4_1
    case hyn4_1 => (intro w hSw; (try dsimp only at hSw); go_simp; (try with_reducible rfl))
    try simp only [Act.put, zp1, zp2, zp3, zp4, zp5, zp6]
    refine wpAnyH_take (i := 1) (v := ?vn4_2) rfl (by kernel_rfl) (by kernel_rfl) (by kernel_rfl) (fun _ _ _ h => h) (Or.inl ⟨by rfl, ?hyn4_2⟩) (by assumption) ?hRn4_2
    case hyn4_2 => (intro w hSw; (try dsimp only at hSw); go_simp; (try with_reducible rfl))
    try simp only [Act.put, zp1, zp2, zp3, zp4, zp5, zp6]
    refine wpAnyH_take (i := 2) (v := ?vn4_3) rfl (by kernel_rfl) (by kernel_rfl) (by kernel_rfl) (fun _ _ _ h => h) (Or.inl ⟨by rfl, ?hyn4_3⟩) (by assumption) ?hRn4_3
    case hyn4_3 => (intro w hSw; (try dsimp only at hSw); go_simp; (try with_reducible rfl))
    try simp only [Act.put, zp1, zp2, zp3, zp4, zp5, zp6]
    refine wpAnyH_take (i := 3) (v := ?vn4_4) rfl (by kernel_rfl) (by kernel_rfl) (by kernel_rfl) (fun _ _ _ h => h) (Or.inl ⟨by rfl, ?hyn4_4⟩) (by assumption) ?hRn4_4
    case hyn4_4 => (intro w hSw; (try dsimp only at hSw); go_simp; (try with_reducible rfl))
    try simp only [Act.put, zp1, zp2, zp3, zp4, zp5, zp6]
    refine wpAnyH_take (i := 4) (v := ?vn4_5) rfl (by kernel_rfl) (by kernel_rfl) (by kernel_rfl) (fun _ _ _ h => h) (Or.inl ⟨by rfl, ?hyn4_5⟩) (by assumption) ?hRn4_5
    case hyn4_5 => (intro w hSw; (try dsimp only at hSw); go_simp; (try with_reducible rfl))
    try simp only [Act.put, zp1, zp2, zp3, zp4, zp5, zp6]
    refine wpAnyH_take (i := 5) (v := ?vn4_6) rfl (by kernel_rfl) (by kernel_rfl) (by kernel_rfl) (fun _ _ _ h => h) (Or.inl ⟨by rfl, ?hyn4_6⟩) (by assumption) ?hRn4_6
    case hyn4_6 => (intro w hSw; (try dsimp only at hSw); go_simp; (try with_reducible rfl))
    try simp only [Act.put, zp1, zp2, zp3, zp4, zp5, zp6]
    refine wpAnyH_take (i := 6) (v := ?vn4_7) rfl (by kernel_rfl) (by kernel_rfl) (by kernel_rfl) (fun _ _ _ h => h) (Or.inl ⟨by rfl, ?hyn4_7⟩) (by assumption) ?hRn4_7
    case hyn4_7 => (intro w hSw; (try dsimp only at hSw); go_simp; (try with_reducible rfl))
    try simp only [Act.put, zp1, zp2, zp3, zp4, zp5, zp6]
    refine wpAnyH_take (i := 7) (v := ?vn4_8) rfl (by kernel_rfl) (by kernel_rfl) (by kernel_rfl) (fun _ _ _ h => h) (Or.inl ⟨by rfl, ?hyn4_8⟩) (by assumption) ?hRn4_8
    case hyn4_8 => (intro w hSw; (try dsimp only at hSw); go_simp; (try with_reducible rfl))
    try simp only [Act.put, zp1, zp2, zp3, zp4, zp5, zp6]
    refine wpAnyH_ready (rs := [8]) (by kernel_rfl) (by simp) ?_
    refine AllReadyH.cons rfl (fun K hK => ?_) AllReadyH.nil
    go_simp
    refine hK.out _ _ ?hSn4_9 (fun hHeld => ?hRn4_9)
    case hSn4_9 => ((try dsimp only); exact ⟨has3.1, has3.2.1⟩)
    clear hK K
    try simp only [Act.put, zp1, zp2, zp3, zp4, zp5, zp6]
    refine wpAnyH_take (i := 9) (v := ?vn4_10) rfl (by kernel_rfl) (by kernel_rfl) (by kernel_rfl) (fun _ _ _ h => h) (Or.inl ⟨by rfl, ?hyn4_10⟩) (by assumption) ?hRn4_10
    case hyn4_10 => (intro w hSw; (try dsimp only at hSw); go_simp; (try with_reducible rfl))
    try simp only [Act.put, zp1, zp2, zp3, zp4, zp5, zp6]
    refine wpAnyH_done (by kernel_rfl) ?_ _
    go_wp2
    obtain ⟨a0, a1⟩ := and255 (IntKind.u64.wrap (IntKind.u64.wrap (IntKind.u64.wrap (s * 6364136223846793005)) + 1442695040888963407) / 1099511627776)
    generalize bits BinOp.and IntKind.u64 (IntKind.u64.wrap (IntKind.u64.wrap (IntKind.u64.wrap (s * 6364136223846793005)) + 1442695040888963407) / 1099511627776) 255 = y at *
    simp only [wrap64_in a0 a1]
    refine bodyPost_ret (v := .int .i64 y) (by simp [results, Tryz.results113, go_sem]) rfl ?_
    exact ⟨y, rfl, a0, a1, kp _ _ _, ⟨_, _, _, p + 1, _, hcu.put (has _ g) (kpp w (XE g) _) (by omega), by omega⟩⟩

theorem drew (w : World) (g : Nat) (W : World) {k k1 : Int} [a : KpI w (XE g) W] [b : Cur W g k1] (h : k1 ≤ k) : Drew w g k W := ⟨kp _ _ _, b.le h⟩
set_option maxHeartbeats 1600000 in
theorem pick_any (n : Int) (g : Nat) (k : Int) (w : World) [hc : Cur w g k] (hn : n ≤ 1073741824) (hk : k ≤ 562949953421312) :
    Calls Tryz.prog 70 #[.pointer (some ⟨g, 0, none⟩), .int .i64 n] w fun e w' => ∃ r : Int, e = .returned (.int .i64 r) ∧ 0 ≤ r ∧ (r < n ∨ r = 0) ∧ Drew w g (k + 2) w' := by
  go_enter Tryz.func70, Tryz.ntmps70
  by_cases h1 : n ≤ 1
  · go_wp2
    refine bodyPost_ret (v := .int .i64 0) (by simp [results, Tryz.results70, go_sem]) rfl ?_
    exact ⟨0, rfl, by omega, .inr rfl, drew _ _ _ (by omega)⟩
  · by_cases h2 : n ≤ 200
    · go_wp2_with (((fail_if_success (have _q := r9)); go_at_call 113; refine (next_any g _ _ (by omega)).mono ?_; rintro e9 w9 ⟨r9, rfl, ha9, hb9, h1, h2⟩; haveI := h1; haveI := h2; clear h1 h2))
      have b1 : 0 ≤ r9 % n := Int.emod_nonneg _ (by omega)
      have b2 : r9 % n < n := Int.emod_lt_of_pos r9 (by omega)
      refine bodyPost_ret (v := .int .i64 (r9 % n)) (by simp [results, Tryz.results70, go_sem]) rfl ?_
      exact ⟨_, rfl, b1, .inl b2, drew _ _ _ (by omega)⟩
    · go_wp2_with (first | ((fail_if_success (have _q := r9)); go_at_call 113; refine (next_any g _ _ (by omega)).mono ?_; rintro e9 w9 ⟨r9, rfl, ha9, hb9, h1, h2⟩; haveI := h1; haveI := h2; clear h1 h2) | ((fail_if_success (have _q := r15)); go_at_call 113; refine (next_any g _ _ (by omega)).mono ?_; rintro e15 w15 ⟨r15, rfl, ha15, hb15, h1, h2⟩; haveI := h1; haveI := h2; clear h1 h2))
      have b1 : 0 ≤ (r9 * 256 + r15) % n := Int.emod_nonneg _ (by omega)
      have b2 : (r9 * 256 + r15) % n < n := Int.emod_lt_of_pos _ (by omega)
      refine bodyPost_ret (v := .int .i64 ((r9 * 256 + r15) % n)) (by simp [results, Tryz.results70, go_sem]) rfl ?_
      exact ⟨_, rfl, b1, .inl b2, drew _ _ _ (by omega)⟩

set_option maxHeartbeats 1600000 in
theorem one_any (n : Int) (g : Nat) (k : Int) (w : World) [hc : Cur w g k] (hn : n ≤ 1073741824) (hk : k ≤ 562949953421312) :
    Calls Tryz.prog 25 #[.pointer (some ⟨g, 0, none⟩), .int .i64 n] w fun e w' => ∃ r : Bool, e = .returned (.bool r) ∧ Drew w g (k + 2) w' := by
  go_enter Tryz.func25, Tryz.ntmps25
  go_wp2_with (((fail_if_success (have _q := r7)); go_at_call 70; refine (pick_any n g _ _ (by omega) (by omega)).mono ?_; rintro e7 w7 ⟨r7, rfl, ha7, hb7, h1, h2⟩; haveI := h1; haveI := h2; clear h1 h2))
  refine bodyPost_ret (v := .bool (r7 == 0)) (by simp [results, Tryz.results25, go_sem]) rfl ?_
  exact ⟨_, rfl, drew _ _ _ (by omega)⟩

/-- a list whose elements can be read -/
def ListOk (P : Value → Prop) (W : World) (A : Option Addr) (n : Nat) : Prop := ∀ i, i < n → ∃ (b o : Nat) (v : Value), A = some ⟨b, o, none⟩ ∧ W.cell? ⟨b, o + i, none⟩ = some v ∧ P v
theorem ListOk.of {P : Value → Prop} {W : World} {G n : Nat} {cs : Array Value} {t : TypeId} {fr : Nat × Nat} [a : Has W G (.cells cs t fr)] (h : ∀ v ∈ cs.toList, P v) (hn : cs.size = n) : ListOk P W (some ⟨G, 0, none⟩) n := fun i hi =>
  ⟨G, 0, cs[i], rfl, by rw [has_cell, Nat.zero_add]; exact Array.getElem?_eq_getElem (by omega), h _ (by simp)⟩
set_option maxHeartbeats 1600000 in
set_option maxRecDepth 100000 in
theorem among_any (P : Int → Prop) (A : Option Addr) (n c : Nat) (g : Nat) (k : Int) (w : World) [hc : Cur w g k] (hn : 0 < n ∧ n ≤ 1073741824) (hk : k ≤ 562949953421312)
    (hl : ∀ w', Kp w (XE g) w' → ListOk (fun v => ∃ j, v = .int .i64 j ∧ P j) w' A n) :
    Calls Tryz.prog 24 #[.pointer (some ⟨g, 0, none⟩), .slice A n c] w fun e w' => ∃ j : Int, e = .returned (.int .i64 j) ∧ P j ∧ Drew w g (k + 2) w' := by
  go_enter Tryz.func24, Tryz.ntmps24
  go_wp2_with (((fail_if_success (have _q := r9)); go_at_call 70; refine (pick_any (n : Int) g _ _ (by omega) (by omega)).mono ?_; rintro e9 w9 ⟨r9, rfl, ha9, hb9, h1, h2⟩; haveI := h1; haveI := h2; clear h1 h2); obtain ⟨b, o, v, hA, hcell, j, rfl, hP⟩ := hl w9 inferInstance r9.toNat (by omega); subst hA)
  refine bodyPost_ret (v := .int .i64 j) (by simp [results, Tryz.results24, go_sem]) rfl ?_
  exact ⟨j, rfl, hP, drew _ _ _ (by omega)⟩
set_option maxHeartbeats 1600000 in
set_option maxRecDepth 100000 in
theorem of_any (P : ByteArray → Prop) (A : Option Addr) (n c : Nat) (g : Nat) (k : Int) (w : World) [hc : Cur w g k] (hn : 0 < n ∧ n ≤ 1073741824) (hk : k ≤ 562949953421312)
    (hl : ∀ w', Kp w (XE g) w' → ListOk (fun v => ∃ j, v = .string j ∧ P j) w' A n) :
    Calls Tryz.prog 142 #[.pointer (some ⟨g, 0, none⟩), .slice A n c] w fun e w' => ∃ j : ByteArray, e = .returned (.string j) ∧ P j ∧ Drew w g (k + 2) w' := by
  go_enter Tryz.func142, Tryz.ntmps142
  go_wp2_with (((fail_if_success (have _q := r9)); go_at_call 70; refine (pick_any (n : Int) g _ _ (by omega) (by omega)).mono ?_; rintro e9 w9 ⟨r9, rfl, ha9, hb9, h1, h2⟩; haveI := h1; haveI := h2; clear h1 h2); obtain ⟨b, o, v, hA, hcell, j, rfl, hP⟩ := hl w9 inferInstance r9.toNat (by omega); subst hA)
  refine bodyPost_ret (v := .string j) (by simp [results, Tryz.results142, go_sem]) rfl ?_
  exact ⟨j, rfl, hP, drew _ _ _ (by omega)⟩

theorem size0 : (⟨#[]⟩ : ByteArray).size = 0 := rfl
set_option maxHeartbeats 1600000 in
set_option maxRecDepth 100000 in
theorem word_any (n : Int) (g : Nat) (k : Int) (w : World) [hc : Cur w g k] (hn : 0 ≤ n ∧ n ≤ 100) (hk : k ≤ 281474976710656) :
    Calls Tryz.prog 121 #[.pointer (some ⟨g, 0, none⟩), .int .i64 n] w fun e w' => ∃ s : ByteArray, e = .returned (.string s) ∧ (s.size : Int) ≤ n ∧ Drew w g (k + 1000) w' := by
  go_enter Tryz.func121, Tryz.ntmps121
  go_wp2_with (((fail_if_success (have _q := r10)); go_at_call 70; refine (pick_any (n + 1) g _ _ (by omega) (by omega)).mono ?_; rintro e10 w10 ⟨r10, rfl, ha10, hb10, h1, h2⟩; haveI := h1; haveI := h2; clear h1 h2))
  go_loopw [5, 6] (fun s i wr => ∃ (m : Nat) (u : ByteArray), s = .string u ∧ i = .int .i64 m ∧ (u.size : Int) + m ≤ n ∧ Kp w10 (XE g) wr ∧ Cur wr g (k + 1000 - 2 * m)) (fun _ i _ => (intOf i).toNat)
  case atStart =>
    exact ⟨r10.toNat, _, rfl, by go_num, by rw [size0]; omega, kp _ _ _, Cur.le inferInstance (by omega)⟩
  case round =>
    obtain ⟨m, u, rfl, rfl, hu, _, hcr⟩ := hrel
    haveI := hcr
    by_cases hm : m = 0
    · subst hm
      go_wp2
      refine bodyPost_ret (v := .string u) (by simp [results, Tryz.results121, go_sem]) rfl ?_
      exact ⟨u, rfl, by omega, drew _ _ _ (by omega)⟩
    · go_wp2_with (((fail_if_success (have _q := r18)); go_at_call 142; refine (of_any (fun s => s.size = 1) _ 3 _ g _ _ (by omega) (by omega) (fun W hW => by haveI := hW; exact ListOk.of (by simp; try decide) rfl)).mono ?_; rintro e18 w18 ⟨r18, rfl, hp18, h1, h2⟩; haveI := h1; haveI := h2; clear h1 h2))
      exact ⟨⟨m - 1, u ++ r18, rfl, by go_num, by rw [ByteArray.size_append, hp18]; omega, kp _ _ _, Cur.le inferInstance (by omega)⟩, by simp [intOf]; omega⟩
end Go.Proofs.YtonlfnbjbmgegaaGreat
