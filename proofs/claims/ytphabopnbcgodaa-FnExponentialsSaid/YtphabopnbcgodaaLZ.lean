/-
  What is held at a world is found by classes: each fact stands at the world where it arose, and is carried to later worlds when it is asked for.
-/
import Derived.Test.YtphabopnbcgodaaWTree
import Derived.Test.YtphabopnbcgodaaWClone
namespace Go.Proofs.Ytphabopnbcgodaa
open Go.RowKit
set_option linter.unusedSimpArgs false
set_option linter.unusedVariables false

/-- w1 is the world behind a call (or an allocation) at W -/
class Bel (W : outParam World) (w1 : World) : Prop where h : Below W.heap.size W w1
class Has (W : World) (g : Nat) (o : outParam Obj) : Prop where h : W.heap[g]? = some o
/-- the block that an allocation at W made -/
class Born (g : Nat) (W : outParam World) : Prop where h : g = W.heap.size
/-- an allocation at W leads to w1 -/
class Nx (W : World) (w1 : outParam World) : Prop where h : W.heap.size < w1.heap.size
/-- W comes behind v (told) -/
class Aft (v : outParam World) (W : World) : Prop where h : v.heap.size ≤ W.heap.size
class LeB (w W : World) : Prop where h : w.heap.size ≤ W.heap.size
class LtB (g : Nat) (W : World) : Prop where h : g < W.heap.size
class GeB (w : World) (g : Nat) : Prop where h : w.heap.size ≤ g
class NeB (a b : Nat) : Prop where h : a ≠ b
class XOk (X : Nat → Prop) (g : Nat) : Prop where h : X g
/-- all that w held is still there -/
class Ext (w W : World) : Prop where h : Below w.heap.size w W
/-- the tree at A can be read; none of its blocks is one of X -/
class Tr (W : World) (A : Option Addr) (X : outParam (Nat → Prop)) (x : outParam Sur) (c : outParam Nat) : Prop where h : SSl X W x A c
/-- the tree at A has blocks of its own, made from U on, there at v -/
class Fs (W : World) (A : Option Addr) (U v : outParam World) (x : outParam Sur) (c : outParam Nat) : Prop where
  h : ∃ bs, STree W x A c bs ∧ bs.Nodup ∧ ∀ k ∈ bs, U.heap.size ≤ k ∧ k < v.heap.size

theorem has_lt {w : World} {g : Nat} {o : Obj} (h : w.heap[g]? = some o) : g < w.heap.size := (Array.getElem?_eq_some_iff.1 h).1
def XV (v : World) (X : Nat → Prop) (k : Nat) : Prop := v.heap.size ≤ k ∨ X k
def XL (U : World) (k : Nat) : Prop := k < U.heap.size
def XE (b k : Nat) : Prop := k = b
def XN (k : Nat) : Prop := False
def XU (X Y : Nat → Prop) (k : Nat) : Prop := X k ∨ Y k

section
variable {w w1 W U v : World} {g g' i n : Nat} {o : Obj} {u : Value} {X Y : Nat → Prop} {A : Option Addr} {x : Sur} {c : Nat} {t : TypeId} {fr : Nat × Nat}
instance LeB.same : LeB w w := ⟨Nat.le_refl _⟩
instance LeB.bel [a : Bel W w1] [b : LeB w W] : LeB w w1 := ⟨Nat.le_trans b.h a.h.size⟩
instance LeB.set {p : Addr} [b : LeB w W] : LeB w (W.setCell p u) := ⟨by rw [World.size_setCell]; exact b.h⟩
instance LeB.drew [b : LeB w W] : LeB w W.drew := ⟨b.h⟩
instance LeB.drewN [b : LeB w W] : LeB w (W.drewN n) := ⟨b.h⟩
instance (priority := low) LeB.setl {p : Addr} [b : LeB w W] : LeB (w.setCell p u) W := ⟨by rw [World.size_setCell]; exact b.h⟩
instance (priority := low) LeB.drewl [b : LeB w W] : LeB w.drew W := ⟨b.h⟩
instance (priority := low) LeB.ext [b : Ext w W] : LeB w W := ⟨b.h.size⟩
instance (priority := low) LeB.aft [a : Aft v W] [b : LeB w v] : LeB w W := ⟨Nat.le_trans b.h a.h⟩
instance (priority := low) LtB.aft [a : Aft v W] [b : LtB g v] : LtB g W := ⟨Nat.lt_of_lt_of_le b.h a.h⟩
instance (priority := low) LtB.has [a : Has W g o] : LtB g W := ⟨has_lt a.h⟩
instance LtB.born {W0 : World} [a : Born g W0] [e : Nx W0 w1] [b : LeB w1 W] : LtB g W := ⟨by have := a.h; have := e.h; have := b.h; omega⟩
instance GeB.born [a : Born g W] [b : LeB w W] : GeB w g := ⟨by rw [a.h]; exact b.h⟩
instance NeB.l [a : Born g' W] [b : LtB g W] : NeB g g' := ⟨by have := a.h; have := b.h; omega⟩
instance NeB.r [a : Born g W] [b : LtB g' W] : NeB g g' := ⟨by have := a.h; have := b.h; omega⟩

instance Ext.same : Ext w w := ⟨Below.refl _ _⟩
instance Ext.bel [a : Bel W w1] [b : Ext w W] : Ext w w1 := ⟨b.h.trans (a.h.mono b.h.size)⟩
instance Ext.set {k : Option Nat} [b : Ext w W] [a : GeB w g] : Ext w (W.setCell ⟨g, i, k⟩ u) := ⟨b.h.setCell a.h _⟩
instance Ext.drew [b : Ext w W] : Ext w W.drew := ⟨b.h.drew⟩
instance Ext.drewN [b : Ext w W] : Ext w (W.drewN n) := ⟨Below.drewN b.h n⟩

instance Has.bel [a : Bel W w1] [b : Has W g o] : Has w1 g o := ⟨(a.h.block g (has_lt b.h)).trans b.h⟩
instance Has.far [a : NeB g g'] [b : Has W g o] : Has (W.setCell ⟨g', i, none⟩ u) g o := ⟨(Below.heap_setCell _ _ _ _ a.h).trans b.h⟩
instance Has.drew [b : Has W g o] : Has W.drew g o := ⟨b.h⟩
instance Has.drewN [b : Has W g o] : Has (W.drewN n) g o := ⟨b.h⟩
theorem Has.put {cs : Array Value} [b : Has W g (.cells cs t (0, 0))] : (W.setCell ⟨g, i, none⟩ u).heap[g]? = some (.cells (cs.setIfInBounds i u) t (0, 0)) := by
  have := b.h
  simp [World.setCell, Array.getElem?_modify, this]
instance Has.n11 {a0 : Value} [b : Has W g (.cells #[a0] t (0, 0))] : Has (W.setCell ⟨g, 0, none⟩ u) g (.cells #[u] t (0, 0)) := ⟨by simpa using Has.put (cs := #[a0]) (i := 0) (u := u) (b := b)⟩
instance Has.n21 {a0 a1 : Value} [b : Has W g (.cells #[a0, a1] t (0, 0))] : Has (W.setCell ⟨g, 0, none⟩ u) g (.cells #[u, a1] t (0, 0)) := ⟨by simpa using Has.put (cs := #[a0, a1]) (i := 0) (u := u) (b := b)⟩
instance Has.n22 {a0 a1 : Value} [b : Has W g (.cells #[a0, a1] t (0, 0))] : Has (W.setCell ⟨g, 1, none⟩ u) g (.cells #[a0, u] t (0, 0)) := ⟨by simpa using Has.put (cs := #[a0, a1]) (i := 1) (u := u) (b := b)⟩
instance Has.n31 {a0 a1 a2 : Value} [b : Has W g (.cells #[a0, a1, a2] t (0, 0))] : Has (W.setCell ⟨g, 0, none⟩ u) g (.cells #[u, a1, a2] t (0, 0)) := ⟨by simpa using Has.put (cs := #[a0, a1, a2]) (i := 0) (u := u) (b := b)⟩
instance Has.n32 {a0 a1 a2 : Value} [b : Has W g (.cells #[a0, a1, a2] t (0, 0))] : Has (W.setCell ⟨g, 1, none⟩ u) g (.cells #[a0, u, a2] t (0, 0)) := ⟨by simpa using Has.put (cs := #[a0, a1, a2]) (i := 1) (u := u) (b := b)⟩
instance Has.n33 {a0 a1 a2 : Value} [b : Has W g (.cells #[a0, a1, a2] t (0, 0))] : Has (W.setCell ⟨g, 2, none⟩ u) g (.cells #[a0, a1, u] t (0, 0)) := ⟨by simpa using Has.put (cs := #[a0, a1, a2]) (i := 2) (u := u) (b := b)⟩

theorem has_cell {cs : Array Value} [b : Has W g (.cells cs t fr)] : W.cell? ⟨g, i, none⟩ = cs[i]? := cell_of_row W g i cs t fr b.h
theorem has_frozen {cs : Array Value} [b : Has W g (.cells cs t (0, 0))] : W.frozen? ⟨g, i, none⟩ = false := by
  have := b.h
  simp [World.frozen?, this]

theorem has1 {a0 : Value} [b : Has W g (.cells #[a0] t fr)] : W.cell? ⟨g, 0, none⟩ = some a0 := cell_of_row W g 0 _ t fr b.h
theorem has2 {a0 a1 : Value} [b : Has W g (.cells #[a0, a1] t fr)] : W.cell? ⟨g, 0, none⟩ = some a0 ∧ W.cell? ⟨g, 1, none⟩ = some a1 := ⟨cell_of_row W g 0 _ t fr b.h, cell_of_row W g 1 _ t fr b.h⟩
theorem has3 {a0 a1 a2 : Value} [b : Has W g (.cells #[a0, a1, a2] t fr)] : W.cell? ⟨g, 0, none⟩ = some a0 ∧ W.cell? ⟨g, 1, none⟩ = some a1 ∧ W.cell? ⟨g, 2, none⟩ = some a2 := ⟨cell_of_row W g 0 _ t fr b.h, cell_of_row W g 1 _ t fr b.h, cell_of_row W g 2 _ t fr b.h⟩
/-- an allocation that has got no name -/
instance Born.here : Born W.heap.size W := ⟨rfl⟩
instance LeB.alloc [b : LeB w W] : LeB w (W.alloc o) := ⟨by rw [World.size_alloc]; have := b.h; omega⟩
instance Ext.alloc [b : Ext w W] : Ext w (W.alloc o) := ⟨b.h.alloc b.h.size _⟩
class Sz (W W0 : World) : Prop where h : W.heap.size = W0.heap.size
instance Sz.same : Sz W W := ⟨rfl⟩
instance Sz.set {p : Addr} {W0 : World} [a : Sz W W0] : Sz (W.setCell p u) W0 := ⟨by rw [World.size_setCell]; exact a.h⟩
instance Sz.drew {W0 : World} [a : Sz W W0] : Sz W.drew W0 := ⟨a.h⟩
instance Sz.drewN {W0 : World} [a : Sz W W0] : Sz (W.drewN n) W0 := ⟨a.h⟩
instance Has.here {cs : Array Value} {W0 : World} [a : Sz W W0] : Has (W.alloc (.cells cs t)) W0.heap.size (.cells cs t (0, 0)) := ⟨by rw [← a.h]; exact Blk.new W t cs⟩
instance Has.alloc {o' : Obj} [b : Has W g o] : Has (W.alloc o') g o := ⟨(Below.heap_alloc W o' g (has_lt b.h)).trans b.h⟩
instance Tr.alloc [b : Tr W A X x c] : Tr (W.alloc o) A X x c := ⟨b.h.below ((Below.refl _ _).alloc (Nat.le_refl _) _)⟩
instance Fs.alloc [b : Fs W A U v x c] : Fs (W.alloc o) A U v x c := ⟨by
  obtain ⟨bs, h1, h2, h3⟩ := b.h
  exact ⟨bs, h1.below ((Below.refl _ _).alloc (Nat.le_refl _) _), h2, h3⟩⟩
instance XOk.iv [a : GeB v g] : XOk (XV v X) g := ⟨.inl a.h⟩
instance (priority := low) XOk.ix [a : XOk X g] : XOk (XV v X) g := ⟨.inr a.h⟩
instance XOk.il [a : LtB g U] : XOk (XL U) g := ⟨a.h⟩
instance XOk.ie : XOk (XE g) g := ⟨rfl⟩
instance XOk.u1 [a : XOk X g] : XOk (XU X Y) g := ⟨.inl a.h⟩
instance (priority := low) XOk.u2 [a : XOk Y g] : XOk (XU X Y) g := ⟨.inr a.h⟩

instance Tr.bel [a : Bel W w1] [b : Tr W A X x c] : Tr w1 A X x c := ⟨b.h.below a.h⟩
instance Tr.set {k : Option Nat} [b : Tr W A X x c] [a : XOk X g] : Tr (W.setCell ⟨g, i, k⟩ u) A X x c := ⟨b.h.far (p := ⟨g, i, k⟩) a.h u⟩
instance Tr.drew [b : Tr W A X x c] : Tr W.drew A X x c := ⟨b.h.below (Below.refl _ _).drew⟩
instance Tr.drewN [b : Tr W A X x c] : Tr (W.drewN n) A X x c := ⟨b.h.below (Below.drewN (Below.refl _ _) n)⟩

instance Fs.bel [a : Bel W w1] [b : Fs W A U v x c] : Fs w1 A U v x c := ⟨by
  obtain ⟨bs, h1, h2, h3⟩ := b.h
  exact ⟨bs, h1.below a.h, h2, h3⟩⟩
theorem Fs.far {p : Addr} (b : Fs W A U v x c) (a : p.block < U.heap.size ∨ v.heap.size ≤ p.block) : Fs (W.setCell p u) A U v x c := ⟨by
  obtain ⟨bs, h1, h2, h3⟩ := b.h
  refine ⟨bs, h1.keep (by simp) (fun k hk => Below.heap_setCell _ _ _ _ ?_), h2, h3⟩
  have := h3 k hk
  omega⟩
instance Fs.set1 {k : Option Nat} [b : Fs W A U v x c] [a : LtB g U] : Fs (W.setCell ⟨g, i, k⟩ u) A U v x c := Fs.far b (.inl a.h)
instance Fs.set2 {k : Option Nat} [b : Fs W A U v x c] [a : GeB v g] : Fs (W.setCell ⟨g, i, k⟩ u) A U v x c := Fs.far b (.inr a.h)
instance Fs.drew [b : Fs W A U v x c] : Fs W.drew A U v x c := ⟨by obtain ⟨bs, h1, h2⟩ := b.h; exact ⟨bs, h1.below (Below.refl _ _).drew, h2⟩⟩
instance Fs.drewN [b : Fs W A U v x c] : Fs (W.drewN n) A U v x c := ⟨by obtain ⟨bs, h1, h2⟩ := b.h; exact ⟨bs, h1.below (Below.drewN (Below.refl _ _) n), h2⟩⟩
instance (priority := low) Tr.own [b : Fs W A U v x c] : Tr W A (XV v (XL U)) x c := ⟨by
  obtain ⟨bs, h1, h2, h3⟩ := b.h
  refine h1.toS (fun k hk hX => ?_)
  have := h3 k hk
  rcases hX with h | h
  · omega
  · have : k < U.heap.size := h
    omega⟩
theorem Fs.of (h : SFresh U.heap.size W x A c) : Fs W A U W x c := ⟨by
  obtain ⟨bs, h1, h2, h3⟩ := h
  exact ⟨bs, h1, h2, fun k hk => ⟨h3 k hk, h1.lt k hk⟩⟩⟩
theorem belM {p : Addr} (h : Below W.heap.size (W.setCell p u) w1) : Bel (W.setCell p u) w1 := ⟨by rw [World.size_setCell]; exact h⟩
/-- what a loop's relation says of a tree: apart from these blocks, and from all that comes -/
class XSub (B X : Nat → Prop) : Prop where h : ∀ k, B k → X k
instance XSub.ie [a : XOk X g] : XSub (XE g) X := ⟨fun k hk => by have : k = g := hk; subst this; exact a.h⟩
instance XSub.iu {B C : Nat → Prop} [a : XSub B X] [b : XSub C X] : XSub (XU B C) X := ⟨fun k hk => hk.elim (a.h k) (b.h k)⟩
instance XSub.in_ : XSub XN X := ⟨fun k hk => hk.elim⟩
/-- what a loop leaves: of what W held, only blocks of S were written -/
def KpP (W : World) (S : Nat → Prop) (w1 : World) : Prop := w1.os = W.os ∧ w1.tape = W.tape ∧ w1.output = W.output ∧ W.heap.size ≤ w1.heap.size ∧ ∀ k, k < W.heap.size → ¬ S k → w1.heap[k]? = W.heap[k]?
class Kp (W : outParam World) (S : outParam (Nat → Prop)) (w1 : World) : Prop where h : KpP W S w1
class KpI (W : World) (S : Nat → Prop) (w1 : World) : Prop where h : KpP W S w1
class XNot (S : Nat → Prop) (g : Nat) : Prop where h : ¬ S g
class XGe (w : World) (S : Nat → Prop) : Prop where h : ∀ k, S k → w.heap.size ≤ k
class XOut (U v : World) (S : Nat → Prop) : Prop where h : ∀ k, S k → k < U.heap.size ∨ v.heap.size ≤ k
instance XNot.ie [a : NeB g g'] : XNot (XE g') g := ⟨fun h => a.h h⟩
instance XNot.iu {B C : Nat → Prop} [a : XNot B g] [b : XNot C g] : XNot (XU B C) g := ⟨fun h => h.elim a.h b.h⟩
instance XNot.in_ : XNot XN g := ⟨fun h => h⟩
instance XGe.ie [a : GeB w g] : XGe w (XE g) := ⟨fun k hk => by have : k = g := hk; subst this; exact a.h⟩
instance XGe.iu {B C : Nat → Prop} [a : XGe w B] [b : XGe w C] : XGe w (XU B C) := ⟨fun k h => h.elim (a.h k) (b.h k)⟩
instance XGe.in_ : XGe w XN := ⟨fun k h => h.elim⟩
instance XOut.ie1 [a : LtB g U] : XOut U v (XE g) := ⟨fun k hk => by have : k = g := hk; subst this; exact .inl a.h⟩
instance XOut.ie2 [a : GeB v g] : XOut U v (XE g) := ⟨fun k hk => by have : k = g := hk; subst this; exact .inr a.h⟩
instance XOut.iu {B C : Nat → Prop} [a : XOut U v B] [b : XOut U v C] : XOut U v (XU B C) := ⟨fun k h => h.elim (a.h k) (b.h k)⟩
instance XOut.in_ : XOut U v XN := ⟨fun k h => h.elim⟩
instance KpI.of {S : Nat → Prop} [a : Kp W S w1] : KpI W S w1 := ⟨a.h⟩
instance KpI.same {S : Nat → Prop} : KpI W S W := ⟨rfl, rfl, rfl, Nat.le_refl _, fun _ _ _ => rfl⟩
instance KpI.bel {S : Nat → Prop} {W1 : World} [a : Bel W1 w1] [b : KpI W S W1] : KpI W S w1 := ⟨by
  obtain ⟨h1, h2, h3, h4, h5⟩ := b.h
  exact ⟨a.h.os.trans h1, a.h.tape.trans h2, a.h.output.trans h3, Nat.le_trans h4 a.h.size, fun k hk hS => (a.h.block k (Nat.lt_of_lt_of_le hk h4)).trans (h5 k hk hS)⟩⟩
theorem KpI.put {S : Nat → Prop} {W1 : World} {p : Addr} (b : KpI W S W1) (a : S p.block ∨ W.heap.size ≤ p.block) : KpI W S (W1.setCell p u) := ⟨by
  obtain ⟨h1, h2, h3, h4, h5⟩ := b.h
  refine ⟨h1, h2, h3, by rw [World.size_setCell]; exact h4, fun k hk hS => ?_⟩
  rw [Below.heap_setCell _ _ _ _ ?_]
  · exact h5 k hk hS
  · rintro rfl
    rcases a with a | a
    · exact hS a
    · omega⟩
instance KpI.set1 {S : Nat → Prop} {W1 : World} {k : Option Nat} [b : KpI W S W1] [a : XOk S g] : KpI W S (W1.setCell ⟨g, i, k⟩ u) := KpI.put b (.inl a.h)
instance KpI.set2 {S : Nat → Prop} {W1 : World} {k : Option Nat} [b : KpI W S W1] [a : GeB W g] : KpI W S (W1.setCell ⟨g, i, k⟩ u) := KpI.put b (.inr a.h)
instance KpI.drew {S : Nat → Prop} {W1 : World} [b : KpI W S W1] : KpI W S W1.drew := ⟨b.h⟩
instance KpI.drewN {S : Nat → Prop} {W1 : World} [b : KpI W S W1] : KpI W S (W1.drewN n) := ⟨b.h⟩
instance KpI.alloc {S : Nat → Prop} {W1 : World} [b : KpI W S W1] : KpI W S (W1.alloc o) := ⟨by
  obtain ⟨h1, h2, h3, h4, h5⟩ := b.h
  exact ⟨h1, h2, h3, by rw [World.size_alloc]; omega, fun k hk hS => (Below.heap_alloc W1 o k (by omega)).trans (h5 k hk hS)⟩⟩
instance KpI.kp {S S' : Nat → Prop} {W1 : World} [a : Kp W1 S' w1] [b : KpI W S W1] [e : XSub S' S] : KpI W S w1 := ⟨by
  obtain ⟨h1, h2, h3, h4, h5⟩ := b.h
  obtain ⟨k1, k2, k3, k4, k5⟩ := a.h
  exact ⟨k1.trans h1, k2.trans h2, k3.trans h3, Nat.le_trans h4 k4, fun k hk hS => (k5 k (Nat.lt_of_lt_of_le hk h4) (fun h => hS (e.h k h))).trans (h5 k hk hS)⟩⟩
theorem kp (W : World) (S : Nat → Prop) (w1 : World) [a : KpI W S w1] : Kp W S w1 := ⟨a.h⟩
instance LeB.kp {S : Nat → Prop} [a : Kp W S w1] [b : LeB w W] : LeB w w1 := ⟨Nat.le_trans b.h a.h.2.2.2.1⟩
instance Has.kp {S : Nat → Prop} [a : Kp W S w1] [e : XNot S g] [b : Has W g o] : Has w1 g o := ⟨(a.h.2.2.2.2 g (has_lt b.h) e.h).trans b.h⟩
instance Ext.kp {S : Nat → Prop} [a : Kp W S w1] [b : Ext w W] [e : XGe w S] : Ext w w1 := ⟨by
  obtain ⟨h1, h2, h3, h4, h5⟩ := a.h
  exact b.h.trans ⟨h1, h2, h3, h4, fun k hk => h5 k (Nat.lt_of_lt_of_le hk b.h.size) (fun hS => by have := e.h k hS; omega)⟩⟩
instance Tr.kp {S : Nat → Prop} [a : Kp W S w1] [b : Tr W A X x c] [e : XSub S X] : Tr w1 A X x c := ⟨b.h.keep (fun k hX hk => ⟨hX, a.h.2.2.2.2 k hk (fun hS => hX (e.h k hS))⟩)⟩
instance Fs.kp {S : Nat → Prop} [a : Kp W S w1] [b : Fs W A U v x c] [e : XOut U v S] : Fs w1 A U v x c := ⟨by
  obtain ⟨bs, h1, h2, h3⟩ := b.h
  refine ⟨bs, h1.keep a.h.2.2.2.1 (fun k hk => a.h.2.2.2.2 k (h1.lt k hk) (fun hS => ?_)), h2, h3⟩
  have := h3 k hk
  have := e.h k hS
  omega⟩
theorem _root_.Go.Proofs.Ytphabopnbcgodaa.SFresh.mono' (h : SFresh U.heap.size W x A c) (w : World) [a : LeB w U] : SFresh w.heap.size W x A c := h.mono a.h
/-- asked for: the tree as the contracts have it -/
theorem tr (W : World) (A : Option Addr) [b : Tr W A X x c] : SSl X W x A c := b.h
theorem fs (W : World) (A : Option Addr) (w : World) [b : Fs W A U v x c] [a : LeB w U] : SFresh w.heap.size W x A c := by
  obtain ⟨bs, h1, h2, h3⟩ := b.h
  exact ⟨bs, h1, h2, fun k hk => Nat.le_trans a.h (h3 k hk).1⟩
theorem ext (w W : World) [b : Ext w W] : Below w.heap.size w W := b.h
theorem has (W : World) (g : Nat) {o : Obj} [b : Has W g o] : W.heap[g]? = some o := b.h
theorem Tr.arg (h : SSl X w x A c) : Tr w A (XV w X) x c := ⟨h.more fun k hk hlt => by
  rcases hk with hk | hk
  · omega
  · exact hk⟩
theorem Tr.lp (B : Nat → Prop) [b : Tr W A X x c] [a : XSub B X] : Tr W A (XV W B) x c := ⟨b.h.more fun k hk hlt => by
  rcases hk with hk | hk
  · omega
  · exact a.h k hk⟩
theorem Fs.lp {U' : World} [b : Fs W A U v x c] [a : LeB U' U] [e : LeB v W] : Fs W A U' W x c := ⟨by
  obtain ⟨bs, h1, h2, h3⟩ := b.h
  refine ⟨bs, h1, h2, fun k hk => ?_⟩
  have := h3 k hk
  have := a.h
  have := e.h
  omega⟩
theorem Fs.nil : Fs W none U v .nil 0 := ⟨[], STree.nil _, by simp, by simp⟩
instance Tr.nil : Tr W none XN .nil 0 := ⟨SSl.nil _ _⟩
end

section
variable {P : Program} {ops : Array Oper} {rest : List Oper} {o : Oper} {a : Act} {Q : Exit → Act → World → Prop}
/-- the operation that writes slot N -/
theorem at_dst {W : World} {N : Tmp} (_hN : o.dst = some N) (h : wpList P ops Q (o :: rest) a W) : wpList P ops Q (o :: rest) a W := h
/-- an allocation: its block and the world behind it get names -/
theorem ev_box {W : World} (hgd : o.guard = none) {cs : Array Value} {t : TypeId}
    (hrun : (execOp a.eval o).run P W = .ok (.value (.pointer (some ⟨W.heap.size, 0, none⟩))) (W.alloc (.cells cs t (0, 0))))
    (h : ∀ g w1, Born g W → Has w1 g (.cells cs t (0, 0)) → Bel W w1 → Nx W w1 → wpList P ops Q rest (a.put o.dst (.pointer (some ⟨g, 0, none⟩))) w1) : wpList P ops Q (o :: rest) a W := by
  refine wpList_plain hgd fun K hK => ?_
  unfold Oper.wp
  rw [hrun, Oper.upon_value]
  exact hK _ _ (h _ _ ⟨rfl⟩ ⟨Blk.new W t cs⟩ ⟨(Below.refl _ _).alloc (Nat.le_refl _) _⟩ ⟨by simp⟩)
end
end Go.Proofs.Ytphabopnbcgodaa
