/-
  Ordinals for the classes.
-/
import Derived.Test.YtdcnmaklnciofaaLZA
import Derived.Test.YtdcnmaklnciofaaOTree
namespace Go.Proofs.Ytdcnmaklnciofaa
open Go.RowKit
set_option linter.unusedSimpArgs false
set_option linter.unusedVariables false

class OT (W : World) (A : Option Addr) (X : outParam (Nat → Prop)) (x : outParam Ord) (c : outParam Nat) : Prop where h : OSl X W x A c
class OR (W : World) (X : outParam (Nat → Prop)) (x : outParam Ord) (xs : List Value) : Prop where h : ORow X W x xs
theorem ORow.more {X Y : Nat → Prop} {w : World} {e : Ord} {xs : List Value} (h : ORow X w e xs) (hY : ∀ k, Y k → k < w.heap.size → X k) : ORow Y w e xs :=
  h.keep fun k hx hk => ⟨fun hy => hx (hY k hy hk), rfl⟩
section
variable {w w1 W U v0 lo hi : World} {g i : Nat} {o : Obj} {u v : Value} {S X Y B : Nat → Prop} {E : TypeId} {n : Nat} {xs : List Value} {x e : Ord} {A : Option Addr} {c : Nat}
instance OT.alloc [b : OT W A X x c] : OT (W.alloc o) A X x c := ⟨b.h.below ((Below.refl _ _).alloc (Nat.le_refl _) _)⟩
instance OT.bel [a : Bel W w1] [b : OT W A X x c] : OT w1 A X x c := ⟨b.h.below a.h⟩
instance OT.set {k : Option Nat} [b : OT W A X x c] [a : XOk X g] : OT (W.setCell ⟨g, i, k⟩ u) A X x c := ⟨b.h.far (p := ⟨g, i, k⟩) a.h u⟩
instance OT.drew [b : OT W A X x c] : OT W.drew A X x c := ⟨b.h.below (Below.refl _ _).drew⟩
instance OT.drewN {j : Nat} [b : OT W A X x c] : OT (W.drewN j) A X x c := ⟨b.h.below (Below.drewN (Below.refl _ _) j)⟩
instance OT.kp [a : Kp W S w1] [b : OT W A X x c] [e : XSub S X] : OT w1 A X x c := ⟨b.h.keep (fun k hX hk => ⟨hX, a.h.2.2.2.2 k hk (fun hS => hX (e.h k hS))⟩)⟩
instance OT.nil : OT W none XN .nil 0 := ⟨OSl.nil _ _⟩
theorem otr (W : World) (A : Option Addr) [b : OT W A X x c] : OSl X W x A c := b.h
theorem OT.arg (h : OSl X w x A c) : OT w A (XV w X) x c := ⟨h.more fun k hk hlt => by
  rcases hk with hk | hk
  · omega
  · exact hk⟩
theorem OT.lp (B : Nat → Prop) [b : OT W A X x c] [a : XSub B X] : OT W A (XV W B) x c := ⟨b.h.more fun k hk hlt => by
  rcases hk with hk | hk
  · omega
  · exact a.h k hk⟩
theorem otx (Y : Nat → Prop) (W : World) (A : Option Addr) [b : OT W A X x c] [a : XSub Y X] : OSl Y W x A c := b.h.more fun k hk _ => a.h k hk
instance OR.bel [a : Bel W w1] [b : OR W X x xs] : OR w1 X x xs := ⟨b.h.below a.h⟩
instance OR.alloc [b : OR W X x xs] : OR (W.alloc o) X x xs := ⟨b.h.below ((Below.refl _ _).alloc (Nat.le_refl _) _)⟩
instance OR.drew [b : OR W X x xs] : OR W.drew X x xs := ⟨b.h.below (Below.refl _ _).drew⟩
instance OR.drewN {j : Nat} [b : OR W X x xs] : OR (W.drewN j) X x xs := ⟨b.h.below (Below.drewN (Below.refl _ _) j)⟩
instance OR.set {k : Option Nat} [b : OR W X x xs] [a : XOk X g] : OR (W.setCell ⟨g, i, k⟩ u) X x xs := ⟨b.h.keep fun j hx _ => ⟨hx, Below.heap_setCell _ _ _ _ (fun e => hx (e ▸ a.h))⟩⟩
instance OR.kp [a : Kp W S w1] [b : OR W X x xs] [e : XSub S X] : OR w1 X x xs := ⟨b.h.keep (fun k hX hk => ⟨hX, a.h.2.2.2.2 k hk (fun hS => hX (e.h k hS))⟩)⟩
theorem OR.nil (W : World) (X : Nat → Prop) : OR W X .nil [] := ⟨rfl⟩
theorem OR.snoc {k : Int} {Ae : Option Addr} {ce : Nat} [b : OR W X x xs] (hs : OSl X W e Ae ce) (hn : I64 k) : OR W X (x.app (.cons e k .nil)) (xs ++ [.slice Ae e.len ce, .int .i64 k]) := ⟨ORow.snoc hs hn b.h⟩
theorem Ord.len_snoc (x e : Ord) (n : Int) : (x.app (.cons e n .nil)).len = x.len + 1 := by simp [Ord.len_app, Ord.len]
theorem Own.osnoc {k : Int} (h : Own W v lo E 2 (x.len + 1) xs) : Own W v lo E 2 (x.app (.cons e k .nil)).len xs := ⟨by rw [Ord.len_snoc]; exact h.h⟩
/-- the row as a slice value; its block is not to be one of Y -/
theorem osl_own (Y : Nat → Prop) (W : World) (A : Option Addr) (c : Nat) (x : Ord) [h : Own W (.slice A x.len c) lo E 2 x.len xs] [b : OR W X x xs] [a : XSub Y X] [d : XDis Y (.slice A x.len c)] : OSl Y W x A c :=
  (OSl.of_own h.h (b.h.more fun k hk _ => a.h k hk) d.h).2
/-- one term in a block of its own -/
theorem OSl.one {k : Int} {fr : Nat × Nat} (h : W.heap[g]? = some (.cells #[.slice A x.len c, .int .i64 k] E fr)) (sx : OSl X W x A c) (hX : ¬ X g) (in_ : I64 k) : OSl X W (.cons x k .nil) (some ⟨g, 0, none⟩) 1 := by
  haveI : Has W g (.cells #[.slice A x.len c, .int .i64 k] E fr) := ⟨h⟩
  exact ⟨by simp [Ord.len], by simp [maxLen], rfl, hX, ⟨A, c, has2.1, sx.1, sx.2.1, sx.2.2⟩, has2.2, in_, trivial⟩
end
instance elOT : Elem 88 116 2 32 := Elem.of (z := .agg #[.slice none 0 0, .int .i64 0]) Try.underlying88 (by kernel_rfl) rfl (by omega) (by omega)

/-- l1Sign -/
def osgn (n : Int) : Int := if 0 < n then 1 else if n < 0 then -1 else 0
/-- the order of two ordinals, as the reference finds it -/
def ocmp : Ord → Ord → Int
  | .nil, .nil => 0
  | .nil, .cons _ _ _ => -1
  | .cons _ _ _, .nil => 1
  | .cons e n r, .cons e' n' r' => if ocmp e e' ≠ 0 then ocmp e e' else if n ≠ n' then cmpI (IntKind.i64.wrap (n - n')) 0 else ocmp r r'
theorem ocmp_drop {x y : Ord} {k : Nat} {e e' r r' : Ord} {n n' : Int} (hx : x.drop k = .cons e n r) (hy : y.drop k = .cons e' n' r') (h : ocmp x y = ocmp (x.drop k) (y.drop k)) :
    (ocmp e e' ≠ 0 → ocmp x y = ocmp e e') ∧ (ocmp e e' = 0 → n ≠ n' → ocmp x y = cmpI (IntKind.i64.wrap (n - n')) 0) ∧ (ocmp e e' = 0 → n = n' → ocmp x y = ocmp r r') := by
  rw [h, hx, hy]
  simp only [ocmp]
  refine ⟨fun h => by rw [if_pos h], fun h h' => ?_, fun h h' => ?_⟩
  · rw [if_neg (by omega), if_pos h']
  · rw [if_neg (by omega), if_neg (by omega)]
theorem ocmp_range : ∀ (x y : Ord), ocmp x y = -1 ∨ ocmp x y = 0 ∨ ocmp x y = 1
  | .nil, .nil => by simp [ocmp]
  | .nil, .cons _ _ _ => by simp [ocmp]
  | .cons _ _ _, .nil => by simp [ocmp]
  | .cons e n r, .cons e' n' r' => by
    have h1 := ocmp_range e e'
    have h2 := ocmp_range r r'
    have h3 := cmpI_range (IntKind.i64.wrap (n - n')) 0
    simp only [ocmp]
    split
    · exact h1
    · split
      · exact h3
      · exact h2
end Go.Proofs.Ytdcnmaklnciofaa
