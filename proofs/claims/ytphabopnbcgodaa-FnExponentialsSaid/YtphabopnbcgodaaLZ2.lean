/-
  More words for the classes: marks of a caller's block; trees apart from all that was.
-/
import Derived.Test.YtphabopnbcgodaaLZ
namespace Go.Proofs.Ytphabopnbcgodaa
open Go.RowKit
set_option linter.unusedSimpArgs false
set_option linter.unusedVariables false

theorem below_mark {w W : World} {mb : Nat} {t : TypeId} {b b' : Value} (k : KpP w (XE mb) W) (h : W.heap[mb]? = some (.cells #[b'] t (0, 0))) (h0 : w.heap[mb]? = some (.cells #[b] t (0, 0))) : Below w.heap.size (w.setCell ⟨mb, 0, none⟩ b') W := by
  obtain ⟨h1, h2, h3, h4, h5⟩ := k
  refine ⟨h1, h2, h3, by rw [World.size_setCell]; exact h4, fun j hj => ?_⟩
  by_cases hm : j = mb
  · subst hm
    rw [h]
    simp [World.setCell, Array.getElem?_modify, h0]
  · rw [Below.heap_setCell _ _ _ _ hm]
    exact h5 j hj hm
theorem kpp (w : World) (S : Nat → Prop) (W : World) [a : KpI w S W] : KpP w S W := a.h
/-- what a method leaves of its receiver's block -/
theorem marked (w W : World) (mb : Nat) {t : TypeId} {b b' : Value} [h0 : Has w mb (.cells #[b] t (0, 0))] [h : Has W mb (.cells #[b'] t (0, 0))] [k : KpI w (XE mb) W] : Below w.heap.size (w.setCell ⟨mb, 0, none⟩ b') W := below_mark k.h h.h h0.h
section
variable {w U v W : World} {B X : Nat → Prop} {A : Option Addr} {x : Sur} {c : Nat}
instance XSub.il [a : LeB w U] : XSub (XL w) (XL U) := ⟨fun k hk => by have h1 : k < w.heap.size := hk; have h2 := a.h; show k < U.heap.size; omega⟩
instance XSub.iv [a : XSub B X] : XSub B (XV v X) := ⟨fun k hk => .inr (a.h k hk)⟩
instance XSub.iu1 {C : Nat → Prop} [a : XSub (XL w) B] : XSub (XL w) (XU B C) := ⟨fun k hk => .inl (a.h k hk)⟩
instance (priority := low) XSub.iu2 {C : Nat → Prop} [a : XSub (XL w) C] : XSub (XL w) (XU B C) := ⟨fun k hk => .inr (a.h k hk)⟩
theorem trx (Y : Nat → Prop) (W : World) (A : Option Addr) [b : Tr W A X x c] [a : XSub Y X] : SSl Y W x A c := b.h.more fun k hk _ => a.h k hk
end
end Go.Proofs.Ytphabopnbcgodaa
