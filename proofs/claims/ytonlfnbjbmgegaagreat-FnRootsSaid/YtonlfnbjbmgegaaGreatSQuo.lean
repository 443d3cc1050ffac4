/-
  Walks: quotients, the reference's.
-/
import Derived.Test.YtonlfnbjbmgegaaGreatWQuo
import Derived.Test.YtonlfnbjbmgegaaGreatSKeepB
import Derived.Test.YtonlfnbjbmgegaaGreatBK
import Derived.Test.YtonlfnbjbmgegaaGreatSPowFn
namespace Go.Proofs.YtonlfnbjbmgegaaGreat
open Go.RowKit
set_option linter.unusedSimpArgs false
set_option linter.unusedVariables false

section
instance XSub.uL {B X Y : Nat → Prop} [a : XSub B X] : XSub B (XU X Y) := ⟨fun k hk => .inl (a.h k hk)⟩
variable {w W W0 : World} {o1 : Obj} {cs : Array Value} {t : TypeId}
instance Has.here1 [a : Sz W W0] : Has ((W.alloc o1).alloc (.cells cs t)) (W0.heap.size + 1) (.cells cs t (0, 0)) := ⟨by
  rw [← a.h]
  have := Blk.new (W.alloc o1) t cs
  rw [World.size_alloc] at this
  exact this⟩
instance GeB.here1 [b : LeB w W] : GeB w (W.heap.size + 1) := ⟨by have := b.h; omega⟩
end
theorem sdivGo_step {y q r : Sur} {m : Nat} (nr : r.len ≠ 0) : sdivGo y (m + 1) false q r = sdivGo y m (sdB6 q r y) (keepS (sdB3 r y) (sdQ q r y)) (keepS (sdB5 q r y) (sdR q r y)) := by
  simp only [sdivGo]
  rw [if_pos ⟨nr, trivial⟩]
theorem fC_ok {x : Sur} (g : sGood x = true) (nx : x.len ≠ 0) : FOk (fC x).1 (fC x).2 ∧ (fC x).1 ≠ 0 := by
  cases x with
  | nil => exact absurd rfl nx
  | cons e n d r => exact (sGood_g g).1.2.1
theorem fC_I64 {X : Nat → Prop} {w : World} {x : Sur} {A : Option Addr} {c : Nat} (h : SSl X w x A c) (hx : x.len ≠ 0) : I64 (fC x).1 ∧ I64 (fC x).2 := by
  obtain ⟨b, o, e, n, d, A1, d1, hA, hk, _, _, _, _, i1, i2, _, _⟩ := h.at_ (k := 0) (by omega)
  cases x with
  | nil => exact absurd rfl hx
  | cons e' n' d' r =>
    simp only [Sur.drop] at hk
    injection hk with h1 h2 h3
    subst h1 h2 h3
    exact ⟨i1, i2⟩
attribute [local go_sem high] has_cell has_frozen
end Go.Proofs.YtonlfnbjbmgegaaGreat
