/-
  The laws' side: what marks leave, told for the classes.
-/
import Derived.Test.YtonlfnbjbmgegaaGreatLHeld
import Derived.Test.YtonlfnbjbmgegaaGreatBG
namespace Go.Proofs.YtonlfnbjbmgegaaGreat
open Go.RowKit
set_option linter.unusedSimpArgs false
set_option linter.unusedVariables false

/-- blocks made from U on, there at v -/
def XR (U v : World) (k : Nat) : Prop := U.heap.size ≤ k ∧ k < v.heap.size
section
variable {w w1 W U v U' v' : World} {g : Nat}
instance XNot.r1 [a : LtB g U] : XNot (XR U v) g := ⟨fun h => by have := h.1; have := a.h; omega⟩
instance XNot.r2 [a : GeB v g] : XNot (XR U v) g := ⟨fun h => by have := h.2; have := a.h; omega⟩
instance XOut.r1 [a : LeB v U'] : XOut U' v' (XR U v) := ⟨fun k h => .inl (by have := h.2; have := a.h; omega)⟩
instance XOut.r2 [a : LeB v' U] : XOut U' v' (XR U v) := ⟨fun k h => .inr (by have := h.1; have := a.h; omega)⟩
instance XGe.r [a : LeB w U] : XGe w (XR U v) := ⟨fun k h => by have := h.1; have := a.h; omega⟩
end
theorem mark_lz (x : Sur) (A : Option Addr) (c : Nat) (k : Int) (W : World) {U v : World} [b : Fs W A U v x c] (hk : 0 ≤ k) (hk1 : k + 2 * x.total ≤ 1099511627776) :
    Calls Tryz.prog 21 #[.agg #[.slice A x.len c], .int .i64 k] W fun e w' => e = .returned (.int .i64 (k + 2 * x.total)) ∧ ∃ y : Sur, y.len = x.len ∧ Mk y k (k + 2 * x.total) ∧ Fs w' A U v y c ∧ Kp W (XR U v) w' := by
  obtain ⟨bs, h1, h2, h3⟩ := b.h
  refine (markSurreal_any x A c bs k W h1 h2 hk hk1).mono ?_
  rintro e w' ⟨rfl, y, hl, hm, ht, hO⟩
  exact ⟨rfl, y, hl, hm, ⟨bs, ht, h2, h3⟩, ⟨hO.os, hO.tape, hO.output, hO.size, fun k hk hS => hO.block k hk (fun hb => hS (h3 k hb))⟩⟩
theorem total_good {x : Sur} (h : sGood x = true) : x.total ≤ 60 := by
  have := (sGood_len h).2.1
  have := x.nodes_total
  omega
end Go.Proofs.YtonlfnbjbmgegaaGreat
