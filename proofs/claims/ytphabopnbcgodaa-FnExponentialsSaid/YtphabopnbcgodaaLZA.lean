/-
  Appends for the classes: a row that a call owns, and what its cells read as.
-/
import Derived.Test.YtphabopnbcgodaaLZ2
import Derived.Test.YtphabopnbcgodaaWSumFn
import Derived.Deep.AppendLies
namespace Go.Proofs.Ytphabopnbcgodaa
open Go.RowKit
set_option linter.unusedSimpArgs false
set_option linter.unusedVariables false

/-- blocks of S', but for those that came behind W, are blocks of S -/
class XSubW (W : World) (S' S : Nat → Prop) : Prop where h : ∀ k, S' k → S k ∨ W.heap.size ≤ k
/-- the block of v's row -/
def XOw (v : Value) (k : Nat) : Prop := v.ownBlock = some k
class Own (W : World) (v : Value) (lo : outParam World) (E : outParam TypeId) (m n : outParam Nat) (xs : outParam (List Value)) : Prop where
  h : W.ownsRow lo.heap.size E m v n xs
/-- v's row lies from lo on, and was there at hi -/
class OwR (v : Value) (lo hi : outParam World) : Prop where h : ∀ g, v.ownBlock = some g → lo.heap.size ≤ g ∧ g < hi.heap.size
/-- the row of v is none of S -/
class XDis (S : Nat → Prop) (v : Value) : Prop where h : ∀ g, v.ownBlock = some g → ¬ S g

theorem own_keep {w w' : World} {base : Nat} {e : TypeId} {size : Nat} {v : Value} {n : Nat} {xs : List Value} (h : w.ownsRow base e size v n xs) (hk : ∀ g, v.ownBlock = some g → w'.heap[g]? = w.heap[g]?) : w'.ownsRow base e size v n xs := by
  obtain ⟨h1, h2⟩ := h
  refine ⟨h1, ?_⟩
  rcases h2 with h2 | ⟨g, cap, cur, hv, hg, hh, r⟩
  · exact .inl h2
  · exact .inr ⟨g, cap, cur, hv, hg, (hk g (by rw [hv]; rfl)).trans hh, r⟩
section
variable {w w1 W U v0 lo hi lo' hi' : World} {g g' i : Nat} {o : Obj} {u v v' : Value} {S X B C : Nat → Prop} {E : TypeId} {m n : Nat} {xs : List Value}
instance XSubW.ie1 [a : XOk S g] : XSubW W (XE g) S := ⟨fun k hk => by have : k = g := hk; subst this; exact .inl a.h⟩
instance XSubW.ie2 [a : GeB W g] : XSubW W (XE g) S := ⟨fun k hk => by have : k = g := hk; subst this; exact .inr a.h⟩
instance XSubW.iu [a : XSubW W B S] [b : XSubW W C S] : XSubW W (XU B C) S := ⟨fun k hk => hk.elim (a.h k) (b.h k)⟩
instance XSubW.iw [a : OwR v lo hi] [b : LeB W lo] : XSubW W (XOw v) S := ⟨fun k hk => .inr (Nat.le_trans b.h (a.h k hk).1)⟩
instance XSub.vv {w0 : World} [a : LeB w0 W] [b : XSub B C] : XSub (XV W B) (XV w0 C) := ⟨fun k h => h.elim (fun h => .inl (Nat.le_trans a.h h)) (fun h => .inr (b.h k h))⟩
instance XSub.same : XSub S S := ⟨fun k h => h⟩
instance XSubW.in_ : XSubW W XN S := ⟨fun k hk => hk.elim⟩
instance (priority := low) XSubW.ix [a : XSub B S] : XSubW W B S := ⟨fun k hk => .inl (a.h k hk)⟩
instance (priority := low) KpI.kpw {W1 : World} {S' : Nat → Prop} [a : Kp W1 S' w1] [b : KpI W S W1] [e : XSubW W S' S] : KpI W S w1 := ⟨by
  obtain ⟨h1, h2, h3, h4, h5⟩ := b.h
  obtain ⟨k1, k2, k3, k4, k5⟩ := a.h
  exact ⟨k1.trans h1, k2.trans h2, k3.trans h3, Nat.le_trans h4 k4, fun k hk hS => (k5 k (Nat.lt_of_lt_of_le hk h4) (fun h => (e.h k h).elim hS (by omega))).trans (h5 k hk hS)⟩⟩

instance XNot.ow1 [a : OwR v lo hi] [b : LtB g lo] : XNot (XOw v) g := ⟨fun h => by have := (a.h g h).1; have := b.h; omega⟩
instance XNot.ow2 [a : OwR v lo hi] [b : GeB hi g] : XNot (XOw v) g := ⟨fun h => by have := (a.h g h).2; have := b.h; omega⟩
instance XSub.owv [a : OwR v lo hi] [b : LeB v0 lo] : XSub (XOw v) (XV v0 B) := ⟨fun k h => .inl (Nat.le_trans b.h (a.h k h).1)⟩
instance XSub.owl [a : OwR v lo hi] [b : LeB hi U] : XSub (XOw v) (XL U) := ⟨fun k h => Nat.lt_of_lt_of_le (a.h k h).2 b.h⟩
instance XSub.owo : XSub (XOw v) (XOw v) := ⟨fun k h => h⟩
instance XSub.owu1 [a : XSub (XOw v) B] : XSub (XOw v) (XU B C) := ⟨fun k h => .inl (a.h k h)⟩
instance (priority := low) XSub.owu2 [a : XSub (XOw v) C] : XSub (XOw v) (XU B C) := ⟨fun k h => .inr (a.h k h)⟩
instance XGe.ow [a : OwR v lo hi] [b : LeB w lo] : XGe w (XOw v) := ⟨fun k h => Nat.le_trans b.h (a.h k h).1⟩
instance XOut.ow1 [a : OwR v lo hi] [b : LeB hi U] : XOut U v0 (XOw v) := ⟨fun k h => .inl (Nat.lt_of_lt_of_le (a.h k h).2 b.h)⟩
instance XOut.ow2 [a : OwR v lo hi] [b : LeB v0 lo] : XOut U v0 (XOw v) := ⟨fun k h => .inr (Nat.le_trans b.h (a.h k h).1)⟩
instance XDis.e1 [a : OwR v lo hi] [b : LtB g lo] : XDis (XE g) v := ⟨fun k h e => by have : k = g := e; subst this; have := (a.h k h).1; have := b.h; omega⟩
instance XDis.e2 [a : OwR v lo hi] [b : GeB hi g] : XDis (XE g) v := ⟨fun k h e => by have : k = g := e; subst this; have := (a.h k h).2; have := b.h; omega⟩
instance XDis.xu [a : XDis B v] [b : XDis C v] : XDis (XU B C) v := ⟨fun k h e => e.elim (a.h k h) (b.h k h)⟩
instance XDis.xn : XDis XN v := ⟨fun k h e => e⟩
instance XDis.ow1 [a : OwR v lo hi] [b : OwR v' lo' hi'] [e : LeB hi lo'] : XDis (XOw v') v := ⟨fun k h h' => by have := (a.h k h).2; have := (b.h k h').1; have := e.h; omega⟩
instance XDis.ow2 [a : OwR v lo hi] [b : OwR v' lo' hi'] [e : LeB hi' lo] : XDis (XOw v') v := ⟨fun k h h' => by have := (a.h k h).1; have := (b.h k h').2; have := e.h; omega⟩
instance XDis.l [a : OwR v lo hi] [b : LeB U lo] : XDis (XL U) v := ⟨fun k h e => by have : k < U.heap.size := e; have := (a.h k h).1; have := b.h; omega⟩

instance Own.bel [a : Bel W w1] [b : Own W v lo E m n xs] : Own w1 v lo E m n xs := ⟨own_keep b.h fun g hg => a.h.block g (b.h.lt g hg).2⟩
instance Own.alloc [b : Own W v lo E m n xs] : Own (W.alloc o) v lo E m n xs := ⟨own_keep b.h fun g hg => Below.heap_alloc _ _ _ (b.h.lt g hg).2⟩
instance Own.drew [b : Own W v lo E m n xs] : Own W.drew v lo E m n xs := ⟨own_keep b.h fun _ _ => rfl⟩
instance Own.drewN {j : Nat} [b : Own W v lo E m n xs] : Own (W.drewN j) v lo E m n xs := ⟨own_keep b.h fun _ _ => rfl⟩
instance Own.set {k : Option Nat} [b : Own W v lo E m n xs] [a : XDis (XE g) v] : Own (W.setCell ⟨g, i, k⟩ u) v lo E m n xs := ⟨own_keep b.h fun j hj => Below.heap_setCell _ _ _ _ (fun e => a.h j hj e)⟩
instance Own.kp {S : Nat → Prop} [a : Kp W S w1] [b : Own W v lo E m n xs] [e : XDis S v] : Own w1 v lo E m n xs := ⟨own_keep b.h fun g hg => a.h.2.2.2.2 g (b.h.lt g hg).2 (e.h g hg)⟩
theorem Own.nil (W lo : World) (E : TypeId) (m : Nat) : Own W (.slice none 0 0) lo E m 0 [] := ⟨World.ownsRow_nil _ _ _ _⟩
theorem Own.rg (W : World) (v : Value) [b : Own W v lo E m n xs] : OwR v lo W := ⟨fun g hg => b.h.lt g hg⟩
theorem OwR.nil (lo hi : World) : OwR (.slice none 0 0) lo hi := ⟨fun g h => by cases h⟩
end
/-- how a slice type's elements lie -/
class Elem (ty : TypeId) (E : outParam TypeId) (m bytes : outParam Nat) : Prop where
  ht : Try.prog.underlying ty = some (.slice E)
  hi : ∃ i z, Try.prog.info? E = some i ∧ i.zero = some z ∧ i.size = m ∧ i.bytes = bytes ∧ z.cells.size = m
  hm : 0 < m
  hb : bytes ≤ 64
theorem Elem.of {ty E : TypeId} {m bytes : Nat} {z : Value} (ht : Try.prog.underlying ty = some (.slice E)) (hi : (Try.prog.info? E).map (fun i => (i.zero, i.size, i.bytes)) = some (some z, m, bytes)) (hz : z.cells.size = m) (hm : 0 < m) (hb : bytes ≤ 64) : Elem ty E m bytes := by
  refine ⟨ht, ?_, hm, hb⟩
  rcases h : Try.prog.info? E with _ | i
  · rw [h] at hi; cases hi
  · rw [h] at hi
    simp only [Option.map_some, Option.some.injEq, Prod.mk.injEq] at hi
    exact ⟨i, z, rfl, hi.1, hi.2.1, hi.2.2, hz⟩
section
variable {ops : Array Oper} {rest : List Oper} {o : Oper} {a : Act} {Q : Exit → Act → World → Prop} {K : Act → World → Prop} {Z : Prop}
theorem KpP.grown {W w2 : World} {v : Value} (h : W.grownBy w2 v.ownBlock) : KpP W (XOw v) w2 := ⟨h.os, h.tape, h.output, h.size, fun k hk hS => h.block k hk (fun e => hS e.symm)⟩
/-- one element more behind a row of one's own -/
theorem ap_list {W : World} (hgd : o.guard = none) (s x : Operand) (t : TypeId) (ho : o.op = .call { callee := .builtin .append, args := #[s, x], argTypes := #[t, t] })
    {E : TypeId} {m bytes n : Nat} [el : Elem t E m bytes] {v : Value} {lo : World} {xs : List Value} [ow : Own W v lo E m n xs] (hs : a.eval s = v) {B : Nat} (hx : a.eval x = .slice (some ⟨B, 0, none⟩) 1 1) {cs : List Value} {t' : TypeId} {fr : Nat × Nat} [hb : Has W B (.cells cs.toArray t' fr)]
    (hl : cs.length = 1 * m) (h1 : ∀ u ∈ cs, u.oneCell' = true) (hn : n ≤ 1099511627776) [hlo : LeB lo W]
    (h : ∀ g cap w', Own w' (.slice (some ⟨g, 0, none⟩) (n + 1) cap) lo E m (n + 1) (xs ++ cs) → Kp W (XOw v) w' → OwR (.slice (some ⟨g, 0, none⟩) (n + 1) cap) lo w' → (v.ownBlock = some g ∨ g = W.heap.size) → Nx W w' ∨ True → wpList Try.prog ops Q rest (a.put o.dst (.slice (some ⟨g, 0, none⟩) (n + 1) cap)) w') : wpList Try.prog ops Q (o :: rest) a W := by
  obtain ⟨i, z, e1, e2, e3, e4, e5⟩ := el.hi
  refine wpList_append_lies W hgd s x t ho lo.heap.size E i z m bytes el.ht e1 e2 e3 e4 e5 el.hm v n xs hs ow.h ⟨B, 0, none⟩ 1 1 cs hx hl (fun j u hu => World.news_of_block hb.h j u hu) h1 (by omega) (by unfold maxLen; omega) (by have := Nat.mul_le_mul_left (n + 1) el.hb; omega) hlo.h _ rfl ?_
  intro g cap w' hown hgrow hat hlt
  exact h g cap w' ⟨hown⟩ ⟨KpP.grown hgrow⟩ ⟨fun k hk => hown.lt k hk⟩ hat (.inr trivial)
theorem ap_step {W : World} (hgd : o.guard = none) (s x : Operand) (t : TypeId) (ho : o.op = .call { callee := .builtin .append, args := #[s, x], argTypes := #[t, t] })
    {E : TypeId} {m bytes n : Nat} [el : Elem t E m bytes] {v : Value} {lo : World} {xs : List Value} [ow : Own W v lo E m n xs] (hs : a.eval s = v) {B : Nat} (hx : a.eval x = .slice (some ⟨B, 0, none⟩) 1 1) {cs : List Value} {t' : TypeId} {fr : Nat × Nat} [hb : Has W B (.cells cs.toArray t' fr)]
    (hl : cs.length = 1 * m) (h1 : ∀ u ∈ cs, u.oneCell' = true) (hn : n ≤ 1099511627776) [hlo : LeB lo W]
    (h : ∀ g cap w', Own w' (.slice (some ⟨g, 0, none⟩) (n + 1) cap) lo E m (n + 1) (xs ++ cs) → Kp W (XOw v) w' → OwR (.slice (some ⟨g, 0, none⟩) (n + 1) cap) lo w' → (v.ownBlock = some g ∨ g = W.heap.size) → Nx W w' ∨ True → K (a.put o.dst (.slice (some ⟨g, 0, none⟩) (n + 1) cap)) w') : if Region.wanted o (yielded ops a.tmps) = true then Oper.wp Try.prog o a W K Q else Z := by
  obtain ⟨i, z, e1, e2, e3, e4, e5⟩ := el.hi
  refine step_append_lies W hgd s x t ho lo.heap.size E i z m bytes el.ht e1 e2 e3 e4 e5 el.hm v n xs hs ow.h ⟨B, 0, none⟩ 1 1 cs hx hl (fun j u hu => World.news_of_block hb.h j u hu) h1 (by omega) (by unfold maxLen; omega) (by have := Nat.mul_le_mul_left (n + 1) el.hb; omega) hlo.h _ rfl ?_
  intro g cap w' hown hgrow hat hlt
  exact h g cap w' ⟨hown⟩ ⟨KpP.grown hgrow⟩ ⟨fun k hk => hown.lt k hk⟩ hat (.inr trivial)
end
instance elST : Elem 24 58 3 40 := Elem.of (z := .agg #[.slice none 0 0, .int .i64 0, .int .i64 0]) Try.underlying24 (by kernel_rfl) rfl (by omega) (by omega)

/-- the cells read as terms -/
class TR (W : World) (X : outParam (Nat → Prop)) (x : outParam Sur) (xs : List Value) : Prop where h : TRow X W x xs
theorem TRow.more {X Y : Nat → Prop} {w : World} {e : Sur} {xs : List Value} (h : TRow X w e xs) (hY : ∀ k, Y k → k < w.heap.size → X k) : TRow Y w e xs :=
  h.keep fun k hx hk => ⟨fun hy => hx (hY k hy hk), rfl⟩
section
variable {w w1 W U v0 lo hi : World} {g i : Nat} {o : Obj} {u v : Value} {S X Y : Nat → Prop} {E : TypeId} {n : Nat} {xs : List Value} {x e : Sur} {A : Option Addr} {c : Nat}
instance TR.bel [a : Bel W w1] [b : TR W X x xs] : TR w1 X x xs := ⟨b.h.below a.h⟩
instance TR.alloc [b : TR W X x xs] : TR (W.alloc o) X x xs := ⟨b.h.below ((Below.refl _ _).alloc (Nat.le_refl _) _)⟩
instance TR.drew [b : TR W X x xs] : TR W.drew X x xs := ⟨b.h.below (Below.refl _ _).drew⟩
instance TR.drewN {j : Nat} [b : TR W X x xs] : TR (W.drewN j) X x xs := ⟨b.h.below (Below.drewN (Below.refl _ _) j)⟩
instance TR.set {k : Option Nat} [b : TR W X x xs] [a : XOk X g] : TR (W.setCell ⟨g, i, k⟩ u) X x xs := ⟨b.h.keep fun j hx _ => ⟨hx, Below.heap_setCell _ _ _ _ (fun e => hx (e ▸ a.h))⟩⟩
instance TR.kp {S : Nat → Prop} [a : Kp W S w1] [b : TR W X x xs] [e : XSub S X] : TR w1 X x xs := ⟨b.h.keep (fun k hX hk => ⟨hX, a.h.2.2.2.2 k hk (fun hS => hX (e.h k hS))⟩)⟩
theorem TR.nil (W : World) (X : Nat → Prop) : TR W X .nil [] := ⟨rfl⟩
theorem TR.snoc {k d : Int} {Ae : Option Addr} {ce : Nat} [b : TR W X x xs] (hs : SSl X W e Ae ce) (hn : I64 k) (hd : I64 d) : TR W X (x.app (.cons e k d .nil)) (xs ++ [.slice Ae e.len ce, .int .i64 k, .int .i64 d]) := ⟨TRow.snoc hs hn hd b.h⟩
theorem TR.more (Y : Nat → Prop) [b : TR W X x xs] (hY : ∀ k, Y k → k < W.heap.size → X k) : TR W Y x xs := ⟨b.h.more hY⟩
theorem Own.snoc {k d : Int} (h : Own W v lo E 3 (x.len + 1) xs) : Own W v lo E 3 (x.app (.cons e k d .nil)).len xs := ⟨by rw [Sur.len_snoc]; exact h.h⟩
/-- the row as a slice value; its block is not to be one of Y -/
theorem sl_own (Y : Nat → Prop) (W : World) (A : Option Addr) (c : Nat) (x : Sur) [h : Own W (.slice A x.len c) lo E 3 x.len xs] [b : TR W X x xs] [a : XSub Y X] [d : XDis Y (.slice A x.len c)] : SSl Y W x A c :=
  (SSl.of_own h.h (b.h.more fun k hk _ => a.h k hk) d.h).2
end

theorem own_lower {w : World} {B B' : Nat} {e : TypeId} {size : Nat} {v : Value} {n : Nat} {xs : List Value} (h : w.ownsRow B e size v n xs) (hb : B' ≤ B) : w.ownsRow B' e size v n xs := by
  obtain ⟨h1, h2⟩ := h
  refine ⟨h1, ?_⟩
  rcases h2 with h2 | ⟨g, cap, cur, hv, hg, r⟩
  · exact .inl h2
  · exact .inr ⟨g, cap, cur, hv, by omega, r⟩
/-- a row of one's own whose exponents may be shared: all of it lies in blocks made from U on, there at v -/
class Ro (W : World) (A : Option Addr) (U v : outParam World) (x : outParam Sur) (c : outParam Nat) : Prop where
  h : ∃ xs, W.ownsRow U.heap.size 58 3 (.slice A x.len c) x.len xs ∧ TRow (fun k => k < U.heap.size ∨ v.heap.size ≤ k ∨ XOw (.slice A x.len c) k) W x xs ∧ ∀ g, XOw (.slice A x.len c) g → g < v.heap.size
section
variable {w w1 W U v : World} {g i : Nat} {o : Obj} {u : Value} {S : Nat → Prop} {x : Sur} {A : Option Addr} {c : Nat}
theorem Ro.keep (b : Ro W A U v x c) (hk : ∀ k, U.heap.size ≤ k → k < v.heap.size → k < W.heap.size → w1.heap[k]? = W.heap[k]?) : Ro w1 A U v x c := ⟨by
  obtain ⟨xs, h1, h2, h3⟩ := b.h
  refine ⟨xs, own_keep h1 fun g hg => ?_, h2.keep fun k hx hlt => ⟨hx, hk k ?_ ?_ hlt⟩, h3⟩
  · have := h1.lt g hg
    exact hk g this.1 (h3 g hg) this.2
  · rcases Nat.lt_or_ge k U.heap.size with h | h
    · exact absurd (.inl h) hx
    · exact h
  · rcases Nat.lt_or_ge k v.heap.size with h | h
    · exact h
    · exact absurd (.inr (.inl h)) hx⟩
instance Ro.bel [a : Bel W w1] [b : Ro W A U v x c] : Ro w1 A U v x c := b.keep fun k _ _ hk => a.h.block k hk
instance Ro.alloc [b : Ro W A U v x c] : Ro (W.alloc o) A U v x c := b.keep fun k _ _ hk => Below.heap_alloc _ _ _ hk
instance Ro.drew [b : Ro W A U v x c] : Ro W.drew A U v x c := b.keep fun _ _ _ _ => rfl
instance Ro.drewN {j : Nat} [b : Ro W A U v x c] : Ro (W.drewN j) A U v x c := b.keep fun _ _ _ _ => rfl
instance Ro.set1 {k : Option Nat} [b : Ro W A U v x c] [a : LtB g U] : Ro (W.setCell ⟨g, i, k⟩ u) A U v x c := b.keep fun j h1 _ _ => Below.heap_setCell _ _ _ _ (by have := a.h; show j ≠ g; omega)
instance Ro.set2 {k : Option Nat} [b : Ro W A U v x c] [a : GeB v g] : Ro (W.setCell ⟨g, i, k⟩ u) A U v x c := b.keep fun j _ h2 _ => Below.heap_setCell _ _ _ _ (by have := a.h; show j ≠ g; omega)
instance Ro.kp {S : Nat → Prop} [a : Kp W S w1] [b : Ro W A U v x c] [e : XOut U v S] : Ro w1 A U v x c := b.keep fun k h1 h2 hk => a.h.2.2.2.2 k hk fun hS => by have := e.h k hS; omega
instance (priority := low) Tr.ro [b : Ro W A U v x c] : Tr W A (XV v (XL U)) x c := ⟨by
  obtain ⟨xs, h1, h2, h3⟩ := b.h
  refine (SSl.of_own h1 (h2.more (Y := XV v (XL U)) fun k hk _ => hk.elim (fun h => .inr (.inl h)) .inl) fun k hk hX => ?_).2
  have := h1.lt k hk
  have := h3 k hk
  rcases hX with h | h
  · omega
  · have : k < U.heap.size := h
    omega⟩
theorem Ro.nil (W U v : World) : Ro W none U v .nil 0 := ⟨[], World.ownsRow_nil _ _ _ _, rfl, fun g h => by cases h⟩
theorem Ro.lp {U' : World} [b : Ro W A U v x c] [a : LeB U' U] [e : LeB v W] : Ro W A U' W x c := ⟨by
  obtain ⟨xs, h1, h2, h3⟩ := b.h
  have ha := a.h
  have he := e.h
  refine ⟨xs, own_lower h1 ha, h2.more fun k hk _ => ?_, fun g hg => Nat.lt_of_lt_of_le (h3 g hg) he⟩
  rcases hk with h | h | h
  · exact .inl (by omega)
  · exact .inr (.inl (by omega))
  · exact .inr (.inr h)⟩
theorem Own.of {lo : World} {v : Value} {E : TypeId} {m n : Nat} {xs : List Value} (h : W.ownsRow lo.heap.size E m v n xs) : Own W v lo E m n xs := ⟨h⟩
theorem TR.of {X : Nat → Prop} {xs : List Value} (h : TRow X W x xs) : TR W X x xs := ⟨h⟩
theorem Ro.made (U V : World) {lo : World} {xs : List Value} {X : Nat → Prop} [a : Own W (.slice A x.len c) lo 58 3 x.len xs] [b : TR W X x xs] [e : LeB V lo] [f : LeB U lo] [q : XSub (XV V (XL U)) X] : Ro W A U W x c := ⟨by
  have he := e.h
  refine ⟨xs, own_lower a.h f.h, b.h.more fun k hk hlt => q.h k ?_, fun g hg => (a.h.lt g hg).2⟩
  rcases hk with h | h | h
  · exact .inr h
  · omega
  · exact .inl (by have := (a.h.lt k h).1; omega)⟩
/-- what suPut returns, told so -/
theorem Ro.of {xs : List Value} (U : World) (h1 : w1.ownsRow W.heap.size 58 3 (.slice A x.len c) x.len xs) (h2 : TRow (Low (XL U) W.heap.size) w1 x xs) (hs : W.heap.size ≤ w1.heap.size) [a : LeB U W] : Ro w1 A U w1 x c := ⟨by
  have ha := a.h
  refine ⟨xs, own_lower h1 ha, h2.more fun k hk _ => ?_, fun g hg => (h1.lt g hg).2⟩
  rcases hk with h | h | h
  · exact .inl h
  · exact .inr (by omega)
  · exact .inr (h1.lt k h).1⟩
end

section
variable {ops : Array Oper} {rest : List Oper} {o : Oper} {a : Act} {Q : Exit → Act → World → Prop} {K : Act → World → Prop} {Z : Prop} {A Ae : Option Addr} {U v : World} {x ex : Sur} {c ce : Nat} {n d : Int}
theorem Ro.rg (W : World) (A : Option Addr) [b : Ro W A U v x c] : OwR (.slice A x.len c) U v := ⟨fun g hg => by
  obtain ⟨xs, h1, _, h3⟩ := b.h
  exact ⟨(h1.lt g hg).1, h3 g hg⟩⟩
theorem Ro.grown {W w' : World} {xs : List Value} {g cap : Nat} (he : SSl (fun k => k < U.heap.size ∨ XOw (.slice A x.len c) k) W ex Ae ce) (in_ : I64 n) (id_ : I64 d)
    (hr : TRow (fun k => k < U.heap.size ∨ v.heap.size ≤ k ∨ XOw (.slice A x.len c) k) W x xs)
    (own : w'.ownsRow U.heap.size 58 3 (.slice (some ⟨g, 0, none⟩) (x.len + 1) cap) (x.len + 1) (xs ++ [.slice Ae ex.len ce, .int .i64 n, .int .i64 d])) (kp : Kp W (XOw (.slice A x.len c)) w') (hat : (Value.slice A x.len c).ownBlock = some g ∨ g = W.heap.size) (hv : v.heap.size ≤ W.heap.size) :
    Ro w' (some ⟨g, 0, none⟩) U w' (x.app (.cons ex n d .nil)) cap := ⟨by
  have key : ∀ k, (k < U.heap.size ∨ w'.heap.size ≤ k ∨ k = g) → k < W.heap.size → k < U.heap.size ∨ XOw (.slice A x.len c) k := fun k hk hlt => by
    have := kp.h.2.2.2.1
    rcases hk with h | h | h
    · exact .inl h
    · omega
    · subst h
      rcases hat with h | h
      · exact .inr h
      · omega
  have hk5 := kp.h.2.2.2.2
  refine ⟨_, by rw [Sur.len_snoc]; exact own, TRow.snoc (he.keep fun k hX hlt => ⟨fun hY => hX (key k ?_ hlt), hk5 k hlt fun h => hX (.inr h)⟩) in_ id_ (hr.keep fun k hX hlt => ⟨fun hY => ?_, hk5 k hlt fun h => hX (.inr (.inr h))⟩), fun k hk => ?_⟩
  · rcases hY with h | h | h
    · exact .inl h
    · exact .inr (.inl h)
    · refine .inr (.inr ?_)
      rw [Sur.len_snoc] at h
      have : g = k := by simpa [XOw, Value.ownBlock] using h
      omega
  · have := key k (by
      rcases hY with h | h | h
      · exact .inl h
      · exact .inr (.inl h)
      · refine .inr (.inr ?_)
        rw [Sur.len_snoc] at h
        have : g = k := by simpa [XOw, Value.ownBlock] using h
        omega) hlt
    exact hX (this.elim .inl fun h => .inr (.inr h))
  · rw [Sur.len_snoc] at hk
    exact (own.lt k hk).2⟩
/-- one term more behind such a row -/
theorem ro_list {W : World} (hgd : o.guard = none) (s y : Operand) (ho : o.op = .call { callee := .builtin .append, args := #[s, y], argTypes := #[24, 24] })
    [ro : Ro W A U v x c] (hs : a.eval s = .slice A x.len c) {B : Nat} (hx : a.eval y = .slice (some ⟨B, 0, none⟩) 1 1) {t' : TypeId} {fr : Nat × Nat} [hb : Has W B (.cells #[.slice Ae ex.len ce, .int .i64 n, .int .i64 d] t' fr)]
    (he : SSl (fun k => k < U.heap.size ∨ XOw (.slice A x.len c) k) W ex Ae ce) (in_ : I64 n) (id_ : I64 d) (hn : x.len ≤ 1099511627776) [hlo : LeB U W] [hv : LeB v W]
    (h : ∀ A' c' w', Ro w' A' U w' (x.app (.cons ex n d .nil)) c' → Kp W (XOw (.slice A x.len c)) w' → wpList Try.prog ops Q rest (a.put o.dst (.slice A' (x.len + 1) c')) w') : wpList Try.prog ops Q (o :: rest) a W := by
  obtain ⟨xs, h1, h2, h3⟩ := ro.h
  haveI : Own W (.slice A x.len c) U 58 3 x.len xs := ⟨h1⟩
  refine ap_list hgd s y _ ho hs hx (by rfl) (by simp [Value.oneCell']) hn ?_
  intro g cap w' own kp _ hat _
  exact h _ _ _ (Ro.grown he in_ id_ h2 own.h kp hat hv.h) kp
theorem ro_step {W : World} (hgd : o.guard = none) (s y : Operand) (ho : o.op = .call { callee := .builtin .append, args := #[s, y], argTypes := #[24, 24] })
    [ro : Ro W A U v x c] (hs : a.eval s = .slice A x.len c) {B : Nat} (hx : a.eval y = .slice (some ⟨B, 0, none⟩) 1 1) {t' : TypeId} {fr : Nat × Nat} [hb : Has W B (.cells #[.slice Ae ex.len ce, .int .i64 n, .int .i64 d] t' fr)]
    (he : SSl (fun k => k < U.heap.size ∨ XOw (.slice A x.len c) k) W ex Ae ce) (in_ : I64 n) (id_ : I64 d) (hn : x.len ≤ 1099511627776) [hlo : LeB U W] [hv : LeB v W]
    (h : ∀ A' c' w', Ro w' A' U w' (x.app (.cons ex n d .nil)) c' → Kp W (XOw (.slice A x.len c)) w' → K (a.put o.dst (.slice A' (x.len + 1) c')) w') : if Region.wanted o (yielded ops a.tmps) = true then Oper.wp Try.prog o a W K Q else Z := by
  obtain ⟨xs, h1, h2, h3⟩ := ro.h
  haveI : Own W (.slice A x.len c) U 58 3 x.len xs := ⟨h1⟩
  refine ap_step hgd s y _ ho hs hx (by rfl) (by simp [Value.oneCell']) hn ?_
  intro g cap w' own kp _ hat _
  exact h _ _ _ (Ro.grown he in_ id_ h2 own.h kp hat hv.h) kp
/-- the tree to be put behind the row is none of the row -/
theorem ro_arg (W : World) (Ae : Option Addr) (U : World) (v : Value) {X : Nat → Prop} [b : Tr W Ae X ex ce] [e1 : XSub (XL U) X] [e2 : XSub (XOw v) X] : SSl (fun k => k < U.heap.size ∨ XOw v k) W ex Ae ce :=
  b.h.more fun k hk _ => hk.elim (fun h => e1.h k h) (fun h => e2.h k h)
end

section
variable {ops : Array Oper} {rest : List Oper} {o : Oper} {a : Act} {Q : Exit → Act → World → Prop} {P : Program} {K : Act → World → Prop} {Z : Prop}
/-- a slice of one element, made: its block and the world behind it get names -/
theorem ev_sl {W : World} (hgd : o.guard = none) {cs : Array Value} {t : TypeId}
    (hrun : (execOp a.eval o).run P W = .ok (.value (.slice (some ⟨W.heap.size, 0, none⟩) 1 1)) (W.alloc (.cells cs t (0, 0))))
    (h : ∀ g w1, Born g W → Has w1 g (.cells cs t (0, 0)) → Bel W w1 → Nx W w1 → wpList P ops Q rest (a.put o.dst (.slice (some ⟨g, 0, none⟩) 1 1)) w1) : wpList P ops Q (o :: rest) a W := by
  refine wpList_plain hgd fun K hK => ?_
  unfold Oper.wp
  rw [hrun, Oper.upon_value]
  exact hK _ _ (h _ _ ⟨rfl⟩ ⟨Blk.new W t cs⟩ ⟨(Below.refl _ _).alloc (Nat.le_refl _) _⟩ ⟨by simp⟩)
end

/-- blocks that are there at W -/
class XLt (W : World) (X : Nat → Prop) : Prop where h : ∀ k, X k → k < W.heap.size
section
variable {w W : World} {g : Nat} {B C : Nat → Prop}
instance XLt.e [a : LtB g W] : XLt W (XE g) := ⟨fun k h => by have : k = g := h; subst this; exact a.h⟩
instance XLt.xu [a : XLt W B] [b : XLt W C] : XLt W (XU B C) := ⟨fun k h => h.elim (a.h k) (b.h k)⟩
instance XLt.l [a : LeB w W] : XLt W (XL w) := ⟨fun k h => Nat.lt_of_lt_of_le h a.h⟩
instance XLt.xn : XLt W XN := ⟨fun k h => h.elim⟩
end
theorem xlt (X : Nat → Prop) (W : World) [a : XLt W X] : ∀ k, X k → k < W.heap.size := a.h
section
variable {ops : Array Oper} {rest : List Oper} {o : Oper} {a : Act} {Q : Exit → Act → World → Prop} {K : Act → World → Prop} {Z : Prop} {A Ae : Option Addr} {U v : World} {x ex : Sur} {c ce : Nat} {n d : Int}
/-- one term more behind such a row: what comes is none of X -/
theorem ro_stepX (X : Nat → Prop) {W : World} (hgd : o.guard = none) (s y : Operand) (ho : o.op = .call { callee := .builtin .append, args := #[s, y], argTypes := #[24, 24] })
    [ro : Ro W A U v x c] (hs : a.eval s = .slice A x.len c) {B : Nat} (hx : a.eval y = .slice (some ⟨B, 0, none⟩) 1 1) {t' : TypeId} {fr : Nat × Nat} [hb : Has W B (.cells #[.slice Ae ex.len ce, .int .i64 n, .int .i64 d] t' fr)]
    (he : SSl (XU (XOw (.slice A x.len c)) X) W ex Ae ce) (in_ : I64 n) (id_ : I64 d) (hn : x.len ≤ 1099511627776) [hlo : LeB U W] [q : XSub X (XV v (XL U))] [hX : XLt W X]
    (h : ∀ A' c' w', Tr w' A' X (x.app (.cons ex n d .nil)) c' → Kp W (XOw (.slice A x.len c)) w' → K (a.put o.dst (.slice A' (x.len + 1) c')) w') : if Region.wanted o (yielded ops a.tmps) = true then Oper.wp Try.prog o a W K Q else Z := by
  obtain ⟨xs, h1, h2, h3⟩ := ro.h
  haveI : Own W (.slice A x.len c) U 58 3 x.len xs := ⟨h1⟩
  refine ap_step hgd s y _ ho hs hx (by rfl) (by simp [Value.oneCell']) hn ?_
  intro g cap w' own kp _ hat _
  refine h (some ⟨g, 0, none⟩) cap w' ⟨?_⟩ kp
  have hk5 := kp.h.2.2.2.2
  have hr : TRow (XU (XOw (.slice A x.len c)) X) W x xs := h2.more fun k hk _ => hk.elim (fun h => .inr (.inr h)) (fun h => (q.h k h).elim (fun h => .inr (.inl h)) .inl)
  have hr' : TRow X w' (x.app (.cons ex n d .nil)) (xs ++ [.slice Ae ex.len ce, .int .i64 n, .int .i64 d]) :=
    TRow.snoc (he.keep fun k hX' hlt => ⟨fun hY => hX' (.inr hY), hk5 k hlt fun h => hX' (.inl h)⟩) in_ id_ (hr.keep fun k hX' hlt => ⟨fun hY => hX' (.inr hY), hk5 k hlt fun h => hX' (.inl h)⟩)
  have ho := own.h
  rw [← Sur.len_snoc x ex n d] at ho
  refine (SSl.of_own ho hr' fun k hk hXk => ?_).2
  have hkg : g = k := by simpa [Value.ownBlock] using hk
  subst hkg
  rcases hat with h | h
  · have := h1.lt g h
    have := h3 g h
    rcases q.h g hXk with h | h
    · omega
    · have : g < U.heap.size := h
      omega
  · have := hX.h g hXk
    omega
theorem ro_argX (W : World) (Ae : Option Addr) (Y : Nat → Prop) (v : Value) {X : Nat → Prop} [b : Tr W Ae X ex ce] [e1 : XSub Y X] [e2 : XSub (XOw v) X] : SSl (XU (XOw v) Y) W ex Ae ce :=
  b.h.more fun k hk _ => hk.elim (fun h => e2.h k h) (fun h => e1.h k h)
end
end Go.Proofs.Ytphabopnbcgodaa
