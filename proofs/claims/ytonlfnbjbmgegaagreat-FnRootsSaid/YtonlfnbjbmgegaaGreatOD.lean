/-
  Ordinals as lists of terms, and what it means that memory holds one. No program in sight.
  Ordinals for the classes.
  Walks, the reference's side: ordinals: one term, the order.
  Walks, the reference's side: an ordinal with one term more, put in naturally (some ordinal: the weak contract).
  Draws of ordinals; ordinals as surreal numbers (some number: the weak contract).
-/
import Derived.Test.YtonlfnbjbmgegaaGreatBA
import Derived.Test.YtonlfnbjbmgegaaGreatBG
import Derived.Test.YtonlfnbjbmgegaaGreatBC
import Derived.Test.YtonlfnbjbmgegaaGreatSOwn
namespace Go.Proofs.YtonlfnbjbmgegaaGreat
open Go.RowKit
set_option linter.unusedSimpArgs false
set_option linter.unusedVariables false

/-- an ordinal: its terms in order, each an exponent and a count -/
inductive Ord where
  | nil
  | cons (e : Ord) (n : Int) (r : Ord)

namespace Ord
def len : Ord → Nat
  | nil => 0
  | cons _ _ r => r.len + 1
def drop : Nat → Ord → Ord
  | 0, x => x
  | _ + 1, nil => nil
  | k + 1, cons _ _ r => r.drop k
def app : Ord → Ord → Ord
  | nil, y => y
  | cons e n r, y => cons e n (r.app y)
theorem len_app : ∀ (x y : Ord), (x.app y).len = x.len + y.len
  | nil, y => by simp [app, len]
  | cons e n r, y => by simp only [app, len, len_app r y]; omega
theorem app_nil : ∀ (x : Ord), x.app nil = x
  | nil => rfl
  | cons e n r => by simp only [app, app_nil r]
theorem app_assoc : ∀ (x y z : Ord), (x.app y).app z = x.app (y.app z)
  | nil, _, _ => rfl
  | cons e n r, y, z => by simp only [app, app_assoc r y z]
theorem drop_of_lt : ∀ (x : Ord) (k : Nat), k < x.len → ∃ e n, x.drop k = cons e n (x.drop (k + 1))
  | nil, k, h => by simp [len] at h
  | cons e n r, 0, _ => ⟨e, n, rfl⟩
  | cons e n r, k + 1, h => by
    obtain ⟨e', n', h'⟩ := drop_of_lt r k (by simp only [len] at h; omega)
    exact ⟨e', n', h'⟩
theorem drop_of_ge : ∀ (x : Ord) (k : Nat), x.len ≤ k → x.drop k = nil
  | nil, 0, _ => rfl
  | nil, k + 1, _ => rfl
  | cons e n r, 0, h => by simp [len] at h
  | cons e n r, k + 1, h => by simp only [drop]; exact drop_of_ge r k (by simp only [len] at h; omega)
theorem len_drop : ∀ (x : Ord) (k : Nat), (x.drop k).len = x.len - k
  | x, 0 => by simp [drop]
  | nil, k + 1 => by simp [drop, len]
  | cons e n r, k + 1 => by simp only [drop, len, len_drop r k]; omega
def take : Nat → Ord → Ord
  | 0, _ => nil
  | _ + 1, nil => nil
  | k + 1, cons e n r => cons e n (r.take k)
theorem take_app_drop : ∀ (x : Ord) (k : Nat), (x.take k).app (x.drop k) = x
  | x, 0 => by simp [take, app, drop]
  | nil, k + 1 => rfl
  | cons e n r, k + 1 => by simp only [take, app, drop, take_app_drop r k]
theorem take_len : ∀ (x : Ord), x.take x.len = x
  | nil => rfl
  | cons e n r => by simp only [len, take, take_len r]
theorem take_succ : ∀ (x : Ord) (k : Nat) (e : Ord) (n : Int) (r : Ord), x.drop k = cons e n r → x.take (k + 1) = (x.take k).app (cons e n nil)
  | nil, 0, _, _, _, h => by cases h
  | nil, k + 1, _, _, _, h => by cases h
  | cons e n r, 0, e', n', r', h => by simp only [drop] at h; cases h; simp [take, app]
  | cons e n r, k + 1, e', n', r', h => by simp only [drop] at h; simp only [take, app]; rw [take_succ r k e' n' r' h]
theorem len_take : ∀ (x : Ord) (k : Nat), k ≤ x.len → (x.take k).len = k
  | x, 0, _ => by simp [take, len]
  | nil, k + 1, h => by simp [len] at h
  | cons e n r, k + 1, h => by simp only [take, len]; rw [len_take r k (by simp only [len] at h; omega)]
/-- nodes, as IsOrdinal counts them -/
def nodes : Ord → Nat
  | nil => 1
  | cons e _ r => 1 + e.nodes + r.nodes
theorem len_lt_nodes : ∀ (x : Ord), x.len < x.nodes
  | nil => by simp [len, nodes]
  | cons e n r => by have := len_lt_nodes r; have := len_lt_nodes e; simp only [len, nodes]; omega
theorem nodes_drop {x : Ord} : ∀ {k : Nat} {e : Ord} {n : Int} {r : Ord}, x.drop k = .cons e n r → e.nodes + r.nodes + 1 ≤ x.nodes := by
  induction x with
  | nil => intro k e n r h; cases k <;> cases h
  | cons e0 n0 r0 _ ih =>
    intro k e n r h
    cases k with
    | zero => simp only [drop] at h; cases h; simp only [nodes]; omega
    | succ k => have := ih h; simp only [nodes]; omega
theorem nodes_app : ∀ (x y : Ord), (x.app y).nodes + 1 = x.nodes + y.nodes
  | nil, y => by simp only [app, nodes]; omega
  | cons e n r, y => by have := nodes_app r y; simp only [app, nodes]; omega
theorem nodes_snoc (x e : Ord) (n : Int) : (x.app (.cons e n .nil)).nodes = x.nodes + e.nodes + 1 := by
  have := nodes_app x (.cons e n .nil)
  simp only [nodes] at this
  omega
/-- each count satisfies p -/
def All (p : Int → Prop) : Ord → Prop
  | nil => True
  | cons e n r => e.All p ∧ p n ∧ r.All p
theorem All.mono {p q : Int → Prop} (h : ∀ n, p n → q n) : ∀ (x : Ord), x.All p → x.All q
  | nil, _ => trivial
  | cons e n r, hx => ⟨All.mono h e hx.1, h _ hx.2.1, All.mono h r hx.2.2⟩
theorem All.app {p : Int → Prop} : ∀ {x y : Ord}, x.All p → y.All p → (x.app y).All p
  | nil, _, _, hy => hy
  | cons e n r, y, hx, hy => ⟨hx.1, hx.2.1, All.app hx.2.2 hy⟩
theorem All.drop {p : Int → Prop} : ∀ {x : Ord} (k : Nat), x.All p → (x.drop k).All p
  | x, 0, h => h
  | nil, k + 1, _ => trivial
  | cons e n r, k + 1, h => All.drop (x := r) k h.2.2
end Ord

/-- memory holds the terms from a place on; no block of them is one of X -/
def OTerms (X : Nat → Prop) (w : World) : Ord → Nat → Nat → Prop
  | .nil, _, _ => True
  | .cons e n r, b, o => ¬ X b ∧
      (∃ A c, w.cell? ⟨b, o, none⟩ = some (.slice A e.len c) ∧ e.len ≤ c ∧ c ≤ maxLen ∧
        (match A with | none => e.len = 0 | some a => a = ⟨a.block, a.off, none⟩ ∧ OTerms X w e a.block a.off)) ∧
      w.cell? ⟨b, o + 1, none⟩ = some (.int .i64 n) ∧ I64 n ∧ OTerms X w r b (o + 2)

/-- a slice value at A with spare room up to c holds the terms -/
def OSl (X : Nat → Prop) (w : World) (e : Ord) (A : Option Addr) (c : Nat) : Prop :=
  e.len ≤ c ∧ c ≤ maxLen ∧ (match A with | none => e.len = 0 | some a => a = ⟨a.block, a.off, none⟩ ∧ OTerms X w e a.block a.off)

theorem OSl.le {X : Nat → Prop} {w : World} {e : Ord} {A : Option Addr} {c : Nat} (h : OSl X w e A c) : e.len ≤ c := h.1
theorem OSl.cap {X : Nat → Prop} {w : World} {e : Ord} {A : Option Addr} {c : Nat} (h : OSl X w e A c) : c ≤ maxLen := h.2.1
theorem OSl.nil (X : Nat → Prop) (w : World) : OSl X w .nil none 0 := ⟨by simp [Ord.len], by simp [maxLen], rfl⟩

/-- two worlds hold the same in all blocks of the first that are not X -/
theorem OTerms.keep {X Y : Nat → Prop} {w w' : World} : ∀ {e : Ord} {b o : Nat}, OTerms X w e b o →
    (∀ k, ¬ X k → k < w.heap.size → ¬ Y k ∧ w'.heap[k]? = w.heap[k]?) → OTerms Y w' e b o
  | .nil, _, _, _, _ => trivial
  | .cons e n r, b, o, h, hk => by
    obtain ⟨hx, ⟨A, c, hc, h1, h2, hA⟩, hn, in_, hr⟩ := h
    have hlt := World.block_lt_of_cell? w _ hc
    obtain ⟨hy, hb⟩ := hk b hx hlt
    refine ⟨hy, ⟨A, c, (World.cell?_of_block hb).trans hc, h1, h2, ?_⟩, (World.cell?_of_block hb).trans hn, in_, OTerms.keep hr hk⟩
    cases A with
    | none => exact hA
    | some a => exact ⟨hA.1, OTerms.keep hA.2 hk⟩

theorem OSl.keep {X Y : Nat → Prop} {w w' : World} {e : Ord} {A : Option Addr} {c : Nat} (h : OSl X w e A c)
    (hk : ∀ k, ¬ X k → k < w.heap.size → ¬ Y k ∧ w'.heap[k]? = w.heap[k]?) : OSl Y w' e A c := by
  refine ⟨h.1, h.2.1, ?_⟩
  have h3 := h.2.2
  cases A with
  | none => exact h3
  | some a => exact ⟨h3.1, OTerms.keep h3.2 hk⟩

theorem OSl.below {X : Nat → Prop} {w w' : World} {e : Ord} {A : Option Addr} {c : Nat} (h : OSl X w e A c) (hb : Below w.heap.size w w') : OSl X w' e A c :=
  h.keep fun k hx hk => ⟨hx, hb.block k hk⟩
/-- the blocks of X may be written -/
theorem OSl.far {X : Nat → Prop} {w : World} {e : Ord} {A : Option Addr} {c : Nat} (h : OSl X w e A c) {p : Addr} (hp : X p.block) (u : Value) : OSl X (w.setCell p u) e A c :=
  h.keep fun k hx _ => ⟨hx, Below.heap_setCell _ _ _ _ (fun e => hx (e ▸ hp))⟩
/-- X may be any set of blocks that lie in X already or are not there yet -/
theorem OSl.more {X Y : Nat → Prop} {w : World} {e : Ord} {A : Option Addr} {c : Nat} (h : OSl X w e A c) (hY : ∀ k, Y k → k < w.heap.size → X k) : OSl Y w e A c :=
  h.keep fun k hx hk => ⟨fun hy => hx (hY k hy hk), rfl⟩

/-- what stands at place k -/
theorem OTerms.drop {X : Nat → Prop} {w : World} : ∀ {e : Ord} {b o : Nat} (k : Nat), OTerms X w e b o → OTerms X w (e.drop k) b (o + k * 2)
  | e, b, o, 0, h => by simpa [Ord.drop] using h
  | .nil, b, o, k + 1, _ => trivial
  | .cons e n r, b, o, k + 1, h => by
    have := OTerms.drop k h.2.2.2.2
    simp only [Ord.drop]
    rw [show o + (k + 1) * 2 = o + 2 + k * 2 from by omega]
    exact this

/-- the slice has an address where it has an element, and the cells of the element k are these -/
theorem OSl.at_ {X : Nat → Prop} {w : World} {x : Ord} {A : Option Addr} {c : Nat} (h : OSl X w x A c) {k : Nat} (hk : k < x.len) :
    ∃ b o e n A' c', A = some ⟨b, o, none⟩ ∧ x.drop k = .cons e n (x.drop (k + 1)) ∧ w.cell? ⟨b, o + k * 2, none⟩ = some (.slice A' e.len c') ∧ w.cell? ⟨b, o + k * 2 + 1, none⟩ = some (.int .i64 n) ∧
      OSl X w e A' c' ∧ I64 n ∧ ¬ X b ∧ b < w.heap.size := by
  obtain ⟨h1, h2, h3⟩ := h
  cases A with
  | none => simp only at h3; omega
  | some a =>
    obtain ⟨ha, ht⟩ := h3
    have hd := OTerms.drop k ht
    obtain ⟨e, n, hx⟩ := Ord.drop_of_lt x k hk
    rw [hx] at hd
    obtain ⟨hX, ⟨A', c', hc, l1, l2, hA⟩, hn, in_, hr⟩ := hd
    refine ⟨a.block, a.off, e, n, A', c', by rw [← ha], hx, hc, hn, ⟨l1, l2, hA⟩, in_, hX, World.block_lt_of_cell? w ⟨a.block, _, none⟩ hc⟩

/-- the cells of a row read as terms -/
def ORow (X : Nat → Prop) (w : World) : Ord → List Value → Prop
  | .nil, xs => xs = []
  | .cons e n r, xs => ∃ A c ys, xs = .slice A e.len c :: .int .i64 n :: ys ∧ OSl X w e A c ∧ I64 n ∧ ORow X w r ys

theorem ORow.len {X : Nat → Prop} {w : World} : ∀ {e : Ord} {xs : List Value}, ORow X w e xs → xs.length = e.len * 2
  | .nil, _, h => by simp [ORow] at h; simp [h, Ord.len]
  | .cons e n r, _, ⟨A, c, ys, hxs, _, _, hr⟩ => by
    have := ORow.len hr
    subst hxs
    simp only [List.length_cons, Ord.len]; omega

theorem ORow.keep {X Y : Nat → Prop} {w w' : World} : ∀ {e : Ord} {xs : List Value}, ORow X w e xs →
    (∀ k, ¬ X k → k < w.heap.size → ¬ Y k ∧ w'.heap[k]? = w.heap[k]?) → ORow Y w' e xs
  | .nil, _, h, _ => h
  | .cons _ _ _, _, ⟨A, c, ys, hxs, hs, a, hr⟩, hk => ⟨A, c, ys, hxs, hs.keep hk, a, ORow.keep hr hk⟩

theorem ORow.below {X : Nat → Prop} {w w' : World} {e : Ord} {xs : List Value} (h : ORow X w e xs) (hb : Below w.heap.size w w') : ORow X w' e xs :=
  h.keep fun k hx hk => ⟨hx, hb.block k hk⟩

theorem ORow.app {X : Nat → Prop} {w : World} {y : Ord} {zs : List Value} (hy : ORow X w y zs) :
    ∀ {x : Ord} {xs : List Value}, ORow X w x xs → ORow X w (x.app y) (xs ++ zs)
  | .nil, _, h => by
    simp only [ORow] at h; subst h
    exact hy
  | .cons _ _ _, _, ⟨A', c', ys, hxs, hs', a, hr⟩ => by
    subst hxs
    exact ⟨A', c', _, rfl, hs', a, ORow.app hy hr⟩
theorem ORow.snoc {X : Nat → Prop} {w : World} {e : Ord} {n : Int} {A : Option Addr} {c : Nat} (hs : OSl X w e A c) (hn : I64 n) 
    {x : Ord} {xs : List Value} (h : ORow X w x xs) : ORow X w (x.app (.cons e n .nil)) (xs ++ [.slice A e.len c, .int .i64 n]) :=
  ORow.app (y := .cons e n .nil) ⟨A, c, [], rfl, hs, hn, rfl⟩ h

/-- a row in memory that reads as terms -/
theorem OTerms.of_row {X : Nat → Prop} {w : World} {b : Nat} (hX : ¬ X b) : ∀ {e : Ord} {xs : List Value} {o : Nat}, ORow X w e xs →
    (∀ j u, xs[j]? = some u → w.cell? ⟨b, o + j, none⟩ = some u) → OTerms X w e b o
  | .nil, _, _, _, _ => trivial
  | .cons e n r, _, o, ⟨A, c, ys, hxs, hs, in_, hr⟩, hc => by
    subst hxs
    refine ⟨hX, ⟨A, c, by simpa using hc 0 _ rfl, hs.1, hs.2.1, hs.2.2⟩, hc 1 _ rfl, in_, OTerms.of_row hX hr fun j u hj => ?_⟩
    have := hc (j + 2) u (by simpa using hj)
    rw [show o + 2 + j = o + (j + 2) from by omega]
    exact this

/-- what an owned row of terms is worth as a slice -/
theorem OSl.of_own {X : Nat → Prop} {w : World} {base E n : Nat} {A : Option Addr} {c : Nat} {x : Ord} {xs : List Value}
    (h : w.ownsRow base E 2 (.slice A n c) n xs) (ht : ORow X w x xs) (hX : ∀ k, Value.ownBlock (.slice A n c) = some k → ¬ X k) : n = x.len ∧ OSl X w x A c := by
  have hl := ht.len
  have hl' := h.1
  have hn : n = x.len := by omega
  refine ⟨hn, ?_⟩
  rcases h.2 with ⟨hv, h0⟩ | ⟨g, cap, cur, hv, hb, hg, hle, hcm, hsz, htk⟩
  · injection hv with hA _ hc
    subst hA hc
    exact ⟨by omega, by simp [maxLen], by simp only; omega⟩
  · have hcells := h.cells (g := g) (by rw [hv]; rfl)
    injection hv with hA _ hc
    subst hA hc
    refine ⟨by omega, hcm, rfl, OTerms.of_row (hX g rfl) ht fun j u hj => ?_⟩
    have := hcells j u hj
    rw [show (⟨g, 0, none⟩ : Addr).add j = ⟨g, j, none⟩ from by unfold Addr.add; split <;> simp_all] at this
    simpa using this
end Go.Proofs.YtonlfnbjbmgegaaGreat

namespace Go.Proofs.YtonlfnbjbmgegaaGreat
open Go.RowKit
set_option linter.unusedSimpArgs false
set_option linter.unusedVariables false

class OT (W : World) (A : Option Addr) (X : outParam (Nat → Prop)) (x : outParam Ord) (c : outParam Nat) : Prop where h : OSl X W x A c
class OR (W : World) (X : outParam (Nat → Prop)) (x : outParam Ord) (xs : List Value) : Prop where h : ORow X W x xs
theorem ORow.more {X Y : Nat → Prop} {w : World} {e : Ord} {xs : List Value} (h : ORow X w e xs) (hY : ∀ k, Y k → k < w.heap.size → X k) : ORow Y w e xs :=
  h.keep fun k hx hk => ⟨fun hy => hx (hY k hy hk), rfl⟩
section
variable {w w1 W U v0 lo hi : World} {g i : Nat} {o : Obj} {u v : Value} {S X Y B : Nat → Prop} {E : TypeId} {n : Nat} {xs : List Value} {x e : Ord} {A : Option Addr} {c : Nat}
instance OT.alloc [b : OT W A X x c] : OT (W.alloc o) A X x c := ⟨b.h.below ((Below.refl _ _).alloc (Nat.le_refl _) _)⟩
instance OT.bel [a : Bel W w1] [b : OT W A X x c] : OT w1 A X x c := ⟨b.h.below a.h⟩
instance OT.set {k : Option Nat} [b : OT W A X x c] [a : XOk X g] : OT (W.setCell ⟨g, i, k⟩ u) A X x c := ⟨b.h.far (p := ⟨g, i, k⟩) a.h u⟩
instance OT.drew [b : OT W A X x c] : OT W.drew A X x c := ⟨b.h.below (Below.refl _ _).drew⟩
instance OT.drewN {j : Nat} [b : OT W A X x c] : OT (W.drewN j) A X x c := ⟨b.h.below (Below.drewN (Below.refl _ _) j)⟩
instance OT.kp [a : Kp W S w1] [b : OT W A X x c] [e : XSub S X] : OT w1 A X x c := ⟨b.h.keep (fun k hX hk => ⟨hX, a.h.2.2.2.2 k hk (fun hS => hX (e.h k hS))⟩)⟩
instance OT.nil : OT W none XN .nil 0 := ⟨OSl.nil _ _⟩
theorem otr (W : World) (A : Option Addr) [b : OT W A X x c] : OSl X W x A c := b.h
theorem OT.arg (h : OSl X w x A c) : OT w A (XV w X) x c := ⟨h.more fun k hk hlt => by
  rcases hk with hk | hk
  · omega
  · exact hk⟩
theorem OT.lp (B : Nat → Prop) [b : OT W A X x c] [a : XSub B X] : OT W A (XV W B) x c := ⟨b.h.more fun k hk hlt => by
  rcases hk with hk | hk
  · omega
  · exact a.h k hk⟩
theorem otx (Y : Nat → Prop) (W : World) (A : Option Addr) [b : OT W A X x c] [a : XSub Y X] : OSl Y W x A c := b.h.more fun k hk _ => a.h k hk
instance OR.bel [a : Bel W w1] [b : OR W X x xs] : OR w1 X x xs := ⟨b.h.below a.h⟩
instance OR.alloc [b : OR W X x xs] : OR (W.alloc o) X x xs := ⟨b.h.below ((Below.refl _ _).alloc (Nat.le_refl _) _)⟩
instance OR.drew [b : OR W X x xs] : OR W.drew X x xs := ⟨b.h.below (Below.refl _ _).drew⟩
instance OR.drewN {j : Nat} [b : OR W X x xs] : OR (W.drewN j) X x xs := ⟨b.h.below (Below.drewN (Below.refl _ _) j)⟩
instance OR.set {k : Option Nat} [b : OR W X x xs] [a : XOk X g] : OR (W.setCell ⟨g, i, k⟩ u) X x xs := ⟨b.h.keep fun j hx _ => ⟨hx, Below.heap_setCell _ _ _ _ (fun e => hx (e ▸ a.h))⟩⟩
instance OR.kp [a : Kp W S w1] [b : OR W X x xs] [e : XSub S X] : OR w1 X x xs := ⟨b.h.keep (fun k hX hk => ⟨hX, a.h.2.2.2.2 k hk (fun hS => hX (e.h k hS))⟩)⟩
theorem OR.nil (W : World) (X : Nat → Prop) : OR W X .nil [] := ⟨rfl⟩
theorem OR.snoc {k : Int} {Ae : Option Addr} {ce : Nat} [b : OR W X x xs] (hs : OSl X W e Ae ce) (hn : I64 k) : OR W X (x.app (.cons e k .nil)) (xs ++ [.slice Ae e.len ce, .int .i64 k]) := ⟨ORow.snoc hs hn b.h⟩
theorem Ord.len_snoc (x e : Ord) (n : Int) : (x.app (.cons e n .nil)).len = x.len + 1 := by simp [Ord.len_app, Ord.len]
theorem Own.osnoc {k : Int} (h : Own W v lo E 2 (x.len + 1) xs) : Own W v lo E 2 (x.app (.cons e k .nil)).len xs := ⟨by rw [Ord.len_snoc]; exact h.h⟩
/-- the row as a slice value; its block is not to be one of Y -/
theorem osl_own (Y : Nat → Prop) (W : World) (A : Option Addr) (c : Nat) (x : Ord) [h : Own W (.slice A x.len c) lo E 2 x.len xs] [b : OR W X x xs] [a : XSub Y X] [d : XDis Y (.slice A x.len c)] : OSl Y W x A c :=
  (OSl.of_own h.h (b.h.more fun k hk _ => a.h k hk) d.h).2
/-- one term in a block of its own -/
theorem OSl.one {k : Int} {fr : Nat × Nat} (h : W.heap[g]? = some (.cells #[.slice A x.len c, .int .i64 k] E fr)) (sx : OSl X W x A c) (hX : ¬ X g) (in_ : I64 k) : OSl X W (.cons x k .nil) (some ⟨g, 0, none⟩) 1 := by
  haveI : Has W g (.cells #[.slice A x.len c, .int .i64 k] E fr) := ⟨h⟩
  exact ⟨by simp [Ord.len], by simp [maxLen], rfl, hX, ⟨A, c, has2.1, sx.1, sx.2.1, sx.2.2⟩, has2.2, in_, trivial⟩
end
instance elOT : Elem 92 122 2 32 := Elem.of (z := .agg #[.slice none 0 0, .int .i64 0]) Tryz.underlying92 (by kernel_rfl) rfl (by omega) (by omega)

/-- l1Sign -/
def osgn (n : Int) : Int := if 0 < n then 1 else if n < 0 then -1 else 0
/-- the order of two ordinals, as the reference finds it -/
def ocmp : Ord → Ord → Int
  | .nil, .nil => 0
  | .nil, .cons _ _ _ => -1
  | .cons _ _ _, .nil => 1
  | .cons e n r, .cons e' n' r' => if ocmp e e' ≠ 0 then ocmp e e' else if n ≠ n' then cmpI (IntKind.i64.wrap (n - n')) 0 else ocmp r r'
theorem ocmp_drop {x y : Ord} {k : Nat} {e e' r r' : Ord} {n n' : Int} (hx : x.drop k = .cons e n r) (hy : y.drop k = .cons e' n' r') (h : ocmp x y = ocmp (x.drop k) (y.drop k)) :
    (ocmp e e' ≠ 0 → ocmp x y = ocmp e e') ∧ (ocmp e e' = 0 → n ≠ n' → ocmp x y = cmpI (IntKind.i64.wrap (n - n')) 0) ∧ (ocmp e e' = 0 → n = n' → ocmp x y = ocmp r r') := by
  rw [h, hx, hy]
  simp only [ocmp]
  refine ⟨fun h => by rw [if_pos h], fun h h' => ?_, fun h h' => ?_⟩
  · rw [if_neg (by omega), if_pos h']
  · rw [if_neg (by omega), if_neg (by omega)]
theorem ocmp_range : ∀ (x y : Ord), ocmp x y = -1 ∨ ocmp x y = 0 ∨ ocmp x y = 1
  | .nil, .nil => by simp [ocmp]
  | .nil, .cons _ _ _ => by simp [ocmp]
  | .cons _ _ _, .nil => by simp [ocmp]
  | .cons e n r, .cons e' n' r' => by
    have h1 := ocmp_range e e'
    have h2 := ocmp_range r r'
    have h3 := cmpI_range (IntKind.i64.wrap (n - n')) 0
    simp only [ocmp]
    split
    · exact h1
    · split
      · exact h3
      · exact h2
end Go.Proofs.YtonlfnbjbmgegaaGreat

namespace Go.Proofs.YtonlfnbjbmgegaaGreat
open Go.RowKit
open List renaming getElem_toArray → zp1, getElem_cons_zero → zp2, getElem_cons_succ → zp3, setIfInBounds_toArray → zp4, set_cons_zero → zp5, set_cons_succ → zp6
set_option linter.unusedSimpArgs false
set_option linter.unusedVariables false

def RetO (X : Nat → Prop) (w : World) (x : Ord) (e : Ending) (w' : World) : Prop :=
  ∃ A c, e = .returned (.agg #[.slice A x.len c]) ∧ OSl X w' x A c ∧ Below w.heap.size w w'
/-- one term; none for the count 0 -/
def otermP (e : Ord) (n : Int) : Ord := if n = 0 then .nil else .cons e n .nil

attribute [local go_sem high] has_cell has_frozen
set_option maxHeartbeats 800000 in
theorem odTerm_any (x : Ord) (n : Int) (X : Nat → Prop) (A : Option Addr) (c : Nat) (w : World) (hX : ∀ k, X k → k < w.heap.size) (sx : OSl X w x A c) (in_ : I64 n) :
    Calls Tryz.prog 138 #[.agg #[.slice A x.len c], .int .i64 n] w (RetO X w (otermP x n)) := by
  haveI := OT.arg sx
  clear sx
  by_cases hn : n = 0
  · subst hn
    go_enter Tryz.func138, Tryz.ntmps138
    go_wp2_with (first | ((with_reducible refine at_dst (N := 2) rfl ?_); refine ev_box (cs := #[.slice A x.len c]) (t := 94) rfl ?hr2 ?_; (case hr2 => first | (go_simp; done) | (go_simp; rfl)); intro g2 v2 _ _ _ _) | ((with_reducible refine at_dst (N := 4) rfl ?_); refine ev_box (cs := #[.slice none 0 0]) (t := 94) rfl ?hr4 ?_; (case hr4 => first | (go_simp; done) | (go_simp; rfl)); intro g4 v4 _ _ _ _))
    refine bodyPost_ret (v := .agg #[.slice none 0 0]) (by simp [results, Tryz.results138, go_sem]) rfl ?_
    exact ⟨none, 0, rfl, OSl.nil _ _, ext _ _⟩
  · have H := Lib.hid (show otermP x n = .cons x n .nil by simp [otermP, hn])
    go_enter Tryz.func138, Tryz.ntmps138
    go_wp2_with (first | ((with_reducible refine at_dst (N := 2) rfl ?_); refine ev_box (cs := #[.slice A x.len c]) (t := 94) rfl ?hr2 ?_; (case hr2 => first | (go_simp; done) | (go_simp; rfl)); intro g2 v2 _ _ _ _) | ((with_reducible refine at_dst (N := 4) rfl ?_); refine ev_box (cs := #[.slice none 0 0]) (t := 94) rfl ?hr4 ?_; (case hr4 => first | (go_simp; done) | (go_simp; rfl)); intro g4 v4 _ _ _ _) | ((with_reducible refine at_dst (N := 11) rfl ?_); refine ev_sl (cs := #[.slice A x.len c, .int .i64 n]) (t := 122) rfl ?hr11 ?_; (case hr11 => first | (go_simp; done) | (go_simp; rfl)); intro g11 v11 _ _ _ _))
    refine bodyPost_ret (v := .agg #[.slice (some ⟨g11, 0, none⟩) 1 1]) (by simp [results, Tryz.results138, go_sem]) rfl ?_
    rw [H.out]
    exact ⟨some ⟨g11, 0, none⟩, 1, rfl, OSl.one (has _ g11) (otx X _ A) (fun h => by have := hX _ h; have := (inferInstance : GeB w g11).h; omega) in_, ext _ _⟩
set_option maxHeartbeats 800000 in
theorem odInt_any (n : Int) (X : Nat → Prop) (w : World) (hX : ∀ k, X k → k < w.heap.size) (in_ : I64 n) :
    Calls Tryz.prog 118 #[.int .i64 n] w (RetO X w (otermP .nil n)) := by
  go_enter Tryz.func118, Tryz.ntmps118
  go_wp2_with (first | ((with_reducible refine at_dst (N := 2) rfl ?_); refine ev_box (cs := #[.slice none 0 0]) (t := 94) rfl ?hr2 ?_; (case hr2 => first | (go_simp; done) | (go_simp; rfl)); intro g2 v2 _ _ _ _) | (go_at_call 138; refine (odTerm_any .nil n (XL _) none 0 _ (fun k hk => hk) (OSl.nil _ _) in_).mono ?_; rintro e5 w5 ⟨A5, c5, rfl, hs, hb⟩; haveI : Bel _ w5 := ⟨hb⟩; haveI := OT.arg hs; clear hs hb))
  refine bodyPost_ret (v := .agg #[.slice A5 (otermP .nil n).len c5]) (by simp [results, Tryz.results118, go_sem]) rfl ?_
  exact ⟨A5, c5, rfl, (otx (XL w) _ A5).more fun k hk _ => hX k hk, ext _ _⟩

set_option maxHeartbeats 1600000 in
set_option maxRecDepth 100000 in
theorem odCmp_any (N : Nat) : ∀ (x y : Ord) (X Y : Nat → Prop) (A A' : Option Addr) (c c' : Nat) (w : World), x.nodes ≤ N → OSl X w x A c → OSl Y w y A' c' →
    Calls Tryz.prog 139 #[.agg #[.slice A x.len c], .agg #[.slice A' y.len c']] w fun e w' => e = .returned (.int .i64 (ocmp x y)) ∧ Below w.heap.size w w' := by
  induction N with
  | zero => intro x y X Y A A' c c' w hN; have := x.len_lt_nodes; omega
  | succ N ih =>
    intro x y X Y A A' c c' w hN sx sy
    have IH := Lib.hid ih; clear ih
    have lx := sx.cap
    have lx' := sx.le
    have ly := sy.cap
    have ly' := sy.le
    unfold maxLen at lx ly
    haveI ix := OT.arg sx
    haveI iy := OT.arg sy
    clear sx sy
    go_enter Tryz.func139, Tryz.ntmps139
    go_wp2_with (first | ((with_reducible refine at_dst (N := 2) rfl ?_); refine ev_box (cs := #[.slice A x.len c]) (t := 94) rfl ?hr2 ?_; (case hr2 => first | (go_simp; done) | (go_simp; rfl)); intro g2 v2 _ _ _ _) | ((with_reducible refine at_dst (N := 3) rfl ?_); refine ev_box (cs := #[.slice A' y.len c']) (t := 94) rfl ?hr3 ?_; (case hr3 => first | (go_simp; done) | (go_simp; rfl)); intro g3 v3 _ _ _ _))
    haveI ix3 : OT v3 A _ x c := inferInstance
    haveI iy3 : OT v3 A' _ y c' := inferInstance
    clear ix iy
    go_loopw [11] (fun s wr => ∃ k : Nat, s = .int .i64 k ∧ k ≤ x.len ∧ k ≤ y.len ∧ Hid (ocmp x y = ocmp (x.drop k) (y.drop k)) ∧ Kp v3 XN wr ∧ OT wr A (XV w X) x c ∧ OT wr A' (XV w Y) y c') (fun s _ => x.len - (intOf s).toNat)
    case atStart => exact ⟨0, rfl, Nat.zero_le _, Nat.zero_le _, rfl, kp _ _ _, ix3, iy3⟩
    case round =>
      obtain ⟨k, rfl, hkx, hky, ho, _, ix4, iy4⟩ := hrel
      clear ix3 iy3
      have hk0' : (0 : Int) ≤ (k : Int) := by omega
      by_cases h1 : k < x.len
      · obtain ⟨b, o, e, n, A1, d1, rfl, hxk, f0, f1, se, _, _, hbl⟩ := ix4.h.at_ h1
        haveI := OT.arg se
        clear se
        have h1' : (k : Int) < (x.len : Int) := by omega
        by_cases h2 : k < y.len
        · obtain ⟨b', o', e', n', A2, d2, rfl, hyk, q0, q1, se', _, _, hbl'⟩ := iy4.h.at_ h2
          haveI := OT.arg se'
          clear se'
          have h2' : (k : Int) < (y.len : Int) := by omega
          have e2 : ((k : Int) == (y.len : Int)) = false := by simp; omega
          have HC := Lib.hid (ocmp_drop hxk hyk ho.out)
          have hne := Ord.nodes_drop hxk
          clear hxk hyk ho
          go_wp2_with (first | ((with_reducible refine at_dst (N := 6) rfl ?_); refine ev_box (cs := #[.slice none 0 0, .int .i64 0]) (t := 122) rfl ?hr6 ?_; (case hr6 => first | (go_simp; done) | (go_simp; rfl)); intro g6 v6 _ _ _ _))
          have Q0 : ∀ W, Ext wr W → W.cell? ⟨b', o' + k * 2, none⟩ = some (.slice A2 e'.len d2) := fun W h => ((h.h).cell hbl').trans q0
          have Q1 : ∀ W, Ext wr W → W.cell? ⟨b', o' + k * 2 + 1, none⟩ = some (.int .i64 n') := fun W h => ((h.h).cell hbl').trans q1
          refine wp_region_held_drew (S := (fun w' => w'.cell? ⟨g6, 0, none⟩ = some (.slice A1 e.len d1) ∧ w'.cell? ⟨g3, 0, none⟩ = some (.slice (some ⟨b', o', none⟩) y.len c') ∧ w'.cell? ⟨b', o' + k * 2, none⟩ = some (.slice A2 e'.len d2))) (by kernel_rfl) ?hSn1_ (fun hHeld => ?hRn1_)
          case hSn1_ => (exact ⟨has2.1, has1, Q0 _ inferInstance⟩)
          refine wpAnyH_take (i := 0) (v := ?vn1_1) rfl (by kernel_rfl) (by kernel_rfl) (by kernel_rfl) (fun _ _ _ h => h) (Or.inl ⟨by rfl, ?hyn1_1⟩) (by assumption) ?hRn1_1
          case hyn1_1 => (intro w hSw; (try dsimp only at hSw); go_simp; (try with_reducible rfl))
          try simp only [Act.put, zp1, zp2, zp3, zp4, zp5, zp6]
          refine wpAnyH_take (i := 1) (v := ?vn1_2) rfl (by kernel_rfl) (by kernel_rfl) (by kernel_rfl) (fun _ _ _ h => h) (Or.inl ⟨by rfl, ?hyn1_2⟩) (by assumption) ?hRn1_2
          case hyn1_2 => (intro w hSw; (try dsimp only at hSw); go_simp; (try with_reducible rfl))
          try simp only [Act.put, zp1, zp2, zp3, zp4, zp5, zp6]
          refine wpAnyH_take (i := 2) (v := ?vn1_3) rfl (by kernel_rfl) (by kernel_rfl) (by kernel_rfl) (fun _ _ _ h => h) (Or.inl ⟨by rfl, ?hyn1_3⟩) (by assumption) ?hRn1_3
          case hyn1_3 => (intro w hSw; (try dsimp only at hSw); go_simp; (try with_reducible rfl))
          try simp only [Act.put, zp1, zp2, zp3, zp4, zp5, zp6]
          refine wpAnyH_take (i := 3) (v := ?vn1_4) rfl (by kernel_rfl) (by kernel_rfl) (by kernel_rfl) (fun _ _ _ h => h) (Or.inl ⟨by rfl, ?hyn1_4⟩) (by assumption) ?hRn1_4
          case hyn1_4 => (intro w hSw; (try dsimp only at hSw); go_simp; (try with_reducible rfl))
          try simp only [Act.put, zp1, zp2, zp3, zp4, zp5, zp6]
          refine wpAnyH_take (i := 4) (v := ?vn1_5) rfl (by kernel_rfl) (by kernel_rfl) (by kernel_rfl) (fun _ _ _ h => h) (Or.inl ⟨by rfl, ?hyn1_5⟩) (by assumption) ?hRn1_5
          case hyn1_5 => (intro w hSw; (try dsimp only at hSw); go_simp; (try with_reducible rfl))
          try simp only [Act.put, zp1, zp2, zp3, zp4, zp5, zp6]
          refine wpAnyH_take (i := 5) (v := ?vn1_6) rfl (by kernel_rfl) (by kernel_rfl) (by kernel_rfl) (fun _ _ _ h => h) (Or.inl ⟨by rfl, ?hyn1_6⟩) (by assumption) ?hRn1_6
          case hyn1_6 => (intro w hSw; (try dsimp only at hSw); go_simp; (try with_reducible rfl))
          try simp only [Act.put, zp1, zp2, zp3, zp4, zp5, zp6]
          refine wpAnyH_take (i := 6) (v := ?vn1_7) rfl (by kernel_rfl) (by kernel_rfl) (by kernel_rfl) (fun _ _ _ h => h) (Or.inl ⟨by rfl, ?hyn1_7⟩) (by assumption) ?hRn1_7
          case hyn1_7 => (intro w hSw; (try dsimp only at hSw); go_simp; (try with_reducible rfl))
          try simp only [Act.put, zp1, zp2, zp3, zp4, zp5, zp6]
          refine wpAnyH_take (i := 7) (v := ?vn1_8) rfl (by kernel_rfl) (by kernel_rfl) (by kernel_rfl) (fun _ _ _ h => h) (Or.inl ⟨by rfl, ?hyn1_8⟩) (by assumption) ?hRn1_8
          case hyn1_8 => (intro w hSw; (try dsimp only at hSw); go_simp; (try with_reducible rfl))
          try simp only [Act.put, zp1, zp2, zp3, zp4, zp5, zp6]
          refine wpAnyH_ready (rs := [8]) (by kernel_rfl) (by simp) ?_
          refine AllReadyH.cons rfl (fun K hK => ?_) AllReadyH.nil
          go_simp
          (go_at_call 139; refine (IH.out e e' _ _ A1 A2 d1 d2 _ (by omega) (otr _ A1) (otr _ A2)).mono ?_; rintro e29 w29 ⟨rfl, hb⟩; haveI : Bel _ w29 := ⟨hb⟩; clear hb)
          go_wp2_with fail
          refine hK.out _ _ ?hSn1_9 (fun hHeld => ?hRn1_9)
          case hSn1_9 => ((try dsimp only); exact ⟨has2.1, has1, Q0 _ inferInstance⟩)
          clear hK K
          try simp only [Act.put, zp1, zp2, zp3, zp4, zp5, zp6]
          refine wpAnyH_take (i := 9) (v := ?vn1_10) rfl (by kernel_rfl) (by kernel_rfl) (by kernel_rfl) (fun _ _ _ h => h) (Or.inl ⟨by rfl, ?hyn1_10⟩) (by assumption) ?hRn1_10
          case hyn1_10 => (intro w hSw; (try dsimp only at hSw); go_simp; (try with_reducible rfl))
          try simp only [Act.put, zp1, zp2, zp3, zp4, zp5, zp6]
          refine wpAnyH_done (by kernel_rfl) ?_ _
          rcases ocmp_range e e' with q | q | q
          · have HN := Lib.hid ((HC.out.1 (by omega)).trans q)
            simp only [q]
            clear q
            go_wp2
            go_ret
            exact ⟨by rw [HN.out]; rfl, ext _ _⟩
          · by_cases qn : n = n'
            · have HN := Lib.hid (HC.out.2.2 q qn)
              have e3 : (n != n') = false := by simp [qn]
              simp only [q]
              clear q qn
              go_wp2
              refine wp_region_held_drew (S := (fun w' => w'.cell? ⟨g6, 1, none⟩ = some (.int .i64 n) ∧ w'.cell? ⟨g3, 0, none⟩ = some (.slice (some ⟨b', o', none⟩) y.len c') ∧ w'.cell? ⟨b', o' + k * 2 + 1, none⟩ = some (.int .i64 n'))) (by kernel_rfl) ?hSn2_ (fun hHeld => ?hRn2_)
              case hSn2_ => (exact ⟨has2.2, has1, Q1 _ inferInstance⟩)
              refine wpAnyH_take (i := 0) (v := ?vn2_1) rfl (by kernel_rfl) (by kernel_rfl) (by kernel_rfl) (fun _ _ _ h => h) (Or.inl ⟨by rfl, ?hyn2_1⟩) (by assumption) ?hRn2_1
              case hyn2_1 => (intro w hSw; (try dsimp only at hSw); go_simp; (try with_reducible rfl))
              try simp only [Act.put, zp1, zp2, zp3, zp4, zp5, zp6]
              refine wpAnyH_take (i := 1) (v := ?vn2_2) rfl (by kernel_rfl) (by kernel_rfl) (by kernel_rfl) (fun _ _ _ h => h) (Or.inl ⟨by rfl, ?hyn2_2⟩) (by assumption) ?hRn2_2
              case hyn2_2 => (intro w hSw; (try dsimp only at hSw); go_simp; (try with_reducible rfl))
              try simp only [Act.put, zp1, zp2, zp3, zp4, zp5, zp6]
              refine wpAnyH_take (i := 2) (v := ?vn2_3) rfl (by kernel_rfl) (by kernel_rfl) (by kernel_rfl) (fun _ _ _ h => h) (Or.inl ⟨by rfl, ?hyn2_3⟩) (by assumption) ?hRn2_3
              case hyn2_3 => (intro w hSw; (try dsimp only at hSw); go_simp; (try with_reducible rfl))
              try simp only [Act.put, zp1, zp2, zp3, zp4, zp5, zp6]
              refine wpAnyH_take (i := 3) (v := ?vn2_4) rfl (by kernel_rfl) (by kernel_rfl) (by kernel_rfl) (fun _ _ _ h => h) (Or.inl ⟨by rfl, ?hyn2_4⟩) (by assumption) ?hRn2_4
              case hyn2_4 => (intro w hSw; (try dsimp only at hSw); go_simp; (try with_reducible rfl))
              try simp only [Act.put, zp1, zp2, zp3, zp4, zp5, zp6]
              refine wpAnyH_take (i := 4) (v := ?vn2_5) rfl (by kernel_rfl) (by kernel_rfl) (by kernel_rfl) (fun _ _ _ h => h) (Or.inl ⟨by rfl, ?hyn2_5⟩) (by assumption) ?hRn2_5
              case hyn2_5 => (intro w hSw; (try dsimp only at hSw); go_simp; (try with_reducible rfl))
              try simp only [Act.put, zp1, zp2, zp3, zp4, zp5, zp6]
              refine wpAnyH_take (i := 5) (v := ?vn2_6) rfl (by kernel_rfl) (by kernel_rfl) (by kernel_rfl) (fun _ _ _ h => h) (Or.inl ⟨by rfl, ?hyn2_6⟩) (by assumption) ?hRn2_6
              case hyn2_6 => (intro w hSw; (try dsimp only at hSw); go_simp; (try with_reducible rfl))
              try simp only [Act.put, zp1, zp2, zp3, zp4, zp5, zp6]
              refine wpAnyH_take (i := 6) (v := ?vn2_7) rfl (by kernel_rfl) (by kernel_rfl) (by kernel_rfl) (fun _ _ _ h => h) (Or.inl ⟨by rfl, ?hyn2_7⟩) (by assumption) ?hRn2_7
              case hyn2_7 => (intro w hSw; (try dsimp only at hSw); go_simp; (try with_reducible rfl))
              try simp only [Act.put, zp1, zp2, zp3, zp4, zp5, zp6]
              refine wpAnyH_take (i := 7) (v := ?vn2_8) rfl (by kernel_rfl) (by kernel_rfl) (by kernel_rfl) (fun _ _ _ h => h) (Or.inl ⟨by rfl, ?hyn2_8⟩) (by assumption) ?hRn2_8
              case hyn2_8 => (intro w hSw; (try dsimp only at hSw); go_simp; (try with_reducible rfl))
              try simp only [Act.put, zp1, zp2, zp3, zp4, zp5, zp6]
              refine wpAnyH_take (i := 8) (v := ?vn2_9) rfl (by kernel_rfl) (by kernel_rfl) (by kernel_rfl) (fun _ _ _ h => h) (Or.inl ⟨by rfl, ?hyn2_9⟩) (by assumption) ?hRn2_9
              case hyn2_9 => (intro w hSw; (try dsimp only at hSw); go_simp; (try with_reducible rfl))
              try simp only [Act.put, zp1, zp2, zp3, zp4, zp5, zp6]
              refine wpAnyH_done (by kernel_rfl) ?_ _
              go_wp2
              exact ⟨⟨k + 1, by go_num, by omega, by omega, HN, kp _ _ _, inferInstance, inferInstance⟩, by simp [intOf]; omega⟩
            · have HN := Lib.hid (HC.out.2.1 q qn)
              have e3 : (n != n') = true := by simpa using qn
              simp only [q]
              clear q qn
              go_wp2
              refine wp_region_held_drew (S := (fun w' => w'.cell? ⟨g6, 1, none⟩ = some (.int .i64 n) ∧ w'.cell? ⟨g3, 0, none⟩ = some (.slice (some ⟨b', o', none⟩) y.len c') ∧ w'.cell? ⟨b', o' + k * 2 + 1, none⟩ = some (.int .i64 n'))) (by kernel_rfl) ?hSn3_ (fun hHeld => ?hRn3_)
              case hSn3_ => (exact ⟨has2.2, has1, Q1 _ inferInstance⟩)
              refine wpAnyH_take (i := 0) (v := ?vn3_1) rfl (by kernel_rfl) (by kernel_rfl) (by kernel_rfl) (fun _ _ _ h => h) (Or.inl ⟨by rfl, ?hyn3_1⟩) (by assumption) ?hRn3_1
              case hyn3_1 => (intro w hSw; (try dsimp only at hSw); go_simp; (try with_reducible rfl))
              try simp only [Act.put, zp1, zp2, zp3, zp4, zp5, zp6]
              refine wpAnyH_take (i := 1) (v := ?vn3_2) rfl (by kernel_rfl) (by kernel_rfl) (by kernel_rfl) (fun _ _ _ h => h) (Or.inl ⟨by rfl, ?hyn3_2⟩) (by assumption) ?hRn3_2
              case hyn3_2 => (intro w hSw; (try dsimp only at hSw); go_simp; (try with_reducible rfl))
              try simp only [Act.put, zp1, zp2, zp3, zp4, zp5, zp6]
              refine wpAnyH_take (i := 2) (v := ?vn3_3) rfl (by kernel_rfl) (by kernel_rfl) (by kernel_rfl) (fun _ _ _ h => h) (Or.inl ⟨by rfl, ?hyn3_3⟩) (by assumption) ?hRn3_3
              case hyn3_3 => (intro w hSw; (try dsimp only at hSw); go_simp; (try with_reducible rfl))
              try simp only [Act.put, zp1, zp2, zp3, zp4, zp5, zp6]
              refine wpAnyH_take (i := 3) (v := ?vn3_4) rfl (by kernel_rfl) (by kernel_rfl) (by kernel_rfl) (fun _ _ _ h => h) (Or.inl ⟨by rfl, ?hyn3_4⟩) (by assumption) ?hRn3_4
              case hyn3_4 => (intro w hSw; (try dsimp only at hSw); go_simp; (try with_reducible rfl))
              try simp only [Act.put, zp1, zp2, zp3, zp4, zp5, zp6]
              refine wpAnyH_take (i := 4) (v := ?vn3_5) rfl (by kernel_rfl) (by kernel_rfl) (by kernel_rfl) (fun _ _ _ h => h) (Or.inl ⟨by rfl, ?hyn3_5⟩) (by assumption) ?hRn3_5
              case hyn3_5 => (intro w hSw; (try dsimp only at hSw); go_simp; (try with_reducible rfl))
              try simp only [Act.put, zp1, zp2, zp3, zp4, zp5, zp6]
              refine wpAnyH_take (i := 5) (v := ?vn3_6) rfl (by kernel_rfl) (by kernel_rfl) (by kernel_rfl) (fun _ _ _ h => h) (Or.inl ⟨by rfl, ?hyn3_6⟩) (by assumption) ?hRn3_6
              case hyn3_6 => (intro w hSw; (try dsimp only at hSw); go_simp; (try with_reducible rfl))
              try simp only [Act.put, zp1, zp2, zp3, zp4, zp5, zp6]
              refine wpAnyH_take (i := 6) (v := ?vn3_7) rfl (by kernel_rfl) (by kernel_rfl) (by kernel_rfl) (fun _ _ _ h => h) (Or.inl ⟨by rfl, ?hyn3_7⟩) (by assumption) ?hRn3_7
              case hyn3_7 => (intro w hSw; (try dsimp only at hSw); go_simp; (try with_reducible rfl))
              try simp only [Act.put, zp1, zp2, zp3, zp4, zp5, zp6]
              refine wpAnyH_take (i := 7) (v := ?vn3_8) rfl (by kernel_rfl) (by kernel_rfl) (by kernel_rfl) (fun _ _ _ h => h) (Or.inl ⟨by rfl, ?hyn3_8⟩) (by assumption) ?hRn3_8
              case hyn3_8 => (intro w hSw; (try dsimp only at hSw); go_simp; (try with_reducible rfl))
              try simp only [Act.put, zp1, zp2, zp3, zp4, zp5, zp6]
              refine wpAnyH_take (i := 8) (v := ?vn3_9) rfl (by kernel_rfl) (by kernel_rfl) (by kernel_rfl) (fun _ _ _ h => h) (Or.inl ⟨by rfl, ?hyn3_9⟩) (by assumption) ?hRn3_9
              case hyn3_9 => (intro w hSw; (try dsimp only at hSw); go_simp; (try with_reducible rfl))
              try simp only [Act.put, zp1, zp2, zp3, zp4, zp5, zp6]
              refine wpAnyH_done (by kernel_rfl) ?_ _
              go_wp2
              refine wp_region_held_drew (S := (fun w' => w'.cell? ⟨g6, 1, none⟩ = some (.int .i64 n) ∧ w'.cell? ⟨g3, 0, none⟩ = some (.slice (some ⟨b', o', none⟩) y.len c') ∧ w'.cell? ⟨b', o' + k * 2 + 1, none⟩ = some (.int .i64 n'))) (by kernel_rfl) ?hSn4_ (fun hHeld => ?hRn4_)
              case hSn4_ => (exact ⟨has2.2, has1, Q1 _ inferInstance⟩)
              refine wpAnyH_take (i := 0) (v := ?vn4_1) rfl (by kernel_rfl) (by kernel_rfl) (by kernel_rfl) (fun _ _ _ h => h) (Or.inl ⟨by rfl, ?hyn4_1⟩) (by assumption) ?hRn4_1
              case hyn4_1 => (intro w hSw; (try dsimp only at hSw); go_simp; (try with_reducible rfl))
              try simp only [Act.put, zp1, zp2, zp3, zp4, zp5, zp6]
              refine wpAnyH_take (i := 1) (v := ?vn4_2) rfl (by kernel_rfl) (by kernel_rfl) (by kernel_rfl) (fun _ _ _ h => h) (Or.inl ⟨by rfl, ?hyn4_2⟩) (by assumption) ?hRn4_2
              case hyn4_2 => (intro w hSw; (try dsimp only at hSw); go_simp; (try with_reducible rfl))
              try simp only [Act.put, zp1, zp2, zp3, zp4, zp5, zp6]
              refine wpAnyH_take (i := 2) (v := ?vn4_3) rfl (by kernel_rfl) (by kernel_rfl) (by kernel_rfl) (fun _ _ _ h => h) (Or.inl ⟨by rfl, ?hyn4_3⟩) (by assumption) ?hRn4_3
              case hyn4_3 => (intro w hSw; (try dsimp only at hSw); go_simp; (try with_reducible rfl))
              try simp only [Act.put, zp1, zp2, zp3, zp4, zp5, zp6]
              refine wpAnyH_take (i := 3) (v := ?vn4_4) rfl (by kernel_rfl) (by kernel_rfl) (by kernel_rfl) (fun _ _ _ h => h) (Or.inl ⟨by rfl, ?hyn4_4⟩) (by assumption) ?hRn4_4
              case hyn4_4 => (intro w hSw; (try dsimp only at hSw); go_simp; (try with_reducible rfl))
              try simp only [Act.put, zp1, zp2, zp3, zp4, zp5, zp6]
              refine wpAnyH_take (i := 4) (v := ?vn4_5) rfl (by kernel_rfl) (by kernel_rfl) (by kernel_rfl) (fun _ _ _ h => h) (Or.inl ⟨by rfl, ?hyn4_5⟩) (by assumption) ?hRn4_5
              case hyn4_5 => (intro w hSw; (try dsimp only at hSw); go_simp; (try with_reducible rfl))
              try simp only [Act.put, zp1, zp2, zp3, zp4, zp5, zp6]
              refine wpAnyH_take (i := 5) (v := ?vn4_6) rfl (by kernel_rfl) (by kernel_rfl) (by kernel_rfl) (fun _ _ _ h => h) (Or.inl ⟨by rfl, ?hyn4_6⟩) (by assumption) ?hRn4_6
              case hyn4_6 => (intro w hSw; (try dsimp only at hSw); go_simp; (try with_reducible rfl))
              try simp only [Act.put, zp1, zp2, zp3, zp4, zp5, zp6]
              refine wpAnyH_take (i := 6) (v := ?vn4_7) rfl (by kernel_rfl) (by kernel_rfl) (by kernel_rfl) (fun _ _ _ h => h) (Or.inl ⟨by rfl, ?hyn4_7⟩) (by assumption) ?hRn4_7
              case hyn4_7 => (intro w hSw; (try dsimp only at hSw); go_simp; (try with_reducible rfl))
              try simp only [Act.put, zp1, zp2, zp3, zp4, zp5, zp6]
              refine wpAnyH_take (i := 7) (v := ?vn4_8) rfl (by kernel_rfl) (by kernel_rfl) (by kernel_rfl) (fun _ _ _ h => h) (Or.inl ⟨by rfl, ?hyn4_8⟩) (by assumption) ?hRn4_8
              case hyn4_8 => (intro w hSw; (try dsimp only at hSw); go_simp; (try with_reducible rfl))
              try simp only [Act.put, zp1, zp2, zp3, zp4, zp5, zp6]
              refine wpAnyH_take (i := 8) (v := ?vn4_9) rfl (by kernel_rfl) (by kernel_rfl) (by kernel_rfl) (fun _ _ _ h => h) (Or.inl ⟨by rfl, ?hyn4_9⟩) (by assumption) ?hRn4_9
              case hyn4_9 => (intro w hSw; (try dsimp only at hSw); go_simp; (try with_reducible rfl))
              try simp only [Act.put, zp1, zp2, zp3, zp4, zp5, zp6]
              refine wpAnyH_ready (rs := [9]) (by kernel_rfl) (by simp) ?_
              refine AllReadyH.cons rfl (fun K hK => ?_) AllReadyH.nil
              go_simp
              (go_at_call 104; refine (l1Sign_any _ _).mono ?_; rintro e51 w51 ⟨rfl, rfl⟩)
              go_wp2_with fail
              refine hK.out _ _ ?hSn4_10 (fun hHeld => ?hRn4_10)
              case hSn4_10 => ((try dsimp only); exact ⟨has2.2, has1, Q1 _ inferInstance⟩)
              clear hK K
              try simp only [Act.put, zp1, zp2, zp3, zp4, zp5, zp6]
              refine wpAnyH_take (i := 10) (v := ?vn4_11) rfl (by kernel_rfl) (by kernel_rfl) (by kernel_rfl) (fun _ _ _ h => h) (Or.inl ⟨by rfl, ?hyn4_11⟩) (by assumption) ?hRn4_11
              case hyn4_11 => (intro w hSw; (try dsimp only at hSw); go_simp; (try with_reducible rfl))
              try simp only [Act.put, zp1, zp2, zp3, zp4, zp5, zp6]
              refine wpAnyH_done (by kernel_rfl) ?_ _
              go_wp2
              go_ret
              exact ⟨by rw [HN.out]; rfl, ext _ _⟩
          · have HN := Lib.hid ((HC.out.1 (by omega)).trans q)
            simp only [q]
            clear q
            go_wp2
            go_ret
            exact ⟨by rw [HN.out]; rfl, ext _ _⟩
        · obtain rfl : k = y.len := by omega
          have HN := Lib.hid (show ocmp x y = 1 by rw [ho.out, hxk, y.drop_of_ge _ (Nat.le_refl _)]; simp [ocmp])
          clear hxk ho
          go_wp2_with (first | ((with_reducible refine at_dst (N := 6) rfl ?_); refine ev_box (cs := #[.slice none 0 0, .int .i64 0]) (t := 122) rfl ?hr6 ?_; (case hr6 => first | (go_simp; done) | (go_simp; rfl)); intro g6 v6 _ _ _ _))
          go_ret
          exact ⟨by rw [HN.out]; rfl, ext _ _⟩
      · obtain rfl : k = x.len := by omega
        by_cases h2 : x.len < y.len
        · have h2' : (x.len : Int) < (y.len : Int) := by omega
          have HN := Lib.hid (show ocmp x y = -1 by
            obtain ⟨e', n', hyk⟩ := y.drop_of_lt _ h2
            rw [ho.out, hyk, x.drop_of_ge _ (Nat.le_refl _)]; simp [ocmp])
          clear ho
          go_wp2
          go_ret
          exact ⟨by rw [HN.out]; rfl, ext _ _⟩
        · have h2' : ¬ (x.len : Int) < (y.len : Int) := by omega
          have HN := Lib.hid (show ocmp x y = 0 by rw [ho.out, x.drop_of_ge _ (Nat.le_refl _), y.drop_of_ge _ (by omega)]; simp [ocmp])
          clear ho
          go_wp2
          go_ret
          exact ⟨by rw [HN.out]; rfl, ext _ _⟩
end Go.Proofs.YtonlfnbjbmgegaaGreat

namespace Go.Proofs.YtonlfnbjbmgegaaGreat
open Go.RowKit
set_option linter.unusedSimpArgs false
set_option linter.unusedVariables false

theorem xdis_low {X : Nat → Prop} {v : Value} {w lo hi : World} (hX : ∀ k, X k → k < w.heap.size) [a : OwR v lo hi] [b : LeB w lo] : XDis X v := ⟨fun g hg h => by have := hX g h; have := (a.h g hg).1; have := b.h; omega⟩
theorem i64_wrap (n : Int) : I64 (wrap64 n) := by unfold wrap64 I64; omega
attribute [local go_sem high] has_cell has_frozen
set_option synthInstance.maxHeartbeats 2000000 in
set_option synthInstance.maxSize 4000 in
set_option maxHeartbeats 3200000 in
set_option maxRecDepth 100000 in
theorem odMeet_any (x e : Ord) (n : Int) (X : Nat → Prop) (A A' : Option Addr) (c c' : Nat) (w : World) (hX : ∀ k, X k → k < w.heap.size) (sx : OSl X w x A c) (sy : OSl X w e A' c') (in_ : I64 n) (hl : x.len ≤ 1000000000) :
    Calls Tryz.prog 119 #[.agg #[.slice A x.len c], .agg #[.slice A' e.len c', .int .i64 n]] w fun ex w' => ∃ z : Ord, z.len ≤ x.len + 1 ∧ z.nodes ≤ x.nodes + e.nodes + 1 ∧ RetO X w z ex w' := by
  have lx := sx.cap
  have lx' := sx.le
  unfold maxLen at lx
  haveI ix := OT.arg sx
  haveI iy := OT.arg sy
  clear sx sy
  go_enter Tryz.func119, Tryz.ntmps119
  go_wp2_with (first | ((with_reducible refine at_dst (N := 2) rfl ?_); refine ev_box (cs := #[.slice A x.len c]) (t := 94) rfl ?hr2 ?_; (case hr2 => first | (go_simp; done) | (go_simp; rfl)); intro g2 v2 _ _ _ _) | ((with_reducible refine at_dst (N := 3) rfl ?_); refine ev_box (cs := #[.slice A' e.len c', .int .i64 n]) (t := 122) rfl ?hr3 ?_; (case hr3 => first | (go_simp; done) | (go_simp; rfl)); intro g3 v3 _ _ _ _) | ((with_reducible refine at_dst (N := 4) rfl ?_); refine ev_box (cs := #[.slice none 0 0]) (t := 94) rfl ?hr4 ?_; (case hr4 => first | (go_simp; done) | (go_simp; rfl)); intro g4 v4 _ _ _ _) | ((with_reducible refine at_dst (N := 5) rfl ?_); refine ev_box (cs := #[.slice none 0 0]) (t := 94) rfl ?hr5 ?_; (case hr5 => first | (go_simp; done) | (go_simp; rfl)); intro g5 v5 _ _ _ _))
  go_loopw [6, 14] (fun s t wr => ∃ (i : Nat) (dn : Bool) (v : Value) (xs : List Value) (acc : Ord), s = .bool dn ∧ t = .int .i64 i ∧ i ≤ x.len ∧ acc.len ≤ i + 1 ∧ Hid (dn = false → acc.len ≤ i) ∧ Hid (acc.nodes + (x.drop i).nodes ≤ x.nodes + 1 + (bif dn then e.nodes + 1 else 0)) ∧
      Has wr g5 (.cells #[v] 94 (0, 0)) ∧ Own wr v v5 122 2 acc.len xs ∧ OR wr (XV w X) acc xs ∧ Kp v5 (XE g5) wr ∧ OT wr A (XV w X) x c ∧ OT wr A' (XV w X) e c') (fun _ t _ => x.len - (intOf t).toNat)
  case atStart =>
    exact ⟨0, false, .slice none 0 0, [], .nil, rfl, rfl, Nat.zero_le _, by simp [Ord.len], fun _ => by simp [Ord.len], (by show Ord.nodes .nil + (x.drop 0).nodes ≤ x.nodes + 1 + 0; simp only [Ord.nodes, Ord.drop]; omega), inferInstance, Own.nil _ _ _ _, OR.nil _ _, kp _ _ _, inferInstance, inferInstance⟩
  case round =>
    obtain ⟨i, dn, v, xs, acc, rfl, rfl, hi, hal, HA, HN, _, _, _, _, ix4, iy4⟩ := hrel
    clear ix iy
    haveI := Own.rg wr v
    have hi0' : (0 : Int) ≤ (i : Int) := by omega
    by_cases h1 : i < x.len
    · obtain ⟨b, o, e1, n1, A1, d1, rfl, hxk, f0, f1, se, in1, _, hbl⟩ := ix4.h.at_ h1
      haveI : OT wr A1 _ e1 d1 := ⟨se⟩
      have HN1 : Hid (acc.nodes + (1 + e1.nodes + (x.drop (i + 1)).nodes) ≤ x.nodes + 1 + (bif dn then e.nodes + 1 else 0)) := by have := HN.out; rw [hxk] at this; exact this
      clear se hxk HN
      have h1' : (i : Int) < (x.len : Int) := by omega
      have hac : acc.len ≤ 1099511627776 := by omega
      cases dn
      · have ha := HA.out rfl
        rcases ocmp_range e1 e with q | q | q
        · go_wp2_with (first | ((with_reducible refine at_dst (N := 8) rfl ?_); refine ev_box (cs := #[.slice none 0 0, .int .i64 0]) (t := 122) rfl ?hr8 ?_; (case hr8 => first | (go_simp; done) | (go_simp; rfl)); intro g8 v8 _ _ _ _) | go_at_call 139; refine (odCmp_any _ e1 e _ _ A1 A' d1 c' _ (Nat.le_refl _) (otr _ A1) (otr _ A')).mono ?_; rintro e22 w22 ⟨he, hb⟩; rw [q] at he; subst he; haveI : Bel _ w22 := ⟨hb⟩; clear hb | ((with_reducible refine at_dst (N := 47) rfl ?_); refine ev_sl (cs := #[.slice A' e.len c', .int .i64 n]) (t := 122) rfl ?hr47 ?_; (case hr47 => first | (go_simp; done) | (go_simp; rfl)); intro g47 v47 _ _ _ _) | ((with_reducible refine at_dst (N := 53) rfl ?_); refine ev_sl (cs := #[.slice A1 e1.len d1, .int .i64 n1]) (t := 122) rfl ?hr53 ?_; (case hr53 => first | (go_simp; done) | (go_simp; rfl)); intro g53 v53 _ _ _ _) | (at_builtin; (with_reducible refine at_dst (N := 48) rfl ?_); go_must (refine ap_list (v := v) rfl _ _ _ rfl rfl rfl rfl (by simp [Value.oneCell']) (by omega) ?_); intro gg48 cap48 wa48 _ _ _ hat48 _) | (at_builtin; (with_reducible refine at_dst (N := 54) rfl ?_); go_must (refine ap_list (v := (.slice (some ⟨gg48, 0, none⟩) (acc.len + 1) cap48)) rfl _ _ _ rfl rfl rfl rfl (by simp [Value.oneCell']) (by omega) ?_); intro gg54 cap54 wa54 _ _ _ hat54 _))
          refine ⟨⟨i + 1, true, _, _, (acc.app (.cons e n .nil)).app (.cons e1 n1 .nil), rfl, by go_num, by omega, by rw [Ord.len_snoc, Ord.len_snoc]; omega, fun h => (by cases h), (by have := HN1.out; rw [Ord.nodes_snoc, Ord.nodes_snoc]; simp only [cond_true, cond_false, Hid] at *; omega), inferInstance, Own.osnoc (by rw [Ord.len_snoc]; infer_instance), ?_, kp _ _ _, inferInstance, inferInstance⟩, by simp [intOf]; omega⟩
          haveI := OR.snoc (W := wa48) (x := acc) (xs := xs) (otr wa48 A') in_
          exact OR.snoc (otr _ A1) in1
        · go_wp2_with (first | ((with_reducible refine at_dst (N := 8) rfl ?_); refine ev_box (cs := #[.slice none 0 0, .int .i64 0]) (t := 122) rfl ?hr8 ?_; (case hr8 => first | (go_simp; done) | (go_simp; rfl)); intro g8 v8 _ _ _ _) | go_at_call 139; refine (odCmp_any _ e1 e _ _ A1 A' d1 c' _ (Nat.le_refl _) (otr _ A1) (otr _ A')).mono ?_; rintro e22 w22 ⟨he, hb⟩; rw [q] at he; subst he; haveI : Bel _ w22 := ⟨hb⟩; clear hb | ((with_reducible refine at_dst (N := 41) rfl ?_); refine ev_sl (cs := #[.slice A' e.len c', .int .i64 (wrap64 (n + n1))]) (t := 122) rfl ?hr41 ?_; (case hr41 => first | (go_simp; done) | (go_simp; rfl)); intro g41 v41 _ _ _ _) | (at_builtin; (with_reducible refine at_dst (N := 42) rfl ?_); go_must (refine ap_list (v := v) rfl _ _ _ rfl rfl rfl rfl (by simp [Value.oneCell']) (by omega) ?_); intro gg42 cap42 wa42 _ _ _ hat42 _))
          refine ⟨⟨i + 1, true, _, _, acc.app (.cons e (wrap64 (n + n1)) .nil), rfl, by go_num, by omega, by rw [Ord.len_snoc]; omega, fun h => (by cases h), (by have := HN1.out; rw [Ord.nodes_snoc]; simp only [cond_true, cond_false, Hid] at *; omega), inferInstance, Own.osnoc inferInstance, OR.snoc (otr _ A') (i64_wrap _), kp _ _ _, inferInstance, inferInstance⟩, by simp [intOf]; omega⟩
        · go_wp2_with (first | ((with_reducible refine at_dst (N := 8) rfl ?_); refine ev_box (cs := #[.slice none 0 0, .int .i64 0]) (t := 122) rfl ?hr8 ?_; (case hr8 => first | (go_simp; done) | (go_simp; rfl)); intro g8 v8 _ _ _ _) | go_at_call 139; refine (odCmp_any _ e1 e _ _ A1 A' d1 c' _ (Nat.le_refl _) (otr _ A1) (otr _ A')).mono ?_; rintro e22 w22 ⟨he, hb⟩; rw [q] at he; subst he; haveI : Bel _ w22 := ⟨hb⟩; clear hb | ((with_reducible refine at_dst (N := 53) rfl ?_); refine ev_sl (cs := #[.slice A1 e1.len d1, .int .i64 n1]) (t := 122) rfl ?hr53 ?_; (case hr53 => first | (go_simp; done) | (go_simp; rfl)); intro g53 v53 _ _ _ _) | (at_builtin; (with_reducible refine at_dst (N := 54) rfl ?_); go_must (refine ap_list (v := v) rfl _ _ _ rfl rfl rfl rfl (by simp [Value.oneCell']) (by omega) ?_); intro gg54 cap54 wa54 _ _ _ hat54 _))
          refine ⟨⟨i + 1, false, _, _, acc.app (.cons e1 n1 .nil), rfl, by go_num, by omega, by rw [Ord.len_snoc]; omega, fun _ => by rw [Ord.len_snoc]; omega, (by have := HN1.out; rw [Ord.nodes_snoc]; simp only [cond_true, cond_false, Hid] at *; omega), inferInstance, Own.osnoc inferInstance, OR.snoc (otr _ A1) in1, kp _ _ _, inferInstance, inferInstance⟩, by simp [intOf]; omega⟩
      · obtain ⟨q0, q⟩ : ∃ q0, ocmp e1 e = q0 := ⟨_, rfl⟩
        go_wp2_with (first | ((with_reducible refine at_dst (N := 8) rfl ?_); refine ev_box (cs := #[.slice none 0 0, .int .i64 0]) (t := 122) rfl ?hr8 ?_; (case hr8 => first | (go_simp; done) | (go_simp; rfl)); intro g8 v8 _ _ _ _) | go_at_call 139; refine (odCmp_any _ e1 e _ _ A1 A' d1 c' _ (Nat.le_refl _) (otr _ A1) (otr _ A')).mono ?_; rintro e22 w22 ⟨he, hb⟩; rw [q] at he; subst he; haveI : Bel _ w22 := ⟨hb⟩; clear hb | ((with_reducible refine at_dst (N := 53) rfl ?_); refine ev_sl (cs := #[.slice A1 e1.len d1, .int .i64 n1]) (t := 122) rfl ?hr53 ?_; (case hr53 => first | (go_simp; done) | (go_simp; rfl)); intro g53 v53 _ _ _ _) | (at_builtin; (with_reducible refine at_dst (N := 54) rfl ?_); go_must (refine ap_list (v := v) rfl _ _ _ rfl rfl rfl rfl (by simp [Value.oneCell']) (by omega) ?_); intro gg54 cap54 wa54 _ _ _ hat54 _))
        refine ⟨⟨i + 1, true, _, _, acc.app (.cons e1 n1 .nil), rfl, by go_num, by omega, by rw [Ord.len_snoc]; omega, fun h => (by cases h), (by have := HN1.out; rw [Ord.nodes_snoc]; simp only [cond_true, cond_false, Hid] at *; omega), inferInstance, Own.osnoc inferInstance, OR.snoc (otr _ A1) in1, kp _ _ _, inferInstance, inferInstance⟩, by simp [intOf]; omega⟩
    · obtain rfl : i = x.len := by omega
      have hac : acc.len ≤ 1099511627776 := by omega
      have HN1 : Hid (acc.nodes + 1 ≤ x.nodes + 1 + (bif dn then e.nodes + 1 else 0)) := by have := HN.out; rw [x.drop_of_ge _ (Nat.le_refl _)] at this; exact this
      cases dn
      · have ha := HA.out rfl
        go_wp2_with (first | ((with_reducible refine at_dst (N := 62) rfl ?_); refine ev_sl (cs := #[.slice A' e.len c', .int .i64 n]) (t := 122) rfl ?hr62 ?_; (case hr62 => first | (go_simp; done) | (go_simp; rfl)); intro g62 v62 _ _ _ _) | (at_builtin; (with_reducible refine at_dst (N := 63) rfl ?_); go_must (refine ap_list (v := v) rfl _ _ _ rfl rfl rfl rfl (by simp [Value.oneCell']) (by omega) ?_); intro gg63 cap63 wa63 _ _ _ hat63 _))
        refine bodyPost_ret (v := .agg #[.slice (some ⟨gg63, 0, none⟩) (acc.len + 1) cap63]) (by simp [results, Tryz.results119, go_sem]) rfl ?_
        refine ⟨acc.app (.cons e n .nil), by rw [Ord.len_snoc]; omega, (by have := HN1.out; rw [Ord.nodes_snoc]; simp only [cond_true, cond_false, Hid] at *; omega), some ⟨gg63, 0, none⟩, cap63, by rw [Ord.len_snoc], ?_, ext _ _⟩
        haveI : XDis X (.slice (some ⟨gg63, 0, none⟩) (acc.app (.cons e n .nil)).len cap63) := by rw [Ord.len_snoc]; exact xdis_low hX
        haveI := OR.snoc (W := wa63) (x := acc) (xs := xs) (otr wa63 A') in_
        haveI : Own wa63 (.slice (some ⟨gg63, 0, none⟩) (acc.app (.cons e n .nil)).len cap63) v5 122 2 (acc.app (.cons e n .nil)).len (xs ++ [.slice A' e.len c', .int .i64 n]) := by rw [Ord.len_snoc]; infer_instance
        haveI : OwR (.slice (some ⟨gg63, 0, none⟩) (acc.app (.cons e n .nil)).len cap63) v5 wa63 := by rw [Ord.len_snoc]; infer_instance
        exact osl_own X _ _ _ _
      · obtain ⟨Av, cv, rfl⟩ := own_slice (inferInstance : Own wr v v5 _ 2 acc.len xs).h
        go_wp2
        refine bodyPost_ret (v := .agg #[.slice Av acc.len cv]) (by simp [results, Tryz.results119, go_sem]) rfl ?_
        haveI : XDis X (.slice Av acc.len cv) := xdis_low hX
        exact ⟨acc, by omega, (by have := HN1.out; simp only [cond_true, cond_false, Hid] at *; omega), Av, cv, rfl, osl_own X _ _ _ _, ext _ _⟩
end Go.Proofs.YtonlfnbjbmgegaaGreat

namespace Go.Proofs.YtonlfnbjbmgegaaGreat
open Go.RowKit
open List renaming getElem_toArray → zp1, getElem_cons_zero → zp2, getElem_cons_succ → zp3, setIfInBounds_toArray → zp4, set_cons_zero → zp5, set_cons_succ → zp6
set_option linter.unusedSimpArgs false
set_option linter.unusedVariables false

attribute [local go_sem high] has_cell has_frozen
theorem xl_lt (w W : World) [a : LeB w W] : ∀ k, XL w k → k < W.heap.size := fun k hk => Nat.lt_of_lt_of_le hk a.h
theorem otermP_nodes (n : Int) : (otermP .nil n).nodes ≤ 3 := by unfold otermP; split <;> simp [Ord.nodes]
theorem otermP_len (e : Ord) (n : Int) : (otermP e n).len ≤ 1 := by unfold otermP; split <;> simp [Ord.len]
set_option synthInstance.maxHeartbeats 2000000 in
set_option synthInstance.maxSize 4000 in
set_option maxHeartbeats 3200000 in
set_option maxRecDepth 100000 in
theorem ordinal_step (dp : Nat) (hdp : dp ≤ 100) (K : Int) (M : Nat) (hK : 0 ≤ K) (hM : 3 ≤ M)
    (ih : ∀ dq, dp = dq + 1 → ∀ (q : Int) (g : Nat) (k : Int) (w : World) [hc : Cur w g k], q = dq → k + K ≤ 70368744177664 →
      Calls Tryz.prog 76 #[.pointer (some ⟨g, 0, none⟩), .int .i64 q] w fun e w' => ∃ (x : Ord) (A : Option Addr) (c : Nat), e = .returned (.agg #[.slice A x.len c]) ∧ OSl (XL w) w' x A c ∧ x.len ≤ 3 ∧ x.nodes ≤ M ∧ Drew w g (k + K) w')
    (g : Nat) (k : Int) (w : World) [hc : Cur w g k] (hk : k + (100 + 4 * K) ≤ 70368744177664) :
    Calls Tryz.prog 76 #[.pointer (some ⟨g, 0, none⟩), .int .i64 dp] w fun e w' => ∃ (x : Ord) (A : Option Addr) (c : Nat), e = .returned (.agg #[.slice A x.len c]) ∧ OSl (XL w) w' x A c ∧ x.len ≤ 3 ∧ x.nodes ≤ 4 + 4 * M ∧ Drew w g (k + (100 + 4 * K)) w' := by
  by_cases h0 : dp = 0
  · subst h0
    go_enter Tryz.func76, Tryz.ntmps76
    go_wp2_with (first | ((with_reducible refine at_dst (N := 4) rfl ?_); refine ev_box (cs := #[.slice none 0 0]) (t := 94) rfl ?hr4 ?_; (case hr4 => first | (go_simp; done) | (go_simp; rfl)); intro g4 v4 _ _ _ _) | ((with_reducible refine at_dst (N := 5) rfl ?_); refine ev_box (cs := #[.slice none 0 0]) (t := 94) rfl ?hr5 ?_; (case hr5 => first | (go_simp; done) | (go_simp; rfl)); intro g5 v5 _ _ _ _) | ((fail_if_success (have _q := r12)); go_at_call 70; refine (pick_any _ g _ _ (by omega) (by omega)).mono ?_; rintro e12 w12 ⟨r12, rfl, ha12, hb12, h1, h2⟩; haveI := h1; haveI := h2; clear h1 h2) | ((fail_if_success (have _q := A13)); go_at_call 118; refine (odInt_any _ (XL _) _ (fun k hk => hk) (by unfold I64; omega)).mono ?_; rintro e13 w13 ⟨A13, c13, rfl, hs, hb⟩; haveI : Bel _ w13 := ⟨hb⟩; haveI := OT.arg hs; clear hs hb))
    refine bodyPost_ret (v := .agg #[.slice A13 (otermP .nil r12).len c13]) (by simp [results, Tryz.results76, go_sem]) rfl ?_
    have hl := otermP_len .nil r12
    have hn := otermP_nodes r12
    exact ⟨otermP .nil r12, A13, c13, rfl, otx (XL w) _ A13, by omega, by omega, drew _ _ _ (by omega)⟩
  · obtain ⟨dq, rfl⟩ : ∃ dq, dp = dq + 1 := ⟨dp - 1, by omega⟩
    go_enter Tryz.func76, Tryz.ntmps76
    go_wp2_with (first | ((with_reducible refine at_dst (N := 4) rfl ?_); refine ev_box (cs := #[.slice none 0 0]) (t := 94) rfl ?hr4 ?_; (case hr4 => first | (go_simp; done) | (go_simp; rfl)); intro g4 v4 _ _ _ _) | ((with_reducible refine at_dst (N := 5) rfl ?_); refine ev_box (cs := #[.slice none 0 0]) (t := 94) rfl ?hr5 ?_; (case hr5 => first | (go_simp; done) | (go_simp; rfl)); intro g5 v5 _ _ _ _) | ((fail_if_success (have _q := r16)); go_at_call 24; (with_reducible refine (among_any (fun j => 0 ≤ j ∧ j ≤ 3) _ 6 _ g _ _ (by omega) (by omega) (fun W hW => by haveI := hW; exact ListOk.of (by first | (simp; done) | (simp; omega)) rfl)).mono ?_); rintro e16 w16 ⟨r16, rfl, hp16, h1, h2⟩; haveI := h1; haveI := h2; clear h1 h2))
    go_loopw [6] (fun s wr => ∃ (m : Nat) (out : Ord) (Ao : Option Addr) (co : Nat), s = .int .i64 m ∧ out.len + m ≤ 3 ∧ out.nodes + (M + 1) * m ≤ 1 + 3 * (M + 1) ∧ Has wr g5 (.cells #[.slice Ao out.len co] 94 (0, 0)) ∧ OT wr Ao (XV wr (XL v5)) out co ∧ Kp v5 (XU (XE g) (XE g5)) wr ∧ Cur wr g (k + 50 + 3 * K - (10 + K) * m)) (fun s _ => (intOf s).toNat)
    case atStart =>
      exact ⟨r16.toNat, .nil, none, 0, by go_num, by simp [Ord.len]; omega, (by have : (M + 1) * r16.toNat ≤ (M + 1) * 3 := Nat.mul_le_mul_left _ (by omega); simp only [Ord.nodes]; omega), inferInstance, ⟨OSl.nil _ _⟩, kp _ _ _, Cur.le inferInstance (by have : (10 + K) * (r16.toNat : Int) ≤ (10 + K) * 3 := Int.mul_le_mul_of_nonneg_left (by omega) (by omega); omega)⟩
    case round =>
      obtain ⟨m, out, Ao, co, rfl, hm, hno, _, _, _, hcr⟩ := hrel
      haveI := hcr
      by_cases hm0 : m = 0
      · subst hm0
        go_wp2
        refine bodyPost_ret (v := .agg #[.slice Ao out.len co]) (by simp [results, Tryz.results76, go_sem]) rfl ?_
        exact ⟨out, Ao, co, rfl, otx (XL w) _ Ao, by omega, by omega, drew _ _ _ (by omega)⟩
      · have hm1 : (1 : Int) ≤ m := by omega
        have hp1 : k + 50 + 3 * K - (10 + K) * (m : Int) + 10 + K ≤ k + 50 + 3 * K := by
          have : (10 + K) * 1 ≤ (10 + K) * (m : Int) := Int.mul_le_mul_of_nonneg_left hm1 (by omega)
          omega
        have hp2 : k + 50 + 3 * K - (10 + K) * (m : Int) + 10 + K = k + 50 + 3 * K - (10 + K) * ((m - 1 : Nat) : Int) := by
          rw [show ((m - 1 : Nat) : Int) = (m : Int) - 1 by omega, Int.mul_sub]; omega
        have hp3 : (M + 1) * m = (M + 1) * (m - 1) + (M + 1) := by
          obtain ⟨j, rfl⟩ : ∃ j, m = j + 1 := ⟨m - 1, by omega⟩
          rw [Nat.add_sub_cancel, Nat.mul_add]; omega
        generalize k + 50 + 3 * K - (10 + K) * (m : Int) = p0 at *
        go_wp2_with (first | ((fail_if_success (have _q := r22)); go_at_call 70; refine (pick_any _ g _ _ (by omega) (by omega)).mono ?_; rintro e22 w22 ⟨r22, rfl, ha22, hb22, h1, h2⟩; haveI := h1; haveI := h2; clear h1 h2) | ((fail_if_success (have _q := A23)); go_at_call 118; refine (odInt_any _ (XL _) _ (fun k hk => hk) (by unfold I64; omega)).mono ?_; rintro e23 w23 ⟨A23, c23, rfl, hs, hb⟩; haveI : Bel _ w23 := ⟨hb⟩; haveI := OT.arg hs; clear hs hb) | ((fail_if_success (have _q := r26)); go_at_call 70; refine (pick_any _ g _ _ (by omega) (by omega)).mono ?_; rintro e26 w26 ⟨r26, rfl, ha26, hb26, h1, h2⟩; haveI := h1; haveI := h2; clear h1 h2) | ((fail_if_success (have _q := r29)); go_at_call 24; (with_reducible refine (among_any (fun j => 0 ≤ j ∧ j ≤ 1000) _ 5 _ g _ _ (by omega) (by omega) (fun W hW => by haveI := hW; exact ListOk.of (by first | (simp; done) | (simp; omega)) rfl)).mono ?_); rintro e29 w29 ⟨r29, rfl, hp29, h1, h2⟩; haveI := h1; haveI := h2; clear h1 h2) | ((with_reducible refine at_dst (N := 7) rfl ?_); refine ev_box (cs := #[.slice none 0 0, .int .i64 0]) (t := 122) rfl ?hr7 ?_; (case hr7 => first | (go_simp; done) | (go_simp; rfl)); intro g7 v7 _ _ _ _) | ((fail_if_success (have _q := r32)); go_at_call 25; refine (one_any _ g _ _ (by omega) (by omega)).mono ?_; rintro e32 w32 ⟨r32, rfl, h1, h2⟩; haveI := h1; haveI := h2; clear h1 h2) | ((fail_if_success (have _q := A36)); go_at_call 76; refine (ih dq rfl _ g _ _ (by first | omega | (unfold wrap64; omega)) (by omega)).mono ?_; rintro e36 w36 ⟨x36, A36, c36, rfl, h0, hl36, hn36, h1, h2⟩; haveI := h1; haveI := h2; haveI := OT.arg h0; clear h0 h1 h2) | (go_at_call 119; (with_reducible refine (odMeet_any out x36 _ (XL v5) Ao A36 co c36 _ ?_ ?_ ?_ ?_ ?_).mono ?_); (exact xl_lt v5 _); (exact otx (XL v5) _ Ao); (exact otx (XL v5) _ A36); (focus (unfold I64; omega)); (focus omega); rintro e40 w40 ⟨z40, hl40, hn40, A40, c40, rfl, hs, hb⟩; haveI : Bel _ w40 := ⟨hb⟩; haveI := OT.arg hs; clear hs hb) | (go_at_call 119; (with_reducible refine (odMeet_any out (otermP .nil r22) _ (XL v5) Ao A23 co c23 _ ?_ ?_ ?_ ?_ ?_).mono ?_); (exact xl_lt v5 _); (exact otx (XL v5) _ Ao); (exact otx (XL v5) _ A23); (focus (unfold I64; omega)); (focus omega); rintro e40 w40 ⟨z40, hl40, hn40, A40, c40, rfl, hs, hb⟩; haveI : Bel _ w40 := ⟨hb⟩; haveI := OT.arg hs; clear hs hb))
        all_goals
          have hn := otermP_nodes r22
          exact ⟨⟨m - 1, z40, A40, c40, by go_num, by omega, by omega, inferInstance, OT.lp (XL v5), kp _ _ _, Cur.le inferInstance (by omega)⟩, by simp [intOf]; omega⟩

def cO : Nat → Int
  | 0 => 100
  | d + 1 => 100 + 4 * cO d
def cM : Nat → Nat
  | 0 => 16
  | d + 1 => 4 + 4 * cM d
theorem cO_pos : ∀ d, 0 ≤ cO d
  | 0 => by simp [cO]
  | d + 1 => by have := cO_pos d; simp only [cO]; omega
theorem cM_pos : ∀ d, 3 ≤ cM d
  | 0 => by simp [cM]
  | d + 1 => by have := cM_pos d; simp only [cM]; omega
theorem ordinal_any (dp : Nat) (hdp : dp ≤ 100) : ∀ (q : Int) (g : Nat) (k : Int) (w : World) [hc : Cur w g k], q = dp → k + cO dp ≤ 70368744177664 →
    Calls Tryz.prog 76 #[.pointer (some ⟨g, 0, none⟩), .int .i64 q] w fun e w' => ∃ (x : Ord) (A : Option Addr) (c : Nat), e = .returned (.agg #[.slice A x.len c]) ∧ OSl (XL w) w' x A c ∧ x.len ≤ 3 ∧ x.nodes ≤ cM dp ∧ Drew w g (k + cO dp) w' := by
  induction dp with
  | zero =>
    rintro q g k w hc rfl hk
    exact ordinal_step 0 hdp 0 3 (by omega) (by omega) (fun dq h => by omega) g k w (by simp only [cO] at hk; omega)
  | succ dp ih =>
    rintro q g k w hc rfl hk
    exact ordinal_step (dp + 1) hdp (cO dp) (cM dp) (cO_pos dp) (cM_pos dp) (fun dq h => by cases h; exact ih (by omega)) g k w (by simp only [cO] at hk; omega)

set_option synthInstance.maxHeartbeats 2000000 in
set_option synthInstance.maxSize 4000 in
set_option maxHeartbeats 3200000 in
set_option maxRecDepth 100000 in
theorem suFrom_any (N : Nat) (hN : N ≤ 1099511627776) : ∀ (x : Ord) (X : Nat → Prop) (A : Option Addr) (c : Nat) (w : World), x.nodes ≤ N → OSl X w x A c →
    Calls Tryz.prog 75 #[.agg #[.slice A x.len c]] w fun e w' => ∃ (z : Sur) (A' : Option Addr) (c' : Nat), e = .returned (.agg #[.slice A' z.len c']) ∧ z.len = x.len ∧ Ro w' A' w w' z c' ∧ Below w.heap.size w w' := by
  induction N with
  | zero => intro x X A c w hx; have := x.len_lt_nodes; omega
  | succ N ih =>
    intro x X A c w hx sx
    have IH := Lib.hid (ih (by omega)); clear ih
    have lx := sx.cap
    have lx' := sx.le
    have lx2 := x.len_lt_nodes
    unfold maxLen at lx
    haveI ix := OT.arg sx
    clear sx
    go_enter Tryz.func75, Tryz.ntmps75
    go_wp2_with (first | ((with_reducible refine at_dst (N := 1) rfl ?_); refine ev_box (cs := #[.slice A x.len c]) (t := 94) rfl ?hr1 ?_; (case hr1 => first | (go_simp; done) | (go_simp; rfl)); intro g1 v1 _ _ _ _) | ((with_reducible refine at_dst (N := 2) rfl ?_); refine ev_box (cs := #[.slice none 0 0]) (t := 26) rfl ?hr2 ?_; (case hr2 => first | (go_simp; done) | (go_simp; rfl)); intro g2 v2 _ _ _ _) | ((with_reducible refine at_dst (N := 3) rfl ?_); refine ev_box (cs := #[.slice none 0 0]) (t := 26) rfl ?hr3 ?_; (case hr3 => first | (go_simp; done) | (go_simp; rfl)); intro g3 v3 _ _ _ _))
    go_loopw [10] (fun s wr => ∃ (i : Nat) (out : Sur) (Ao : Option Addr) (co : Nat), s = .int .i64 i ∧ i ≤ x.len ∧ Hid (out.len = i) ∧ Has wr g3 (.cells #[.slice Ao out.len co] 26 (0, 0)) ∧ Ro wr Ao v3 wr out co ∧ Kp v3 (XE g3) wr ∧ OT wr A (XV w X) x c) (fun s _ => x.len - (intOf s).toNat)
    case atStart => exact ⟨0, .nil, none, 0, rfl, Nat.zero_le _, rfl, inferInstance, Ro.nil _ _ _, kp _ _ _, inferInstance⟩
    case round =>
      obtain ⟨i, out, Ao, co, rfl, hi, hol, _, _, _, ix4⟩ := hrel
      clear ix
      haveI := Ro.rg wr Ao
      have hi0' : (0 : Int) ≤ (i : Int) := by omega
      by_cases h1 : i < x.len
      · obtain ⟨b, o, e1, n1, A1, d1, rfl, hxk, f0, f1, se, in1, _, hbl⟩ := ix4.h.at_ h1
        haveI : OT wr A1 _ e1 d1 := ⟨se⟩
        have hnd := Ord.nodes_drop hxk
        clear se hxk
        have h1' : (i : Int) < (x.len : Int) := by omega
        have hol2 : out.len ≤ 1099511627776 := by have := hol.out; omega
        go_wp2_with (first | ((with_reducible refine at_dst (N := 5) rfl ?_); refine ev_box (cs := #[.slice none 0 0, .int .i64 0]) (t := 122) rfl ?hr5 ?_; (case hr5 => first | (go_simp; done) | (go_simp; rfl)); intro g5 v5 _ _ _ _))
        refine wp_region_held_drew (S := (fun w' => w'.cell? ⟨g5, 0, none⟩ = some (.slice A1 e1.len d1) ∧ w'.cell? ⟨g5, 1, none⟩ = some (.int .i64 n1))) (by kernel_rfl) ?hSn1_ (fun hHeld => ?hRn1_)
        case hSn1_ => (exact has2)
        refine wpAnyH_take (i := 0) (v := ?vn1_1) rfl (by kernel_rfl) (by kernel_rfl) (by kernel_rfl) (fun _ _ _ h => h) (Or.inl ⟨by rfl, ?hyn1_1⟩) (by assumption) ?hRn1_1
        case hyn1_1 => (intro w hSw; (try dsimp only at hSw); go_simp; (try with_reducible rfl))
        try simp only [Act.put, zp1, zp2, zp3, zp4, zp5, zp6]
        refine wpAnyH_take (i := 2) (v := ?vn1_2) rfl (by kernel_rfl) (by kernel_rfl) (by kernel_rfl) (fun _ _ _ h => h) (Or.inl ⟨by rfl, ?hyn1_2⟩) (by assumption) ?hRn1_2
        case hyn1_2 => (intro w hSw; (try dsimp only at hSw); go_simp; (try with_reducible rfl))
        try simp only [Act.put, zp1, zp2, zp3, zp4, zp5, zp6]
        refine wpAnyH_take (i := 3) (v := ?vn1_3) rfl (by kernel_rfl) (by kernel_rfl) (by kernel_rfl) (fun _ _ _ h => h) (Or.inl ⟨by rfl, ?hyn1_3⟩) (by assumption) ?hRn1_3
        case hyn1_3 => (intro w hSw; (try dsimp only at hSw); go_simp; (try with_reducible rfl))
        try simp only [Act.put, zp1, zp2, zp3, zp4, zp5, zp6]
        refine wpAnyH_take (i := 5) (v := ?vn1_4) rfl (by kernel_rfl) (by kernel_rfl) (by kernel_rfl) (fun _ _ _ h => h) (Or.inl ⟨by rfl, ?hyn1_4⟩) (by assumption) ?hRn1_4
        case hyn1_4 => (intro w hSw; (try dsimp only at hSw); go_simp; (try with_reducible rfl))
        try simp only [Act.put, zp1, zp2, zp3, zp4, zp5, zp6]
        refine wpAnyH_take (i := 6) (v := ?vn1_5) rfl (by kernel_rfl) (by kernel_rfl) (by kernel_rfl) (fun _ _ _ h => h) (Or.inl ⟨by rfl, ?hyn1_5⟩) (by assumption) ?hRn1_5
        case hyn1_5 => (intro w hSw; (try dsimp only at hSw); go_simp; (try with_reducible rfl))
        try simp only [Act.put, zp1, zp2, zp3, zp4, zp5, zp6]
        refine wpAnyH_ready (rs := [1, 4]) (by kernel_rfl) (by simp) ?_
        refine AllReadyH.cons rfl (fun K hK => ?bn1_6) (AllReadyH.cons rfl (fun K hK => ?bn1_7) (AllReadyH.nil))
        case' bn1_6 =>
          go_simp
          refine hK.out _ _ ?hSn1_8 (fun hHeld => ?hRn1_8)
          case hSn1_8 => ((try dsimp only); exact has2)
          clear hK K
          try simp only [Act.put, zp1, zp2, zp3, zp4, zp5, zp6]
          refine wpAnyH_ready (rs := [4]) (by kernel_rfl) (by simp) ?_
          refine AllReadyH.cons rfl (fun K hK => ?_) AllReadyH.nil
          go_simp
          (go_at_call 75; refine (IH.out e1 _ A1 d1 _ (by omega) (otr _ A1)).mono ?_; rintro e18 w18 ⟨x18, A18, c18, rfl, hlx, h0, hb⟩; clear hlx; haveI : Bel _ w18 := ⟨hb⟩; haveI := h0; clear h0 hb)
          go_wp2_with fail
          refine hK.out _ _ ?hSn1_9 (fun hHeld => ?hRn1_9)
          case hSn1_9 => ((try dsimp only); exact has2)
          clear hK K
          try simp only [Act.put, zp1, zp2, zp3, zp4, zp5, zp6]
          refine wpAnyH_ready (rs := [7]) (by kernel_rfl) (by simp) ?_
          refine AllReadyH.cons rfl (fun K hK => ?_) AllReadyH.nil
          go_simp
          (go_at_call 78; refine (shInt_any _ _).mono ?_; rintro e21 w21 ⟨rfl, hb⟩; haveI : Bel _ w21 := ⟨hb⟩; clear hb)
          go_wp2_with fail
          refine hK.out _ _ ?hSn1_10 (fun hHeld => ?hRn1_10)
          case hSn1_10 => ((try dsimp only); exact has2)
          clear hK K
          try simp only [Act.put, zp1, zp2, zp3, zp4, zp5, zp6]
          refine wpAnyH_take (i := 8) (v := ?vn1_11) rfl (by kernel_rfl) (by kernel_rfl) (by kernel_rfl) (fun _ _ _ h => h) (Or.inl ⟨by rfl, ?hyn1_11⟩) (by assumption) ?hRn1_11
          case hyn1_11 => (intro w hSw; (try dsimp only at hSw); go_simp; (try with_reducible rfl))
          try simp only [Act.put, zp1, zp2, zp3, zp4, zp5, zp6]
          refine wpAnyH_ready (rs := [9]) (by kernel_rfl) (by simp) ?_
          refine AllReadyH.cons rfl (fun K hK => ?_) AllReadyH.nil
          go_simp
          refine hK.out _ _ ?hSn1_12 (fun hHeld => ?hRn1_12)
          case hSn1_12 => ((try dsimp only); exact has2)
          clear hK K
          try simp only [Act.put, zp1, zp2, zp3, zp4, zp5, zp6]
          refine wpAnyH_ready (rs := [10]) (by kernel_rfl) (by simp) ?_
          refine AllReadyH.cons rfl (fun K hK => ?_) AllReadyH.nil
          (refine ro_step (A := Ao) (x := out) (c := co) (ex := x18) (Ae := A18) (ce := c18) (n := n1) (d := 1) (by rfl) _ _ (by rfl) (by rfl) (by rfl) (ro_arg _ A18 v3 _) in1 (by unfold I64; omega) (by omega) ?_; intro A24 c24 w24 _ _)
          refine hK.out _ _ ?hSn1_13 (fun hHeld => ?hRn1_13)
          case hSn1_13 => ((try dsimp only); exact has2)
          clear hK K
          try simp only [Act.put, zp1, zp2, zp3, zp4, zp5, zp6]
          refine wpAnyH_take (i := 11) (v := ?vn1_14) rfl (by kernel_rfl) (by kernel_rfl) (by kernel_rfl) (fun _ _ _ h => h) (Or.inl ⟨by rfl, ?hyn1_14⟩) (by assumption) ?hRn1_14
          case hyn1_14 => (intro w hSw; (try dsimp only at hSw); go_simp; (try with_reducible rfl))
          try simp only [Act.put, zp1, zp2, zp3, zp4, zp5, zp6]
          refine wpAnyH_ready (rs := [12]) (by kernel_rfl) (by simp) ?_
          refine AllReadyH.cons rfl (fun K hK => ?_) AllReadyH.nil
          go_simp
          refine hK.out _ _ ?hSn1_15 (fun hHeld => ?hRn1_15)
          case hSn1_15 => ((try dsimp only); exact has2)
          clear hK K
          try simp only [Act.put, zp1, zp2, zp3, zp4, zp5, zp6]
          refine wpAnyH_done (by kernel_rfl) ?_ _
        case' bn1_7 =>
          go_simp
          (go_at_call 75; refine (IH.out e1 _ A1 d1 _ (by omega) (otr _ A1)).mono ?_; rintro e18 w18 ⟨x18, A18, c18, rfl, hlx, h0, hb⟩; clear hlx; haveI : Bel _ w18 := ⟨hb⟩; haveI := h0; clear h0 hb)
          go_wp2_with fail
          refine hK.out _ _ ?hSn1_16 (fun hHeld => ?hRn1_16)
          case hSn1_16 => ((try dsimp only); exact has2)
          clear hK K
          try simp only [Act.put, zp1, zp2, zp3, zp4, zp5, zp6]
          refine wpAnyH_ready (rs := [1, 7]) (by kernel_rfl) (by simp) ?_
          refine AllReadyH.cons rfl (fun K hK => ?bn1_17) (AllReadyH.cons rfl (fun K hK => ?bn1_18) (AllReadyH.nil))
          case' bn1_17 =>
            go_simp
            refine hK.out _ _ ?hSn1_19 (fun hHeld => ?hRn1_19)
            case hSn1_19 => ((try dsimp only); exact has2)
            clear hK K
            try simp only [Act.put, zp1, zp2, zp3, zp4, zp5, zp6]
            refine wpAnyH_ready (rs := [7]) (by kernel_rfl) (by simp) ?_
            refine AllReadyH.cons rfl (fun K hK => ?_) AllReadyH.nil
            go_simp
            (go_at_call 78; refine (shInt_any _ _).mono ?_; rintro e21 w21 ⟨rfl, hb⟩; haveI : Bel _ w21 := ⟨hb⟩; clear hb)
            go_wp2_with fail
            refine hK.out _ _ ?hSn1_20 (fun hHeld => ?hRn1_20)
            case hSn1_20 => ((try dsimp only); exact has2)
            clear hK K
            try simp only [Act.put, zp1, zp2, zp3, zp4, zp5, zp6]
            refine wpAnyH_take (i := 8) (v := ?vn1_21) rfl (by kernel_rfl) (by kernel_rfl) (by kernel_rfl) (fun _ _ _ h => h) (Or.inl ⟨by rfl, ?hyn1_21⟩) (by assumption) ?hRn1_21
            case hyn1_21 => (intro w hSw; (try dsimp only at hSw); go_simp; (try with_reducible rfl))
            try simp only [Act.put, zp1, zp2, zp3, zp4, zp5, zp6]
            refine wpAnyH_ready (rs := [9]) (by kernel_rfl) (by simp) ?_
            refine AllReadyH.cons rfl (fun K hK => ?_) AllReadyH.nil
            go_simp
            refine hK.out _ _ ?hSn1_22 (fun hHeld => ?hRn1_22)
            case hSn1_22 => ((try dsimp only); exact has2)
            clear hK K
            try simp only [Act.put, zp1, zp2, zp3, zp4, zp5, zp6]
            refine wpAnyH_ready (rs := [10]) (by kernel_rfl) (by simp) ?_
            refine AllReadyH.cons rfl (fun K hK => ?_) AllReadyH.nil
            (refine ro_step (A := Ao) (x := out) (c := co) (ex := x18) (Ae := A18) (ce := c18) (n := n1) (d := 1) (by rfl) _ _ (by rfl) (by rfl) (by rfl) (ro_arg _ A18 v3 _) in1 (by unfold I64; omega) (by omega) ?_; intro A24 c24 w24 _ _)
            refine hK.out _ _ ?hSn1_23 (fun hHeld => ?hRn1_23)
            case hSn1_23 => ((try dsimp only); exact has2)
            clear hK K
            try simp only [Act.put, zp1, zp2, zp3, zp4, zp5, zp6]
            refine wpAnyH_take (i := 11) (v := ?vn1_24) rfl (by kernel_rfl) (by kernel_rfl) (by kernel_rfl) (fun _ _ _ h => h) (Or.inl ⟨by rfl, ?hyn1_24⟩) (by assumption) ?hRn1_24
            case hyn1_24 => (intro w hSw; (try dsimp only at hSw); go_simp; (try with_reducible rfl))
            try simp only [Act.put, zp1, zp2, zp3, zp4, zp5, zp6]
            refine wpAnyH_ready (rs := [12]) (by kernel_rfl) (by simp) ?_
            refine AllReadyH.cons rfl (fun K hK => ?_) AllReadyH.nil
            go_simp
            refine hK.out _ _ ?hSn1_25 (fun hHeld => ?hRn1_25)
            case hSn1_25 => ((try dsimp only); exact has2)
            clear hK K
            try simp only [Act.put, zp1, zp2, zp3, zp4, zp5, zp6]
            refine wpAnyH_done (by kernel_rfl) ?_ _
          case' bn1_18 =>
            go_simp
            (go_at_call 78; refine (shInt_any _ _).mono ?_; rintro e21 w21 ⟨rfl, hb⟩; haveI : Bel _ w21 := ⟨hb⟩; clear hb)
            go_wp2_with fail
            refine hK.out _ _ ?hSn1_26 (fun hHeld => ?hRn1_26)
            case hSn1_26 => ((try dsimp only); exact has2)
            clear hK K
            try simp only [Act.put, zp1, zp2, zp3, zp4, zp5, zp6]
            refine wpAnyH_take (i := 8) (v := ?vn1_27) rfl (by kernel_rfl) (by kernel_rfl) (by kernel_rfl) (fun _ _ _ h => h) (Or.inl ⟨by rfl, ?hyn1_27⟩) (by assumption) ?hRn1_27
            case hyn1_27 => (intro w hSw; (try dsimp only at hSw); go_simp; (try with_reducible rfl))
            try simp only [Act.put, zp1, zp2, zp3, zp4, zp5, zp6]
            refine wpAnyH_ready (rs := [1, 9]) (by kernel_rfl) (by simp) ?_
            refine AllReadyH.cons rfl (fun K hK => ?bn1_28) (AllReadyH.cons rfl (fun K hK => ?bn1_29) (AllReadyH.nil))
            case' bn1_28 =>
              go_simp
              refine hK.out _ _ ?hSn1_30 (fun hHeld => ?hRn1_30)
              case hSn1_30 => ((try dsimp only); exact has2)
              clear hK K
              try simp only [Act.put, zp1, zp2, zp3, zp4, zp5, zp6]
              refine wpAnyH_ready (rs := [9]) (by kernel_rfl) (by simp) ?_
              refine AllReadyH.cons rfl (fun K hK => ?_) AllReadyH.nil
              go_simp
              refine hK.out _ _ ?hSn1_31 (fun hHeld => ?hRn1_31)
              case hSn1_31 => ((try dsimp only); exact has2)
              clear hK K
              try simp only [Act.put, zp1, zp2, zp3, zp4, zp5, zp6]
              refine wpAnyH_ready (rs := [10]) (by kernel_rfl) (by simp) ?_
              refine AllReadyH.cons rfl (fun K hK => ?_) AllReadyH.nil
              (refine ro_step (A := Ao) (x := out) (c := co) (ex := x18) (Ae := A18) (ce := c18) (n := n1) (d := 1) (by rfl) _ _ (by rfl) (by rfl) (by rfl) (ro_arg _ A18 v3 _) in1 (by unfold I64; omega) (by omega) ?_; intro A24 c24 w24 _ _)
              refine hK.out _ _ ?hSn1_32 (fun hHeld => ?hRn1_32)
              case hSn1_32 => ((try dsimp only); exact has2)
              clear hK K
              try simp only [Act.put, zp1, zp2, zp3, zp4, zp5, zp6]
              refine wpAnyH_take (i := 11) (v := ?vn1_33) rfl (by kernel_rfl) (by kernel_rfl) (by kernel_rfl) (fun _ _ _ h => h) (Or.inl ⟨by rfl, ?hyn1_33⟩) (by assumption) ?hRn1_33
              case hyn1_33 => (intro w hSw; (try dsimp only at hSw); go_simp; (try with_reducible rfl))
              try simp only [Act.put, zp1, zp2, zp3, zp4, zp5, zp6]
              refine wpAnyH_ready (rs := [12]) (by kernel_rfl) (by simp) ?_
              refine AllReadyH.cons rfl (fun K hK => ?_) AllReadyH.nil
              go_simp
              refine hK.out _ _ ?hSn1_34 (fun hHeld => ?hRn1_34)
              case hSn1_34 => ((try dsimp only); exact has2)
              clear hK K
              try simp only [Act.put, zp1, zp2, zp3, zp4, zp5, zp6]
              refine wpAnyH_done (by kernel_rfl) ?_ _
            case' bn1_29 =>
              go_simp
              refine hK.out _ _ ?hSn1_35 (fun hHeld => ?hRn1_35)
              case hSn1_35 => ((try dsimp only); exact has2)
              clear hK K
              try simp only [Act.put, zp1, zp2, zp3, zp4, zp5, zp6]
              refine wpAnyH_ready (rs := [1]) (by kernel_rfl) (by simp) ?_
              refine AllReadyH.cons rfl (fun K hK => ?_) AllReadyH.nil
              go_simp
              refine hK.out _ _ ?hSn1_36 (fun hHeld => ?hRn1_36)
              case hSn1_36 => ((try dsimp only); exact has2)
              clear hK K
              try simp only [Act.put, zp1, zp2, zp3, zp4, zp5, zp6]
              refine wpAnyH_ready (rs := [10]) (by kernel_rfl) (by simp) ?_
              refine AllReadyH.cons rfl (fun K hK => ?_) AllReadyH.nil
              (refine ro_step (A := Ao) (x := out) (c := co) (ex := x18) (Ae := A18) (ce := c18) (n := n1) (d := 1) (by rfl) _ _ (by rfl) (by rfl) (by rfl) (ro_arg _ A18 v3 _) in1 (by unfold I64; omega) (by omega) ?_; intro A24 c24 w24 _ _)
              refine hK.out _ _ ?hSn1_37 (fun hHeld => ?hRn1_37)
              case hSn1_37 => ((try dsimp only); exact has2)
              clear hK K
              try simp only [Act.put, zp1, zp2, zp3, zp4, zp5, zp6]
              refine wpAnyH_take (i := 11) (v := ?vn1_38) rfl (by kernel_rfl) (by kernel_rfl) (by kernel_rfl) (fun _ _ _ h => h) (Or.inl ⟨by rfl, ?hyn1_38⟩) (by assumption) ?hRn1_38
              case hyn1_38 => (intro w hSw; (try dsimp only at hSw); go_simp; (try with_reducible rfl))
              try simp only [Act.put, zp1, zp2, zp3, zp4, zp5, zp6]
              refine wpAnyH_ready (rs := [12]) (by kernel_rfl) (by simp) ?_
              refine AllReadyH.cons rfl (fun K hK => ?_) AllReadyH.nil
              go_simp
              refine hK.out _ _ ?hSn1_39 (fun hHeld => ?hRn1_39)
              case hSn1_39 => ((try dsimp only); exact has2)
              clear hK K
              try simp only [Act.put, zp1, zp2, zp3, zp4, zp5, zp6]
              refine wpAnyH_done (by kernel_rfl) ?_ _
        all_goals
          go_wp2
          exact ⟨⟨i + 1, out.app (.cons x18 n1 1 .nil), A24, c24, by go_num, by omega, by have := hol.out; show _ = _; rw [Sur.len_snoc]; omega, by rw [Sur.len_snoc]; infer_instance, Ro.lp, kp _ _ _, inferInstance⟩, by simp [intOf]; omega⟩
      · obtain rfl : i = x.len := by omega
        go_wp2
        refine bodyPost_ret (v := .agg #[.slice Ao out.len co]) (by simp [results, Tryz.results75, go_sem]) rfl ?_
        exact ⟨out, Ao, co, rfl, hol.out, Ro.lp, ext _ _⟩
end Go.Proofs.YtonlfnbjbmgegaaGreat
