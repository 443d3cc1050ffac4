/-
  Ordinals as lists of terms, and what it means that memory holds one. No program in sight.
-/
import Derived.Test.YtdcnmaklnciofaaWSur
namespace Go.Proofs.Ytdcnmaklnciofaa
open Go.RowKit
set_option linter.unusedSimpArgs false
set_option linter.unusedVariables false

/-- an ordinal: its terms in order, each an exponent and a count -/
inductive Ord where
  | nil
  | cons (e : Ord) (n : Int) (r : Ord)

namespace Ord
def len : Ord → Nat
  | nil => 0
  | cons _ _ r => r.len + 1
def drop : Nat → Ord → Ord
  | 0, x => x
  | _ + 1, nil => nil
  | k + 1, cons _ _ r => r.drop k
def app : Ord → Ord → Ord
  | nil, y => y
  | cons e n r, y => cons e n (r.app y)
theorem len_app : ∀ (x y : Ord), (x.app y).len = x.len + y.len
  | nil, y => by simp [app, len]
  | cons e n r, y => by simp only [app, len, len_app r y]; omega
theorem app_nil : ∀ (x : Ord), x.app nil = x
  | nil => rfl
  | cons e n r => by simp only [app, app_nil r]
theorem app_assoc : ∀ (x y z : Ord), (x.app y).app z = x.app (y.app z)
  | nil, _, _ => rfl
  | cons e n r, y, z => by simp only [app, app_assoc r y z]
theorem drop_of_lt : ∀ (x : Ord) (k : Nat), k < x.len → ∃ e n, x.drop k = cons e n (x.drop (k + 1))
  | nil, k, h => by simp [len] at h
  | cons e n r, 0, _ => ⟨e, n, rfl⟩
  | cons e n r, k + 1, h => by
    obtain ⟨e', n', h'⟩ := drop_of_lt r k (by simp only [len] at h; omega)
    exact ⟨e', n', h'⟩
theorem drop_of_ge : ∀ (x : Ord) (k : Nat), x.len ≤ k → x.drop k = nil
  | nil, 0, _ => rfl
  | nil, k + 1, _ => rfl
  | cons e n r, 0, h => by simp [len] at h
  | cons e n r, k + 1, h => by simp only [drop]; exact drop_of_ge r k (by simp only [len] at h; omega)
theorem len_drop : ∀ (x : Ord) (k : Nat), (x.drop k).len = x.len - k
  | x, 0 => by simp [drop]
  | nil, k + 1 => by simp [drop, len]
  | cons e n r, k + 1 => by simp only [drop, len, len_drop r k]; omega
def take : Nat → Ord → Ord
  | 0, _ => nil
  | _ + 1, nil => nil
  | k + 1, cons e n r => cons e n (r.take k)
theorem take_app_drop : ∀ (x : Ord) (k : Nat), (x.take k).app (x.drop k) = x
  | x, 0 => by simp [take, app, drop]
  | nil, k + 1 => rfl
  | cons e n r, k + 1 => by simp only [take, app, drop, take_app_drop r k]
theorem take_len : ∀ (x : Ord), x.take x.len = x
  | nil => rfl
  | cons e n r => by simp only [len, take, take_len r]
theorem take_succ : ∀ (x : Ord) (k : Nat) (e : Ord) (n : Int) (r : Ord), x.drop k = cons e n r → x.take (k + 1) = (x.take k).app (cons e n nil)
  | nil, 0, _, _, _, h => by cases h
  | nil, k + 1, _, _, _, h => by cases h
  | cons e n r, 0, e', n', r', h => by simp only [drop] at h; cases h; simp [take, app]
  | cons e n r, k + 1, e', n', r', h => by simp only [drop] at h; simp only [take, app]; rw [take_succ r k e' n' r' h]
theorem len_take : ∀ (x : Ord) (k : Nat), k ≤ x.len → (x.take k).len = k
  | x, 0, _ => by simp [take, len]
  | nil, k + 1, h => by simp [len] at h
  | cons e n r, k + 1, h => by simp only [take, len]; rw [len_take r k (by simp only [len] at h; omega)]
/-- nodes, as IsOrdinal counts them -/
def nodes : Ord → Nat
  | nil => 1
  | cons e _ r => 1 + e.nodes + r.nodes
theorem len_lt_nodes : ∀ (x : Ord), x.len < x.nodes
  | nil => by simp [len, nodes]
  | cons e n r => by have := len_lt_nodes r; have := len_lt_nodes e; simp only [len, nodes]; omega
theorem nodes_drop {x : Ord} : ∀ {k : Nat} {e : Ord} {n : Int} {r : Ord}, x.drop k = .cons e n r → e.nodes + r.nodes + 1 ≤ x.nodes := by
  induction x with
  | nil => intro k e n r h; cases k <;> cases h
  | cons e0 n0 r0 _ ih =>
    intro k e n r h
    cases k with
    | zero => simp only [drop] at h; cases h; simp only [nodes]; omega
    | succ k => have := ih h; simp only [nodes]; omega
theorem nodes_app : ∀ (x y : Ord), (x.app y).nodes + 1 = x.nodes + y.nodes
  | nil, y => by simp only [app, nodes]; omega
  | cons e n r, y => by have := nodes_app r y; simp only [app, nodes]; omega
theorem nodes_snoc (x e : Ord) (n : Int) : (x.app (.cons e n .nil)).nodes = x.nodes + e.nodes + 1 := by
  have := nodes_app x (.cons e n .nil)
  simp only [nodes] at this
  omega
/-- each count satisfies p -/
def All (p : Int → Prop) : Ord → Prop
  | nil => True
  | cons e n r => e.All p ∧ p n ∧ r.All p
theorem All.mono {p q : Int → Prop} (h : ∀ n, p n → q n) : ∀ (x : Ord), x.All p → x.All q
  | nil, _ => trivial
  | cons e n r, hx => ⟨All.mono h e hx.1, h _ hx.2.1, All.mono h r hx.2.2⟩
theorem All.app {p : Int → Prop} : ∀ {x y : Ord}, x.All p → y.All p → (x.app y).All p
  | nil, _, _, hy => hy
  | cons e n r, y, hx, hy => ⟨hx.1, hx.2.1, All.app hx.2.2 hy⟩
theorem All.drop {p : Int → Prop} : ∀ {x : Ord} (k : Nat), x.All p → (x.drop k).All p
  | x, 0, h => h
  | nil, k + 1, _ => trivial
  | cons e n r, k + 1, h => All.drop (x := r) k h.2.2
end Ord

/-- memory holds the terms from a place on; no block of them is one of X -/
def OTerms (X : Nat → Prop) (w : World) : Ord → Nat → Nat → Prop
  | .nil, _, _ => True
  | .cons e n r, b, o => ¬ X b ∧
      (∃ A c, w.cell? ⟨b, o, none⟩ = some (.slice A e.len c) ∧ e.len ≤ c ∧ c ≤ maxLen ∧
        (match A with | none => e.len = 0 | some a => a = ⟨a.block, a.off, none⟩ ∧ OTerms X w e a.block a.off)) ∧
      w.cell? ⟨b, o + 1, none⟩ = some (.int .i64 n) ∧ I64 n ∧ OTerms X w r b (o + 2)

/-- a slice value at A with spare room up to c holds the terms -/
def OSl (X : Nat → Prop) (w : World) (e : Ord) (A : Option Addr) (c : Nat) : Prop :=
  e.len ≤ c ∧ c ≤ maxLen ∧ (match A with | none => e.len = 0 | some a => a = ⟨a.block, a.off, none⟩ ∧ OTerms X w e a.block a.off)

theorem OSl.le {X : Nat → Prop} {w : World} {e : Ord} {A : Option Addr} {c : Nat} (h : OSl X w e A c) : e.len ≤ c := h.1
theorem OSl.cap {X : Nat → Prop} {w : World} {e : Ord} {A : Option Addr} {c : Nat} (h : OSl X w e A c) : c ≤ maxLen := h.2.1
theorem OSl.nil (X : Nat → Prop) (w : World) : OSl X w .nil none 0 := ⟨by simp [Ord.len], by simp [maxLen], rfl⟩

/-- two worlds hold the same in all blocks of the first that are not X -/
theorem OTerms.keep {X Y : Nat → Prop} {w w' : World} : ∀ {e : Ord} {b o : Nat}, OTerms X w e b o →
    (∀ k, ¬ X k → k < w.heap.size → ¬ Y k ∧ w'.heap[k]? = w.heap[k]?) → OTerms Y w' e b o
  | .nil, _, _, _, _ => trivial
  | .cons e n r, b, o, h, hk => by
    obtain ⟨hx, ⟨A, c, hc, h1, h2, hA⟩, hn, in_, hr⟩ := h
    have hlt := World.block_lt_of_cell? w _ hc
    obtain ⟨hy, hb⟩ := hk b hx hlt
    refine ⟨hy, ⟨A, c, (World.cell?_of_block hb).trans hc, h1, h2, ?_⟩, (World.cell?_of_block hb).trans hn, in_, OTerms.keep hr hk⟩
    cases A with
    | none => exact hA
    | some a => exact ⟨hA.1, OTerms.keep hA.2 hk⟩

theorem OSl.keep {X Y : Nat → Prop} {w w' : World} {e : Ord} {A : Option Addr} {c : Nat} (h : OSl X w e A c)
    (hk : ∀ k, ¬ X k → k < w.heap.size → ¬ Y k ∧ w'.heap[k]? = w.heap[k]?) : OSl Y w' e A c := by
  refine ⟨h.1, h.2.1, ?_⟩
  have h3 := h.2.2
  cases A with
  | none => exact h3
  | some a => exact ⟨h3.1, OTerms.keep h3.2 hk⟩

theorem OSl.below {X : Nat → Prop} {w w' : World} {e : Ord} {A : Option Addr} {c : Nat} (h : OSl X w e A c) (hb : Below w.heap.size w w') : OSl X w' e A c :=
  h.keep fun k hx hk => ⟨hx, hb.block k hk⟩
/-- the blocks of X may be written -/
theorem OSl.far {X : Nat → Prop} {w : World} {e : Ord} {A : Option Addr} {c : Nat} (h : OSl X w e A c) {p : Addr} (hp : X p.block) (u : Value) : OSl X (w.setCell p u) e A c :=
  h.keep fun k hx _ => ⟨hx, Below.heap_setCell _ _ _ _ (fun e => hx (e ▸ hp))⟩
/-- X may be any set of blocks that lie in X already or are not there yet -/
theorem OSl.more {X Y : Nat → Prop} {w : World} {e : Ord} {A : Option Addr} {c : Nat} (h : OSl X w e A c) (hY : ∀ k, Y k → k < w.heap.size → X k) : OSl Y w e A c :=
  h.keep fun k hx hk => ⟨fun hy => hx (hY k hy hk), rfl⟩

/-- what stands at place k -/
theorem OTerms.drop {X : Nat → Prop} {w : World} : ∀ {e : Ord} {b o : Nat} (k : Nat), OTerms X w e b o → OTerms X w (e.drop k) b (o + k * 2)
  | e, b, o, 0, h => by simpa [Ord.drop] using h
  | .nil, b, o, k + 1, _ => trivial
  | .cons e n r, b, o, k + 1, h => by
    have := OTerms.drop k h.2.2.2.2
    simp only [Ord.drop]
    rw [show o + (k + 1) * 2 = o + 2 + k * 2 from by omega]
    exact this

/-- the slice has an address where it has an element, and the cells of the element k are these -/
theorem OSl.at_ {X : Nat → Prop} {w : World} {x : Ord} {A : Option Addr} {c : Nat} (h : OSl X w x A c) {k : Nat} (hk : k < x.len) :
    ∃ b o e n A' c', A = some ⟨b, o, none⟩ ∧ x.drop k = .cons e n (x.drop (k + 1)) ∧ w.cell? ⟨b, o + k * 2, none⟩ = some (.slice A' e.len c') ∧ w.cell? ⟨b, o + k * 2 + 1, none⟩ = some (.int .i64 n) ∧
      OSl X w e A' c' ∧ I64 n ∧ ¬ X b ∧ b < w.heap.size := by
  obtain ⟨h1, h2, h3⟩ := h
  cases A with
  | none => simp only at h3; omega
  | some a =>
    obtain ⟨ha, ht⟩ := h3
    have hd := OTerms.drop k ht
    obtain ⟨e, n, hx⟩ := Ord.drop_of_lt x k hk
    rw [hx] at hd
    obtain ⟨hX, ⟨A', c', hc, l1, l2, hA⟩, hn, in_, hr⟩ := hd
    refine ⟨a.block, a.off, e, n, A', c', by rw [← ha], hx, hc, hn, ⟨l1, l2, hA⟩, in_, hX, World.block_lt_of_cell? w ⟨a.block, _, none⟩ hc⟩

/-- the cells of a row read as terms -/
def ORow (X : Nat → Prop) (w : World) : Ord → List Value → Prop
  | .nil, xs => xs = []
  | .cons e n r, xs => ∃ A c ys, xs = .slice A e.len c :: .int .i64 n :: ys ∧ OSl X w e A c ∧ I64 n ∧ ORow X w r ys

theorem ORow.len {X : Nat → Prop} {w : World} : ∀ {e : Ord} {xs : List Value}, ORow X w e xs → xs.length = e.len * 2
  | .nil, _, h => by simp [ORow] at h; simp [h, Ord.len]
  | .cons e n r, _, ⟨A, c, ys, hxs, _, _, hr⟩ => by
    have := ORow.len hr
    subst hxs
    simp only [List.length_cons, Ord.len]; omega

theorem ORow.keep {X Y : Nat → Prop} {w w' : World} : ∀ {e : Ord} {xs : List Value}, ORow X w e xs →
    (∀ k, ¬ X k → k < w.heap.size → ¬ Y k ∧ w'.heap[k]? = w.heap[k]?) → ORow Y w' e xs
  | .nil, _, h, _ => h
  | .cons _ _ _, _, ⟨A, c, ys, hxs, hs, a, hr⟩, hk => ⟨A, c, ys, hxs, hs.keep hk, a, ORow.keep hr hk⟩

theorem ORow.below {X : Nat → Prop} {w w' : World} {e : Ord} {xs : List Value} (h : ORow X w e xs) (hb : Below w.heap.size w w') : ORow X w' e xs :=
  h.keep fun k hx hk => ⟨hx, hb.block k hk⟩

theorem ORow.app {X : Nat → Prop} {w : World} {y : Ord} {zs : List Value} (hy : ORow X w y zs) :
    ∀ {x : Ord} {xs : List Value}, ORow X w x xs → ORow X w (x.app y) (xs ++ zs)
  | .nil, _, h => by
    simp only [ORow] at h; subst h
    exact hy
  | .cons _ _ _, _, ⟨A', c', ys, hxs, hs', a, hr⟩ => by
    subst hxs
    exact ⟨A', c', _, rfl, hs', a, ORow.app hy hr⟩
theorem ORow.snoc {X : Nat → Prop} {w : World} {e : Ord} {n : Int} {A : Option Addr} {c : Nat} (hs : OSl X w e A c) (hn : I64 n) 
    {x : Ord} {xs : List Value} (h : ORow X w x xs) : ORow X w (x.app (.cons e n .nil)) (xs ++ [.slice A e.len c, .int .i64 n]) :=
  ORow.app (y := .cons e n .nil) ⟨A, c, [], rfl, hs, hn, rfl⟩ h

/-- a row in memory that reads as terms -/
theorem OTerms.of_row {X : Nat → Prop} {w : World} {b : Nat} (hX : ¬ X b) : ∀ {e : Ord} {xs : List Value} {o : Nat}, ORow X w e xs →
    (∀ j u, xs[j]? = some u → w.cell? ⟨b, o + j, none⟩ = some u) → OTerms X w e b o
  | .nil, _, _, _, _ => trivial
  | .cons e n r, _, o, ⟨A, c, ys, hxs, hs, in_, hr⟩, hc => by
    subst hxs
    refine ⟨hX, ⟨A, c, by simpa using hc 0 _ rfl, hs.1, hs.2.1, hs.2.2⟩, hc 1 _ rfl, in_, OTerms.of_row hX hr fun j u hj => ?_⟩
    have := hc (j + 2) u (by simpa using hj)
    rw [show o + 2 + j = o + (j + 2) from by omega]
    exact this

/-- what an owned row of terms is worth as a slice -/
theorem OSl.of_own {X : Nat → Prop} {w : World} {base E n : Nat} {A : Option Addr} {c : Nat} {x : Ord} {xs : List Value}
    (h : w.ownsRow base E 2 (.slice A n c) n xs) (ht : ORow X w x xs) (hX : ∀ k, Value.ownBlock (.slice A n c) = some k → ¬ X k) : n = x.len ∧ OSl X w x A c := by
  have hl := ht.len
  have hl' := h.1
  have hn : n = x.len := by omega
  refine ⟨hn, ?_⟩
  rcases h.2 with ⟨hv, h0⟩ | ⟨g, cap, cur, hv, hb, hg, hle, hcm, hsz, htk⟩
  · injection hv with hA _ hc
    subst hA hc
    exact ⟨by omega, by simp [maxLen], by simp only; omega⟩
  · have hcells := h.cells (g := g) (by rw [hv]; rfl)
    injection hv with hA _ hc
    subst hA hc
    refine ⟨by omega, hcm, rfl, OTerms.of_row (hX g rfl) ht fun j u hj => ?_⟩
    have := hcells j u hj
    rw [show (⟨g, 0, none⟩ : Addr).add j = ⟨g, j, none⟩ from by unfold Addr.add; split <;> simp_all] at this
    simpa using this
end Go.Proofs.Ytdcnmaklnciofaa
