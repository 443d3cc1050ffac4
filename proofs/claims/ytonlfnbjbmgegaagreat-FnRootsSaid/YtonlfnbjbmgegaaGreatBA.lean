/-
  Plain facts, no program in sight: fractions as pairs of whole numbers; surreal numbers as lists of terms.
  Words for memory: a block known whole. Turned from the guide's worked words.
  Surreal numbers as lists of terms, and what it means that memory holds one. No program in sight.
  Plain functions on surreal numbers, as the program computes them.
  Walks: fractions.
  Which numbers are right: plain.
  Surreal numbers that lie in memory as trees of their own: each slice in a block of its own. No program in sight.
-/
import Derived.WalkKit
import Derived.Below
import Derived.Laws.OwnMore
import Derived.Deep.AppendLies
import Derived.Deep.Draws
import Derived.WalkSmall
import Derived.Lib.Hide
import Derived.Test.YtonlfnbjbmgegaaGreatRows
import Derived.WalkSpells
import Derived.WalkLawsBesides
import Derived.Deep.QuietTactic
import Derived.BigQuiet
import Derived.Handy
import Derived.IntWalk
namespace Go.Proofs.YtonlfnbjbmgegaaGreat
open Go.RowKit
set_option linter.unusedSimpArgs false
set_option linter.unusedVariables false

/-- lo ≤ a ≤ hi -/
def inB (a lo hi : Int) : Bool := decide (lo ≤ a ∧ a ≤ hi)
theorem inB_true {a lo hi : Int} : inB a lo hi = true ↔ lo ≤ a ∧ a ≤ hi := by simp [inB]
theorem inB_false {a lo hi : Int} : inB a lo hi = false ↔ ¬ (lo ≤ a ∧ a ≤ hi) := by simp [inB]

/-- a fraction: lowest terms, bounded -/
def fracOk (n d : Int) : Bool := inB d 1 1000000 && (inB n (-1000000) 1000000 && decide ((Int.gcd n d : Int) = 1))

/-- whole numbers that fit -/
def I64 (n : Int) : Prop := -9223372036854775808 ≤ n ∧ n ≤ 9223372036854775807

def cmpI (a b : Int) : Int := if a < b then -1 else if b < a then 1 else 0

/-- lowest terms of a quotient, the divisor not 0 -/
def gsign (n d : Int) : Int := if d < 0 then -(Int.gcd n d : Int) else (Int.gcd n d : Int)
def mkN (n d : Int) : Int := n.tdiv (gsign n d)
def mkD (n d : Int) : Int := d.tdiv (gsign n d)

/-- the quotient as a fraction -/
def made (n d : Int) : Option (Int × Int) := if d = 0 then none else if fracOk (mkN n d) (mkD n d) = true then some (mkN n d, mkD n d) else none

def sizeI (n : Int) : Int := if n < -n then -n else n

end Go.Proofs.YtonlfnbjbmgegaaGreat

namespace Go.Proofs.YtonlfnbjbmgegaaGreat
open Go.RowKit
set_option linter.unusedSimpArgs false
set_option linter.unusedVariables false

theorem Below.drewN {B : Nat} {a w : World} (h : Below B a w) (n : Nat) : Below B a (w.drewN n) := ⟨h.os, h.tape, h.output, h.size, h.block⟩
theorem Below.call {B : Nat} {w W w1 : World} (h : Below B w W) (hB : B ≤ W.heap.size) (h1 : Below W.heap.size W w1) : Below B w w1 := h.trans (h1.mono hB)
theorem bcell {W w1 : World} (hb : Below W.heap.size W w1) : (∀ b o, b < W.heap.size → w1.cell? ⟨b, o, none⟩ = W.cell? ⟨b, o, none⟩) ∧ (∀ b o, b < W.heap.size → w1.frozen? ⟨b, o, none⟩ = W.frozen? ⟨b, o, none⟩) :=
  ⟨fun b o h => hb.cell (p := ⟨b, o, none⟩) h, fun b o h => hb.frozen (p := ⟨b, o, none⟩) h⟩

/-- block g is just these cells, none frozen -/
def Blk (w : World) (g : Nat) (t : TypeId) (cs : Array Value) : Prop := w.heap[g]? = some (.cells cs t (0, 0))

section
variable {w w' : World} {g : Nat} {t : TypeId} {cs : Array Value}
theorem Blk.lt (h : Blk w g t cs) : g < w.heap.size := by
  rcases Nat.lt_or_ge g w.heap.size with hlt | hge
  · exact hlt
  · unfold Blk at h; rw [Array.getElem?_eq_none hge] at h; cases h
theorem Blk.cell (h : Blk w g t cs) (i : Nat) : w.cell? ⟨g, i, none⟩ = cs[i]? := cell_of_row w g i cs t (0, 0) h
theorem Blk.frozen (h : Blk w g t cs) (i : Nat) : w.frozen? ⟨g, i, none⟩ = false := by
  unfold Blk at h
  simp [World.frozen?, h]
theorem Blk.new (w : World) (t : TypeId) (cs : Array Value) : Blk (w.alloc (.cells cs t)) w.heap.size t cs := heap_alloc_new w _
theorem Blk.new' {g : Nat} (w : World) (t : TypeId) (cs : Array Value) (h : g = w.heap.size) : Blk (w.alloc (.cells cs t)) g t cs := by subst h; exact heap_alloc_new w _
theorem Blk.drew (h : Blk w g t cs) : Blk w.drew g t cs := h
theorem Blk.drewN (h : Blk w g t cs) (n : Nat) : Blk (w.drewN n) g t cs := h
theorem Blk.alloc (h : Blk w g t cs) (o : Obj) : Blk (w.alloc o) g t cs := (Below.heap_alloc w o g h.lt).trans h
theorem Blk.set_ (h : Blk w g t cs) (i : Nat) (u : Value) : Blk (w.setCell ⟨g, i, none⟩ u) g t (cs.setIfInBounds i u) := by
  unfold Blk at h ⊢
  simp [World.setCell, Array.getElem?_modify, h]
theorem Blk.far (h : Blk w g t cs) {p : Addr} (hp : g ≠ p.block) (u : Value) : Blk (w.setCell p u) g t cs := (Below.heap_setCell w p u g hp).trans h
theorem Blk.below {B : Nat} (h : Blk w g t cs) (hb : Below B w w') (hg : g < B) : Blk w' g t cs := (hb.block g hg).trans h
theorem Blk.call (h : Blk w g t cs) (hb : Below w.heap.size w w') : Blk w' g t cs := (hb.block g h.lt).trans h
theorem Blk.grown {row : Option Nat} (h : Blk w g t cs) (hb : w.grownBy w' row) (hg : some g ≠ row) : Blk w' g t cs := (hb.block g h.lt hg).trans h
theorem Blk.app {W w2 : World} {row : Option Nat} (h : Blk w g t cs) (hb : Below w.heap.size w W) (hg : W.grownBy w2 row) (hne : some g ≠ row) : Blk w2 g t cs := (h.call hb).grown hg hne
theorem Blk.ne_ {g' : Nat} {t' : TypeId} {cs' : Array Value} (h : Blk w g t cs) (h' : Blk w g' t' cs') (hne : t ≠ t') : g ≠ g' := by
  rintro rfl
  unfold Blk at h h'
  rw [h] at h'
  injection h' with h'
  injection h' with _ ht
  exact hne ht
theorem Blk.c1 {a : Value} (h : Blk w g t #[a]) : w.cell? ⟨g, 0, none⟩ = some a ∧ w.frozen? ⟨g, 0, none⟩ = false := ⟨h.cell 0, h.frozen 0⟩
theorem Blk.c2 {a b : Value} (h : Blk w g t #[a, b]) : w.cell? ⟨g, 0, none⟩ = some a ∧ w.cell? ⟨g, 1, none⟩ = some b ∧ w.frozen? ⟨g, 0, none⟩ = false ∧ w.frozen? ⟨g, 1, none⟩ = false := ⟨h.cell 0, h.cell 1, h.frozen 0, h.frozen 1⟩
theorem Blk.c3 {a b c : Value} (h : Blk w g t #[a, b, c]) : w.cell? ⟨g, 0, none⟩ = some a ∧ w.cell? ⟨g, 1, none⟩ = some b ∧ w.cell? ⟨g, 2, none⟩ = some c ∧ w.frozen? ⟨g, 0, none⟩ = false ∧ w.frozen? ⟨g, 1, none⟩ = false ∧ w.frozen? ⟨g, 2, none⟩ = false := ⟨h.cell 0, h.cell 1, h.cell 2, h.frozen 0, h.frozen 1, h.frozen 2⟩
end
theorem own_blk_ne {w : World} {g : Nat} {t : TypeId} {cs : Array Value} {base : Nat} {e : TypeId} {size n : Nat} {v : Value} {xs : List Value} (h : w.ownsRow base e size v n xs) (hg : Blk w g t cs) (hne : e ≠ t) : v.ownBlock ≠ some g := by
  rcases h.2 with ⟨rfl, _⟩ | ⟨g', cap, cur, rfl, _, hh, _⟩
  · simp [Value.ownBlock]
  · intro he
    have : g' = g := by simpa [Value.ownBlock] using he
    subst this
    exact Blk.ne_ (t := e) hh hg hne rfl

theorem own_below {w w' : World} {base : Nat} {e : TypeId} {size : Nat} {v : Value} {n : Nat} {xs : List Value} (h : w.ownsRow base e size v n xs) (hb : Below w.heap.size w w') : w'.ownsRow base e size v n xs := by
  obtain ⟨h1, h2⟩ := h
  refine ⟨h1, ?_⟩
  rcases h2 with h2 | ⟨g, cap, cur, hv, hg, hh, r⟩
  · exact .inl h2
  · exact .inr ⟨g, cap, cur, hv, hg, by rw [hb.block g (Array.getElem?_eq_some_iff.1 hh).1]; exact hh, r⟩
theorem own_ne {w : World} {base : Nat} {e : TypeId} {size : Nat} {v : Value} {n : Nat} {xs : List Value} (h : w.ownsRow base e size v n xs) {k : Nat} (hk : k < base ∨ w.heap.size ≤ k) : v.ownBlock ≠ some k := fun he => by
  have := h.lt k he
  omega
theorem own_setCell {w : World} {base : Nat} {e : TypeId} {size : Nat} {v : Value} {n : Nat} {xs : List Value} (h : w.ownsRow base e size v n xs) {p : Addr} (hp : v.ownBlock ≠ some p.block) (u : Value) : (w.setCell p u).ownsRow base e size v n xs := by
  obtain ⟨h1, h2⟩ := h
  refine ⟨h1, ?_⟩
  rcases h2 with h2 | ⟨g, cap, cur, hv, hg, hh, r⟩
  · exact .inl h2
  · refine .inr ⟨g, cap, cur, hv, hg, ?_, r⟩
    rw [Below.heap_setCell _ _ _ _ (fun e => hp (by rw [hv, ← e]; rfl))]; exact hh

end Go.Proofs.YtonlfnbjbmgegaaGreat

namespace Go.Proofs.YtonlfnbjbmgegaaGreat
open Go.RowKit
set_option linter.unusedSimpArgs false
set_option linter.unusedVariables false

/-- a surreal number: its terms in order, each an exponent and a fraction -/
inductive Sur where
  | nil
  | cons (e : Sur) (n d : Int) (r : Sur)

namespace Sur
def len : Sur → Nat
  | nil => 0
  | cons _ _ _ r => r.len + 1
def drop : Nat → Sur → Sur
  | 0, x => x
  | _ + 1, nil => nil
  | k + 1, cons _ _ _ r => r.drop k
def app : Sur → Sur → Sur
  | nil, y => y
  | cons e n d r, y => cons e n d (r.app y)
theorem len_app : ∀ (x y : Sur), (x.app y).len = x.len + y.len
  | nil, y => by simp [app, len]
  | cons e n d r, y => by simp only [app, len, len_app r y]; omega
theorem app_nil : ∀ (x : Sur), x.app nil = x
  | nil => rfl
  | cons e n d r => by simp only [app, app_nil r]
theorem app_assoc : ∀ (x y z : Sur), (x.app y).app z = x.app (y.app z)
  | nil, _, _ => rfl
  | cons e n d r, y, z => by simp only [app, app_assoc r y z]
theorem drop_of_lt : ∀ (x : Sur) (k : Nat), k < x.len → ∃ e n d, x.drop k = cons e n d (x.drop (k + 1))
  | nil, k, h => by simp [len] at h
  | cons e n d r, 0, _ => ⟨e, n, d, rfl⟩
  | cons e n d r, k + 1, h => by
    obtain ⟨e', n', d', h'⟩ := drop_of_lt r k (by simp only [len] at h; omega)
    exact ⟨e', n', d', h'⟩
theorem drop_of_ge : ∀ (x : Sur) (k : Nat), x.len ≤ k → x.drop k = nil
  | nil, 0, _ => rfl
  | nil, k + 1, _ => rfl
  | cons e n d r, 0, h => by simp [len] at h
  | cons e n d r, k + 1, h => by simp only [drop]; exact drop_of_ge r k (by simp only [len] at h; omega)
theorem len_drop : ∀ (x : Sur) (k : Nat), (x.drop k).len = x.len - k
  | x, 0 => by simp [drop]
  | nil, k + 1 => by simp [drop, len]
  | cons e n d r, k + 1 => by simp only [drop, len, len_drop r k]; omega
theorem drop_zero (x : Sur) : x.drop 0 = x := rfl
theorem drop_drop : ∀ (x : Sur) (i k : Nat), (x.drop i).drop k = x.drop (i + k)
  | x, 0, k => by simp [drop]
  | nil, i + 1, 0 => rfl
  | nil, i + 1, k + 1 => by rw [show i + 1 + (k + 1) = (i + 1 + k) + 1 from by omega]; rfl
  | cons e n d r, i + 1, k => by rw [show i + 1 + k = (i + k) + 1 from by omega]; simp only [drop]; exact drop_drop r i k
def take : Nat → Sur → Sur
  | 0, _ => nil
  | _ + 1, nil => nil
  | k + 1, cons e n d r => cons e n d (r.take k)
theorem take_app_drop : ∀ (x : Sur) (k : Nat), (x.take k).app (x.drop k) = x
  | x, 0 => by simp [take, app, drop]
  | nil, k + 1 => rfl
  | cons e n d r, k + 1 => by simp only [take, app, drop, take_app_drop r k]
theorem take_len : ∀ (x : Sur), x.take x.len = x
  | nil => rfl
  | cons e n d r => by simp only [len, take, take_len r]
theorem take_of_ge : ∀ (x : Sur) (k : Nat), x.len ≤ k → x.take k = x
  | nil, 0, _ => rfl
  | nil, k + 1, _ => rfl
  | cons e n d r, 0, h => by simp [len] at h
  | cons e n d r, k + 1, h => by simp only [take]; rw [take_of_ge r k (by simp only [len] at h; omega)]
theorem take_succ : ∀ (x : Sur) (k : Nat) (e : Sur) (n d : Int) (r : Sur), x.drop k = cons e n d r → x.take (k + 1) = (x.take k).app (cons e n d nil)
  | nil, 0, _, _, _, _, h => by cases h
  | nil, k + 1, _, _, _, _, h => by cases h
  | cons e n d r, 0, e', n', d', r', h => by simp only [drop] at h; cases h; simp [take, app]
  | cons e n d r, k + 1, e', n', d', r', h => by simp only [drop] at h; simp only [take, app]; rw [take_succ r k e' n' d' r' h]
theorem len_take : ∀ (x : Sur) (k : Nat), k ≤ x.len → (x.take k).len = k
  | x, 0, _ => by simp [take, len]
  | nil, k + 1, h => by simp [len] at h
  | cons e n d r, k + 1, h => by simp only [take, len]; rw [len_take r k (by simp only [len] at h; omega)]
/-- nodes, as IsSurreal counts them -/
def nodes : Sur → Nat
  | nil => 1
  | cons e _ _ r => 1 + e.nodes + r.nodes
theorem len_lt_nodes : ∀ (x : Sur), x.len < x.nodes
  | nil => by simp [len, nodes]
  | cons e n d r => by have := len_lt_nodes r; have := len_lt_nodes e; simp only [len, nodes]; omega
/-- each number of each fraction satisfies p -/
def All (p : Int → Int → Prop) : Sur → Prop
  | nil => True
  | cons e n d r => e.All p ∧ p n d ∧ r.All p
theorem All.mono {p q : Int → Int → Prop} (h : ∀ n d, p n d → q n d) : ∀ (x : Sur), x.All p → x.All q
  | nil, _ => trivial
  | cons e n d r, hx => ⟨All.mono h e hx.1, h _ _ hx.2.1, All.mono h r hx.2.2⟩
theorem All.app {p : Int → Int → Prop} : ∀ {x y : Sur}, x.All p → y.All p → (x.app y).All p
  | nil, _, _, hy => hy
  | cons e n d r, y, hx, hy => ⟨hx.1, hx.2.1, All.app hx.2.2 hy⟩
theorem All.drop {p : Int → Int → Prop} : ∀ {x : Sur} (k : Nat), x.All p → (x.drop k).All p
  | x, 0, h => h
  | nil, k + 1, _ => trivial
  | cons e n d r, k + 1, h => All.drop (x := r) k h.2.2
end Sur

/-- memory holds the terms from a place on; no block of them is one of X -/
def STerms (X : Nat → Prop) (w : World) : Sur → Nat → Nat → Prop
  | .nil, _, _ => True
  | .cons e n d r, b, o => ¬ X b ∧
      (∃ A c, w.cell? ⟨b, o, none⟩ = some (.slice A e.len c) ∧ e.len ≤ c ∧ c ≤ maxLen ∧
        (match A with | none => e.len = 0 | some a => a = ⟨a.block, a.off, none⟩ ∧ STerms X w e a.block a.off)) ∧
      w.cell? ⟨b, o + 1, none⟩ = some (.int .i64 n) ∧ w.cell? ⟨b, o + 2, none⟩ = some (.int .i64 d) ∧ I64 n ∧ I64 d ∧
      STerms X w r b (o + 3)

/-- a slice value at A with spare room up to c holds the terms -/
def SSl (X : Nat → Prop) (w : World) (e : Sur) (A : Option Addr) (c : Nat) : Prop :=
  e.len ≤ c ∧ c ≤ maxLen ∧ (match A with | none => e.len = 0 | some a => a = ⟨a.block, a.off, none⟩ ∧ STerms X w e a.block a.off)

theorem SSl.le {X : Nat → Prop} {w : World} {e : Sur} {A : Option Addr} {c : Nat} (h : SSl X w e A c) : e.len ≤ c := h.1
theorem SSl.cap {X : Nat → Prop} {w : World} {e : Sur} {A : Option Addr} {c : Nat} (h : SSl X w e A c) : c ≤ maxLen := h.2.1
theorem SSl.nil (X : Nat → Prop) (w : World) : SSl X w .nil none 0 := ⟨by simp [Sur.len], by simp [maxLen], rfl⟩

/-- two worlds hold the same in all blocks of the first that are not X -/
theorem STerms.keep {X Y : Nat → Prop} {w w' : World} : ∀ {e : Sur} {b o : Nat}, STerms X w e b o →
    (∀ k, ¬ X k → k < w.heap.size → ¬ Y k ∧ w'.heap[k]? = w.heap[k]?) → STerms Y w' e b o
  | .nil, _, _, _, _ => trivial
  | .cons e n d r, b, o, h, hk => by
    obtain ⟨hx, ⟨A, c, hc, h1, h2, hA⟩, hn, hd, in_, id_, hr⟩ := h
    have hlt := World.block_lt_of_cell? w _ hc
    obtain ⟨hy, hb⟩ := hk b hx hlt
    refine ⟨hy, ⟨A, c, (World.cell?_of_block hb).trans hc, h1, h2, ?_⟩, (World.cell?_of_block hb).trans hn, (World.cell?_of_block hb).trans hd, in_, id_, STerms.keep hr hk⟩
    cases A with
    | none => exact hA
    | some a => exact ⟨hA.1, STerms.keep hA.2 hk⟩

theorem SSl.keep {X Y : Nat → Prop} {w w' : World} {e : Sur} {A : Option Addr} {c : Nat} (h : SSl X w e A c)
    (hk : ∀ k, ¬ X k → k < w.heap.size → ¬ Y k ∧ w'.heap[k]? = w.heap[k]?) : SSl Y w' e A c := by
  refine ⟨h.1, h.2.1, ?_⟩
  have h3 := h.2.2
  cases A with
  | none => exact h3
  | some a => exact ⟨h3.1, STerms.keep h3.2 hk⟩

theorem SSl.below {X : Nat → Prop} {w w' : World} {e : Sur} {A : Option Addr} {c : Nat} (h : SSl X w e A c) (hb : Below w.heap.size w w') : SSl X w' e A c :=
  h.keep fun k hx hk => ⟨hx, hb.block k hk⟩
/-- the blocks of X may be written -/
theorem SSl.far {X : Nat → Prop} {w : World} {e : Sur} {A : Option Addr} {c : Nat} (h : SSl X w e A c) {p : Addr} (hp : X p.block) (u : Value) : SSl X (w.setCell p u) e A c :=
  h.keep fun k hx _ => ⟨hx, Below.heap_setCell _ _ _ _ (fun e => hx (e ▸ hp))⟩
/-- X may be any set of blocks that lie in X already or are not there yet -/
theorem SSl.more {X Y : Nat → Prop} {w : World} {e : Sur} {A : Option Addr} {c : Nat} (h : SSl X w e A c) (hY : ∀ k, Y k → k < w.heap.size → X k) : SSl Y w e A c :=
  h.keep fun k hx hk => ⟨fun hy => hx (hY k hy hk), rfl⟩

/-- what stands at place k -/
theorem STerms.drop {X : Nat → Prop} {w : World} : ∀ {e : Sur} {b o : Nat} (k : Nat), STerms X w e b o → STerms X w (e.drop k) b (o + k * 3)
  | e, b, o, 0, h => by simpa [Sur.drop] using h
  | .nil, b, o, k + 1, _ => trivial
  | .cons e n d r, b, o, k + 1, h => by
    have := STerms.drop k h.2.2.2.2.2.2
    simp only [Sur.drop]
    rw [show o + (k + 1) * 3 = o + 3 + k * 3 from by omega]
    exact this

/-- the slice has an address where it has an element, and the cells of the element k are these -/
theorem SSl.at_ {X : Nat → Prop} {w : World} {x : Sur} {A : Option Addr} {c : Nat} (h : SSl X w x A c) {k : Nat} (hk : k < x.len) :
    ∃ b o e n d A' c', A = some ⟨b, o, none⟩ ∧ x.drop k = .cons e n d (x.drop (k + 1)) ∧ w.cell? ⟨b, o + k * 3, none⟩ = some (.slice A' e.len c') ∧ w.cell? ⟨b, o + k * 3 + 1, none⟩ = some (.int .i64 n) ∧
      w.cell? ⟨b, o + k * 3 + 2, none⟩ = some (.int .i64 d) ∧ SSl X w e A' c' ∧ I64 n ∧ I64 d ∧ ¬ X b ∧ b < w.heap.size := by
  obtain ⟨h1, h2, h3⟩ := h
  cases A with
  | none => simp only at h3; omega
  | some a =>
    obtain ⟨ha, ht⟩ := h3
    have hd := STerms.drop k ht
    obtain ⟨e, n, d, hx⟩ := Sur.drop_of_lt x k hk
    rw [hx] at hd
    obtain ⟨hX, ⟨A', c', hc, l1, l2, hA⟩, hn, hdn, in_, id_, hr⟩ := hd
    refine ⟨a.block, a.off, e, n, d, A', c', by rw [← ha], hx, hc, hn, hdn, ⟨l1, l2, hA⟩, in_, id_, hX, World.block_lt_of_cell? w ⟨a.block, _, none⟩ hc⟩

/-- the cells of a row read as terms -/
def TRow (X : Nat → Prop) (w : World) : Sur → List Value → Prop
  | .nil, xs => xs = []
  | .cons e n d r, xs => ∃ A c ys, xs = .slice A e.len c :: .int .i64 n :: .int .i64 d :: ys ∧ SSl X w e A c ∧ I64 n ∧ I64 d ∧ TRow X w r ys

theorem TRow.len {X : Nat → Prop} {w : World} : ∀ {e : Sur} {xs : List Value}, TRow X w e xs → xs.length = e.len * 3
  | .nil, _, h => by simp [TRow] at h; simp [h, Sur.len]
  | .cons e n d r, _, ⟨A, c, ys, hxs, _, _, _, hr⟩ => by
    have := TRow.len hr
    subst hxs
    simp only [List.length_cons, Sur.len]; omega

theorem TRow.keep {X Y : Nat → Prop} {w w' : World} : ∀ {e : Sur} {xs : List Value}, TRow X w e xs →
    (∀ k, ¬ X k → k < w.heap.size → ¬ Y k ∧ w'.heap[k]? = w.heap[k]?) → TRow Y w' e xs
  | .nil, _, h, _ => h
  | .cons _ _ _ _, _, ⟨A, c, ys, hxs, hs, a, b, hr⟩, hk => ⟨A, c, ys, hxs, hs.keep hk, a, b, TRow.keep hr hk⟩

theorem TRow.below {X : Nat → Prop} {w w' : World} {e : Sur} {xs : List Value} (h : TRow X w e xs) (hb : Below w.heap.size w w') : TRow X w' e xs :=
  h.keep fun k hx hk => ⟨hx, hb.block k hk⟩

theorem TRow.snoc {X : Nat → Prop} {w : World} {e : Sur} {n d : Int} {A : Option Addr} {c : Nat} (hs : SSl X w e A c) (hn : I64 n) (hd : I64 d) :
    ∀ {x : Sur} {xs : List Value}, TRow X w x xs → TRow X w (x.app (.cons e n d .nil)) (xs ++ [.slice A e.len c, .int .i64 n, .int .i64 d])
  | .nil, _, h => by
    simp only [TRow] at h; subst h
    exact ⟨A, c, [], rfl, hs, hn, hd, rfl⟩
  | .cons _ _ _ _, _, ⟨A', c', ys, hxs, hs', a, b, hr⟩ => by
    subst hxs
    exact ⟨A', c', _, rfl, hs', a, b, TRow.snoc hs hn hd hr⟩

theorem TRow.app {X : Nat → Prop} {w : World} {y : Sur} {zs : List Value} (hy : TRow X w y zs) :
    ∀ {x : Sur} {xs : List Value}, TRow X w x xs → TRow X w (x.app y) (xs ++ zs)
  | .nil, _, h => by
    simp only [TRow] at h; subst h
    exact hy
  | .cons _ _ _ _, _, ⟨A', c', ys, hxs, hs', a, b, hr⟩ => by
    subst hxs
    exact ⟨A', c', _, rfl, hs', a, b, TRow.app hy hr⟩

/-- a row in memory that reads as terms -/
theorem STerms.of_row {X : Nat → Prop} {w : World} {b : Nat} (hX : ¬ X b) : ∀ {e : Sur} {xs : List Value} {o : Nat}, TRow X w e xs →
    (∀ j u, xs[j]? = some u → w.cell? ⟨b, o + j, none⟩ = some u) → STerms X w e b o
  | .nil, _, _, _, _ => trivial
  | .cons e n d r, _, o, ⟨A, c, ys, hxs, hs, in_, id_, hr⟩, hc => by
    subst hxs
    refine ⟨hX, ⟨A, c, by simpa using hc 0 _ rfl, hs.1, hs.2.1, hs.2.2⟩, hc 1 _ rfl, hc 2 _ rfl, in_, id_, STerms.of_row hX hr fun j u hj => ?_⟩
    have := hc (j + 3) u (by simpa using hj)
    rw [show o + 3 + j = o + (j + 3) from by omega]
    exact this

/-- what an owned row of terms is worth as a slice -/
theorem SSl.of_own {X : Nat → Prop} {w : World} {base E n : Nat} {A : Option Addr} {c : Nat} {x : Sur} {xs : List Value}
    (h : w.ownsRow base E 3 (.slice A n c) n xs) (ht : TRow X w x xs) (hX : ∀ k, Value.ownBlock (.slice A n c) = some k → ¬ X k) : n = x.len ∧ SSl X w x A c := by
  have hl := ht.len
  have hl' := h.1
  have hn : n = x.len := by omega
  refine ⟨hn, ?_⟩
  rcases h.2 with ⟨hv, h0⟩ | ⟨g, cap, cur, hv, hb, hg, hle, hcm, hsz, htk⟩
  · injection hv with hA _ hc
    subst hA hc
    exact ⟨by omega, by simp [maxLen], by simp only; omega⟩
  · have hcells := h.cells (g := g) (by rw [hv]; rfl)
    injection hv with hA _ hc
    subst hA hc
    refine ⟨by omega, hcm, rfl, STerms.of_row (hX g rfl) ht fun j u hj => ?_⟩
    have := hcells j u hj
    rw [show (⟨g, 0, none⟩ : Addr).add j = ⟨g, j, none⟩ from by unfold Addr.add; split <;> simp_all] at this
    simpa using this

end Go.Proofs.YtonlfnbjbmgegaaGreat

namespace Go.Proofs.YtonlfnbjbmgegaaGreat
open Go.RowKit
set_option linter.unusedSimpArgs false
set_option linter.unusedVariables false

def cmpF (n d n' d' : Int) : Int := cmpI (n * d') (n' * d)

/-- the order of two numbers -/
def order : Sur → Sur → Int
  | .nil, .nil => 0
  | .nil, .cons _ n _ _ => -cmpI n 0
  | .cons _ n _ _, .nil => cmpI n 0
  | .cons e n d r, .cons e' n' d' r' => if order e e' = 1 then cmpI n 0 else if order e e' = -1 then -cmpI n' 0 else if cmpF n d n' d' ≠ 0 then cmpF n d n' d' else order r r'

theorem cmpI_range (a b : Int) : cmpI a b = -1 ∨ cmpI a b = 0 ∨ cmpI a b = 1 := by
  unfold cmpI
  repeat' split
  all_goals omega

theorem order_range : ∀ (x y : Sur), order x y = -1 ∨ order x y = 0 ∨ order x y = 1
  | .nil, .nil => by simp [order]
  | .nil, .cons _ n _ _ => by have := cmpI_range n 0; simp only [order]; omega
  | .cons _ n _ _, .nil => by have := cmpI_range n 0; simp only [order]; omega
  | .cons e n d r, .cons e' n' d' r' => by
    have h1 := cmpI_range n 0
    have h2 := cmpI_range n' 0
    have h3 := cmpI_range (n * d') (n' * d)
    have h4 := order_range r r'
    simp only [order]
    split
    · exact h1
    · split
      · omega
      · split
        · exact h3
        · exact h4

theorem cmpI_bd (a b : Int) : -1 ≤ cmpI a b ∧ cmpI a b ≤ 1 := by have := cmpI_range a b; omega
theorem order_bd (x y : Sur) : -1 ≤ order x y ∧ order x y ≤ 1 := by have := order_range x y; omega

theorem order_cons {x y : Sur} {k : Nat} {e e' r r' : Sur} {n d n' d' : Int} (hx : x.drop k = .cons e n d r) (hy : y.drop k = .cons e' n' d' r') (ho : order x y = order (x.drop k) (y.drop k)) :
    (order e e' = 1 → order x y = cmpI n 0) ∧ (order e e' = -1 → order x y = -cmpI n' 0) ∧ (order e e' = 0 → cmpF n d n' d' ≠ 0 → order x y = cmpF n d n' d') ∧
      (order e e' = 0 → cmpF n d n' d' = 0 → order x y = order r r') := by
  rw [ho, hx, hy]
  simp only [order]
  refine ⟨fun h => by simp [h], fun h => by simp [h], fun h h2 => by simp [h, h2], fun h h2 => by simp [h, h2]⟩

theorem Sur.nodes_drop {x : Sur} : ∀ {k : Nat} {e : Sur} {n d : Int} {r : Sur}, x.drop k = .cons e n d r → e.nodes + r.nodes + 1 ≤ x.nodes := by
  induction x with
  | nil => intro k e n d r h; cases k <;> simp [drop] at h
  | cons e0 n0 d0 r0 _ ih =>
    intro k e n d r h
    cases k with
    | zero => simp only [drop] at h; cases h; simp only [nodes]; omega
    | succ k => simp only [drop] at h; have := ih h; simp only [nodes]; omega
theorem Sur.all_drop {p : Int → Int → Prop} {x : Sur} (hx : x.All p) {k : Nat} {e : Sur} {n d : Int} {r : Sur} (h : x.drop k = .cons e n d r) : e.All p ∧ p n d ∧ r.All p := by
  have := hx.drop k
  rw [h] at this
  exact this

end Go.Proofs.YtonlfnbjbmgegaaGreat

namespace Go.Proofs.YtonlfnbjbmgegaaGreat
open Go.RowKit
set_option linter.unusedSimpArgs false
set_option linter.unusedVariables false

set_option maxHeartbeats 400000 in
theorem in_any (a lo hi : Int) (w : World) :
    Calls Tryz.prog 30 #[.int .i64 a, .int .i64 lo, .int .i64 hi] w fun e w' => e = .returned (.bool (inB a lo hi)) ∧ w = w' := by
  by_cases h1 : lo ≤ a
  · by_cases h2 : a ≤ hi
    · have h : inB a lo hi = true := inB_true.2 ⟨h1, h2⟩
      have H := Lib.hid h; clear h
      go_enter Tryz.func30, Tryz.ntmps30
      go_wp2
      go_ret
      exact ⟨by rw [H.out]; rfl, rfl⟩
    · have h : inB a lo hi = false := inB_false.2 (by omega)
      have H := Lib.hid h; clear h
      go_enter Tryz.func30, Tryz.ntmps30
      go_wp2
      go_ret
      exact ⟨by rw [H.out]; rfl, rfl⟩
  · have h : inB a lo hi = false := inB_false.2 (by omega)
    have H := Lib.hid h; clear h
    go_enter Tryz.func30, Tryz.ntmps30
    go_wp2
    go_ret
    exact ⟨by rw [H.out]; rfl, rfl⟩

set_option maxHeartbeats 400000 in
theorem size_any (a : Int) (h1 : -9223372036854775808 < a) (h2 : a ≤ 9223372036854775807) (w : World) :
    Calls Tryz.prog 125 #[.int .i64 a] w fun e w' => e = .returned (.int .i64 (a.natAbs : Int)) ∧ w = w' := by
  by_cases h : a < -a
  · have hn : (a.natAbs : Int) = -a := by omega
    have H := Lib.hid hn; clear hn
    go_enter Tryz.func125, Tryz.ntmps125
    go_wp2
    go_ret
    exact ⟨by rw [H.out]; rfl, rfl⟩
  · have hn : (a.natAbs : Int) = a := by omega
    have H := Lib.hid hn; clear hn
    go_enter Tryz.func125, Tryz.ntmps125
    go_wp2
    go_ret
    exact ⟨by rw [H.out]; rfl, rfl⟩

theorem gcd_step (x y : Int) : Int.gcd y (x.tmod y) = Int.gcd x y := by
  unfold Int.gcd; rw [Int.natAbs_tmod, Nat.gcd_comm y.natAbs, ← Nat.gcd_rec, Nat.gcd_comm]

theorem tmod_lt (x y : Int) (h : y ≠ 0) : (x.tmod y).natAbs < y.natAbs := by
  rw [Int.natAbs_tmod]; exact Nat.mod_lt _ (by omega)


set_option maxHeartbeats 400000 in
theorem gcd_any (a b : Int) (ha : -9223372036854775808 < a) (ha' : a ≤ 9223372036854775807) (hb : -9223372036854775808 < b) (hb' : b ≤ 9223372036854775807) (w : World) :
    Calls Tryz.prog 143 #[.int .i64 a, .int .i64 b] w fun e w' => e = .returned (.int .i64 (Int.gcd a b : Int)) ∧ Below w.heap.size w w' := by
  go_enter Tryz.func143, Tryz.ntmps143
  go_wp2
  go_loopw [0, 1] (fun s0 s1 wr => ∃ x y : Int, s0 = .int .i64 x ∧ s1 = .int .i64 y ∧ Hid (Int.gcd x y = Int.gcd a b) ∧ -9223372036854775808 < x ∧ x ≤ 9223372036854775807 ∧ -9223372036854775808 < y ∧ y ≤ 9223372036854775807 ∧ Below w.heap.size w wr) (fun _ s1 _ => (intOf s1).natAbs)
  case atStart => exact ⟨a, b, rfl, rfl, rfl, by omega, by omega, by omega, by omega, Below.refl _ _⟩
  case round =>
    obtain ⟨x, y, rfl, rfl, hg, hx1, hx2, hy1, hy2, hb⟩ := hrel
    by_cases h0 : y = 0
    · subst h0
      have hg' : Hid ((x.natAbs : Int) = (Int.gcd a b : Int)) := by have := hg.out; simp only [Int.gcd_zero_right] at this; exact congrArg Int.ofNat this
      clear hg
      go_wp2_with (go_at_call 125; refine (size_any _ (by omega) (by omega) _).mono ?_; rintro e w' ⟨rfl, rfl⟩)
      go_ret
      exact ⟨by rw [← hg'.out]; rfl, hb⟩
    · have ht := tmod_lt x y h0
      have h00 : (y == 0) = false := by simpa using h0
      have hs : Hid (Int.gcd y (x.tmod y) = Int.gcd a b) := (gcd_step x y).trans hg.out
      clear hg
      have hw : IntKind.i64.wrap (x.tmod y) = x.tmod y := IntWalk.i64_in _ (by omega)
      go_wp2
      go_quiet (fail)
      go_wp2
      exact ⟨⟨y, _, rfl, rfl, hs, by omega, by omega, by omega, by omega, Below.drewN hb nq⟩, by simpa [intOf] using ht⟩


theorem fracOk_iff {n d : Int} : fracOk n d = true ↔ 1 ≤ d ∧ d ≤ 1000000 ∧ -1000000 ≤ n ∧ n ≤ 1000000 ∧ Int.gcd n d = 1 := by
  simp only [fracOk, Bool.and_eq_true, inB_true, decide_eq_true_eq]; omega

set_option maxHeartbeats 400000 in
theorem IsFraction_any (n d : Int) (w : World) :
    Calls Tryz.prog 122 #[.agg #[.int .i64 n, .int .i64 d]] w fun e w' => e = .returned (.bool (fracOk n d)) ∧ Below w.heap.size w w' := by
  cases h1 : inB d 1 1000000
  · have h : fracOk n d = false := by simp [fracOk, h1]
    have H := Lib.hid h; clear h
    go_enter Tryz.func122, Tryz.ntmps122
    go_wp2_with (go_at_call 30; refine (in_any _ _ _ _).mono ?_; rintro e w' ⟨rfl, rfl⟩)
    go_ret
    exact ⟨by rw [H.out]; rfl, (Below.refl _ _).alloc (Nat.le_refl _) _⟩
  · cases h2 : inB n (-1000000) 1000000
    · have h : fracOk n d = false := by simp [fracOk, h1, h2]
      have H := Lib.hid h; clear h
      go_enter Tryz.func122, Tryz.ntmps122
      go_wp2_with (go_at_call 30; refine (in_any _ _ _ _).mono ?_; rintro e w' ⟨rfl, rfl⟩)
      go_ret
      exact ⟨by rw [H.out]; rfl, (Below.refl _ _).alloc (Nat.le_refl _) _⟩
    · have b1 := inB_true.1 h1
      have b2 := inB_true.1 h2
      have h : fracOk n d = ((Int.gcd n d : Int) == 1) := by simp [fracOk, h1, h2]; rfl
      have H := Lib.hid h; clear h
      go_enter Tryz.func122, Tryz.ntmps122
      go_wp2_with (first | (go_at_call 30; refine (in_any _ _ _ _).mono ?_; rintro e w' ⟨rfl, rfl⟩) | (go_at_call 143; refine (gcd_any _ _ (by omega) (by omega) (by omega) (by omega) _).mono ?_; rintro e w' ⟨rfl, hb⟩))
      go_ret
      exact ⟨by rw [H.out]; rfl, Below.call ((Below.refl _ _).alloc (Nat.le_refl _) _) (by simp) hb⟩

set_option maxHeartbeats 400000 in
theorem compare_any (a b : Int) (w : World) :
    Calls Tryz.prog 100 #[.int .i64 a, .int .i64 b] w fun e w' => e = .returned (.int .i64 (cmpI a b)) ∧ w = w' := by
  by_cases h1 : a < b
  · have h : cmpI a b = -1 := by simp [cmpI, h1]
    have H := Lib.hid h; clear h
    go_enter Tryz.func100, Tryz.ntmps100
    go_wp2
    go_ret
    exact ⟨by rw [H.out]; rfl, rfl⟩
  · by_cases h2 : b < a
    · have h : cmpI a b = 1 := by simp [cmpI, h1, h2]
      have H := Lib.hid h; clear h
      go_enter Tryz.func100, Tryz.ntmps100
      go_wp2
      go_ret
      exact ⟨by rw [H.out]; rfl, rfl⟩
    · have h : cmpI a b = 0 := by simp [cmpI, h1, h2]
      have H := Lib.hid h; clear h
      go_enter Tryz.func100, Tryz.ntmps100
      go_wp2
      go_ret
      exact ⟨by rw [H.out]; rfl, rfl⟩

/-- numbers whose products fit -/
def Bd (n d : Int) : Prop := -2147483648 ≤ n ∧ n ≤ 2147483648 ∧ -2147483648 ≤ d ∧ d ≤ 2147483648

theorem mul_bd {a b : Int} (ha : -2147483648 ≤ a ∧ a ≤ 2147483648) (hb : -2147483648 ≤ b ∧ b ≤ 2147483648) : -4611686018427387904 ≤ a * b ∧ a * b ≤ 4611686018427387904 := by
  have h1 : a.natAbs * b.natAbs ≤ 2147483648 * 2147483648 := Nat.mul_le_mul (by omega) (by omega)
  have h2 : (a * b).natAbs = a.natAbs * b.natAbs := Int.natAbs_mul a b
  omega



set_option maxHeartbeats 400000 in
theorem cmpFractions_any (n d n' d' : Int) (h : Bd n d) (h' : Bd n' d') (w : World) :
    Calls Tryz.prog 101 #[.agg #[.int .i64 n, .int .i64 d], .agg #[.int .i64 n', .int .i64 d']] w fun e w' => e = .returned (.int .i64 (cmpF n d n' d')) ∧ Below w.heap.size w w' := by
  have m1 := mul_bd (a := n) (b := d') ⟨h.1, h.2.1⟩ ⟨h'.2.2.1, h'.2.2.2⟩
  have m2 := mul_bd (a := n') (b := d) ⟨h'.1, h'.2.1⟩ ⟨h.2.2.1, h.2.2.2⟩
  have hw1 : IntKind.i64.wrap (n * d') = n * d' := IntWalk.i64_in _ (by omega)
  have hw2 : IntKind.i64.wrap (n' * d) = n' * d := IntWalk.i64_in _ (by omega)
  go_enter Tryz.func101, Tryz.ntmps101
  go_wp2_with (go_at_call 100; refine (compare_any _ _ _).mono ?_; rintro e w' ⟨rfl, rfl⟩)
  go_ret
  exact ⟨rfl, by go_grown⟩

end Go.Proofs.YtonlfnbjbmgegaaGreat

namespace Go.Proofs.YtonlfnbjbmgegaaGreat
open Go.RowKit
set_option linter.unusedSimpArgs false
set_option linter.unusedVariables false

def prevOk (prev : Option Sur) (e : Sur) : Bool := match prev with | none => true | some p => decide (0 < order p e)

/-- the terms are right, at a depth, behind an exponent -/
def formT (deep : Int) (prev : Option Sur) : Sur → Bool
  | .nil => true
  | .cons e n d r => fracOk n d && (decide (n ≠ 0) && (decide (deep + 1 ≤ 6) && (formT (deep + 1) none e && (prevOk prev e && formT deep (some e) r))))

/-- a number is right, at a depth, if so many nodes were met -/
def sOk (deep cnt : Int) (x : Sur) : Bool := decide (deep ≤ 6) && (decide (cnt + x.nodes ≤ 60) && formT deep none x)
/-- the terms that are left are right -/
def sRest (deep cnt : Int) (prev : Option Sur) (x : Sur) : Bool := decide (cnt + x.nodes ≤ 61) && formT deep prev x

theorem Sur.nodes_pos (x : Sur) : 1 ≤ x.nodes := by cases x <;> simp [nodes]; omega

theorem sOk_rest (deep cnt : Int) (x : Sur) : sOk deep cnt x = (decide (deep ≤ 6) && sRest deep (cnt + 1) none x) := by
  unfold sOk sRest
  rw [show decide (cnt + (x.nodes : Int) ≤ 60) = decide (cnt + 1 + (x.nodes : Int) ≤ 61) from by rw [decide_eq_decide]; omega]

theorem sRest_nil (deep cnt : Int) (prev : Option Sur) : sRest deep cnt prev .nil = decide (cnt ≤ 60) := by
  have h : ((Sur.nil).nodes : Int) = 1 := rfl
  simp only [sRest, formT, h, Bool.and_true]; rw [decide_eq_decide]; omega

theorem sRest_cons (deep cnt : Int) (prev : Option Sur) (e : Sur) (n d : Int) (r : Sur) :
    sRest deep cnt prev (.cons e n d r) = (decide (cnt + 1 ≤ 60) && (fracOk n d && (decide (n ≠ 0) && (sOk (deep + 1) (cnt + 1) e && (prevOk prev e && sRest deep (cnt + 1 + e.nodes) (some e) r))))) := by
  have h1 := e.nodes_pos
  have h2 := r.nodes_pos
  have hn : ((Sur.cons e n d r).nodes : Int) = 1 + (e.nodes : Int) + (r.nodes : Int) := by simp only [Sur.nodes]; omega
  rw [Bool.eq_iff_iff]
  simp only [sRest, sOk, formT, hn, Bool.and_eq_true, decide_eq_true_eq]
  constructor
  · rintro ⟨a, b, c, f, g, i, j⟩
    exact ⟨by omega, b, c, ⟨f, by omega, g⟩, i, by omega, j⟩
  · rintro ⟨a, b, c, ⟨f, g, g'⟩, i, j, j'⟩
    exact ⟨by omega, b, c, f, g', i, j'⟩

theorem sOk_nodes {deep cnt : Int} {x : Sur} (h : sOk deep cnt x = true) : cnt + x.nodes ≤ 60 := by
  simp only [sOk, Bool.and_eq_true, decide_eq_true_eq] at h
  exact h.2.1
theorem Sur.nodes_app : ∀ (x y : Sur), (x.app y).nodes + 1 = x.nodes + y.nodes
  | .nil, y => by simp only [Sur.app, Sur.nodes]; omega
  | .cons e n d r, y => by have := Sur.nodes_app r y; simp only [Sur.app, Sur.nodes]; omega

def FOk (n d : Int) : Prop := fracOk n d = true
theorem FOk.bd {n d : Int} (h : FOk n d) : Bd n d := by
  have := fracOk_iff.1 h
  unfold Bd; omega

theorem formT_all : ∀ {x : Sur} {deep : Int} {prev : Option Sur}, formT deep prev x = true → x.All FOk
  | .nil, _, _, _ => trivial
  | .cons e n d r, deep, prev, h => by
    simp only [formT, Bool.and_eq_true] at h
    exact ⟨formT_all h.2.2.2.1, h.1, formT_all h.2.2.2.2.2⟩
theorem sOk_all {x : Sur} {deep cnt : Int} (h : sOk deep cnt x = true) : x.All FOk := by
  simp only [sOk, Bool.and_eq_true] at h
  exact formT_all h.2.2
theorem All.bd {x : Sur} (h : x.All FOk) : x.All Bd := Sur.All.mono (fun _ _ h => h.bd) x h

/-- the exponent before place k, right in its numbers -/
def PrevAt (x : Sur) (k : Nat) (prev : Option Sur) : Prop :=
  (k = 0 ∧ prev = none) ∨ ∃ k' e n d, k = k' + 1 ∧ x.drop k' = .cons e n d (x.drop k) ∧ prev = some e ∧ e.All Bd

end Go.Proofs.YtonlfnbjbmgegaaGreat

namespace Go.Proofs.YtonlfnbjbmgegaaGreat
open Go.RowKit
set_option linter.unusedSimpArgs false
set_option linter.unusedVariables false

/-- terms from a place on, with the blocks of all that hangs below them -/
def STr (w : World) : Sur → Nat → Nat → List Nat → Prop
  | .nil, _, _, bs => bs = []
  | .cons e n d r, b, o, bs => ∃ b1 b2, bs = b1 ++ b2 ∧
      (∃ A c, w.cell? ⟨b, o, none⟩ = some (.slice A e.len c) ∧ e.len ≤ c ∧ c ≤ maxLen ∧
        (match A with | none => e.len = 0 ∧ b1 = [] | some a => a = ⟨a.block, a.off, none⟩ ∧ a.block < w.heap.size ∧ ∃ b3, b1 = a.block :: b3 ∧ STr w e a.block a.off b3)) ∧
      w.cell? ⟨b, o + 1, none⟩ = some (.int .i64 n) ∧ w.cell? ⟨b, o + 2, none⟩ = some (.int .i64 d) ∧ I64 n ∧ I64 d ∧
      w.frozen? ⟨b, o + 1, none⟩ = false ∧ w.frozen? ⟨b, o + 2, none⟩ = false ∧ STr w r b (o + 3) b2

def STree (w : World) (e : Sur) (A : Option Addr) (c : Nat) (bs : List Nat) : Prop :=
  e.len ≤ c ∧ c ≤ maxLen ∧ (match A with | none => e.len = 0 ∧ bs = [] | some a => a = ⟨a.block, a.off, none⟩ ∧ a.block < w.heap.size ∧ ∃ b3, bs = a.block :: b3 ∧ STr w e a.block a.off b3)

theorem STree.nil (w : World) : STree w .nil none 0 [] := ⟨by simp [Sur.len], by simp [maxLen], rfl, rfl⟩

/-- each block of a tree is there -/
theorem STr.lt {w : World} : ∀ {e : Sur} {b o : Nat} {bs : List Nat}, STr w e b o bs → ∀ k ∈ bs, k < w.heap.size
  | .nil, _, _, _, h => by simp only [STr] at h; subst h; simp
  | .cons e n d r, b, o, bs, h => by
    obtain ⟨b1, b2, rfl, ⟨A, c, _, _, _, hA⟩, _, _, _, _, _, _, hr⟩ := h
    intro k hk
    rcases List.mem_append.1 hk with hk | hk
    · cases A with
      | none => simp only at hA; rw [hA.2] at hk; simp at hk
      | some a =>
        obtain ⟨_, hlt, b3, rfl, h3⟩ := hA
        rcases List.mem_cons.1 hk with hk | hk
        · omega
        · exact STr.lt h3 k hk
    · exact STr.lt hr k hk
theorem STree.lt {w : World} {e : Sur} {A : Option Addr} {c : Nat} {bs : List Nat} (h : STree w e A c bs) : ∀ k ∈ bs, k < w.heap.size := by
  obtain ⟨_, _, hA⟩ := h
  intro k hk
  cases A with
  | none => simp only at hA; rw [hA.2] at hk; simp at hk
  | some a =>
    obtain ⟨_, hlt, b3, rfl, h3⟩ := hA
    rcases List.mem_cons.1 hk with hk | hk
    · omega
    · exact STr.lt h3 k hk

theorem STr.keep {w w' : World} (hs : w.heap.size ≤ w'.heap.size) : ∀ {e : Sur} {b o : Nat} {bs : List Nat}, STr w e b o bs → (e ≠ .nil → w'.heap[b]? = w.heap[b]?) → (∀ k ∈ bs, w'.heap[k]? = w.heap[k]?) → STr w' e b o bs
  | .nil, _, _, _, h, _, _ => h
  | .cons e n d r, b, o, bs, h, hb, hk => by
    obtain ⟨b1, b2, rfl, ⟨A, c, hc, l1, l2, hA⟩, hn, hd, in_, id_, f1, f2, hr⟩ := h
    have hb := hb (by simp)
    refine ⟨b1, b2, rfl, ⟨A, c, (World.cell?_of_block hb).trans hc, l1, l2, ?_⟩, (World.cell?_of_block hb).trans hn, (World.cell?_of_block hb).trans hd, in_, id_, (World.frozen?_of_block hb).trans f1, (World.frozen?_of_block hb).trans f2,
      STr.keep hs hr (fun _ => hb) fun k hm => hk k (List.mem_append.2 (.inr hm))⟩
    cases A with
    | none => exact hA
    | some a =>
      obtain ⟨ha, hlt, b3, rfl, h3⟩ := hA
      exact ⟨ha, by omega, b3, rfl, STr.keep hs h3 (fun _ => hk _ (by simp)) fun k hm => hk k (by simp [hm])⟩
theorem STree.keep {w w' : World} {e : Sur} {A : Option Addr} {c : Nat} {bs : List Nat} (h : STree w e A c bs) (hs : w.heap.size ≤ w'.heap.size) (hk : ∀ k ∈ bs, w'.heap[k]? = w.heap[k]?) : STree w' e A c bs := by
  obtain ⟨l1, l2, hA⟩ := h
  refine ⟨l1, l2, ?_⟩
  cases A with
  | none => exact hA
  | some a =>
    obtain ⟨ha, hlt, b3, rfl, h3⟩ := hA
    exact ⟨ha, by omega, b3, rfl, STr.keep hs h3 (fun _ => hk _ (by simp)) fun k hm => hk k (by simp [hm])⟩
theorem STree.below {w w' : World} {e : Sur} {A : Option Addr} {c : Nat} {bs : List Nat} (h : STree w e A c bs) (hb : Below w.heap.size w w') : STree w' e A c bs :=
  h.keep hb.size fun k hk => hb.block k (h.lt k hk)

theorem STr.toT {w : World} {X : Nat → Prop} : ∀ {e : Sur} {b o : Nat} {bs : List Nat}, STr w e b o bs → (e ≠ .nil → ¬ X b) → (∀ k ∈ bs, ¬ X k) → STerms X w e b o
  | .nil, _, _, _, _, _, _ => trivial
  | .cons e n d r, b, o, bs, h, hb, hk => by
    obtain ⟨b1, b2, rfl, ⟨A, c, hc, l1, l2, hA⟩, hn, hd, in_, id_, f1, f2, hr⟩ := h
    have hb := hb (by simp)
    refine ⟨hb, ⟨A, c, hc, l1, l2, ?_⟩, hn, hd, in_, id_, STr.toT hr (fun _ => hb) fun k hm => hk k (List.mem_append.2 (.inr hm))⟩
    cases A with
    | none => exact hA.1
    | some a =>
      obtain ⟨ha, hlt, b3, rfl, h3⟩ := hA
      exact ⟨ha, STr.toT h3 (fun _ => hk _ (by simp)) fun k hm => hk k (by simp [hm])⟩
theorem STree.toS {w : World} {X : Nat → Prop} {e : Sur} {A : Option Addr} {c : Nat} {bs : List Nat} (h : STree w e A c bs) (hk : ∀ k ∈ bs, ¬ X k) : SSl X w e A c := by
  obtain ⟨l1, l2, hA⟩ := h
  refine ⟨l1, l2, ?_⟩
  cases A with
  | none => exact hA.1
  | some a =>
    obtain ⟨ha, hlt, b3, rfl, h3⟩ := hA
    exact ⟨ha, STr.toT h3 (fun _ => hk _ (by simp)) fun k hm => hk k (by simp [hm])⟩

/-- the cells of a row that reads as terms, with the blocks below -/
def TTRow (w : World) : Sur → List Value → List Nat → Prop
  | .nil, xs, bs => xs = [] ∧ bs = []
  | .cons e n d r, xs, bs => ∃ A c ys b1 b2, xs = .slice A e.len c :: .int .i64 n :: .int .i64 d :: ys ∧ bs = b1 ++ b2 ∧ STree w e A c b1 ∧ I64 n ∧ I64 d ∧ TTRow w r ys b2
theorem TTRow.len {w : World} : ∀ {e : Sur} {xs : List Value} {bs : List Nat}, TTRow w e xs bs → xs.length = e.len * 3
  | .nil, _, _, h => by simp [h.1, Sur.len]
  | .cons e n d r, _, _, ⟨A, c, ys, _, _, hxs, _, _, _, _, hr⟩ => by
    have := TTRow.len hr
    subst hxs
    simp only [List.length_cons, Sur.len]; omega
theorem TTRow.lt {w : World} : ∀ {e : Sur} {xs : List Value} {bs : List Nat}, TTRow w e xs bs → ∀ k ∈ bs, k < w.heap.size
  | .nil, _, _, h => by simp [h.2]
  | .cons e n d r, _, _, ⟨A, c, ys, b1, b2, _, hbs, ht, _, _, hr⟩ => by
    subst hbs
    intro k hk
    rcases List.mem_append.1 hk with hk | hk
    · exact ht.lt k hk
    · exact TTRow.lt hr k hk
theorem TTRow.keep {w w' : World} (hs : w.heap.size ≤ w'.heap.size) : ∀ {e : Sur} {xs : List Value} {bs : List Nat}, TTRow w e xs bs → (∀ k ∈ bs, w'.heap[k]? = w.heap[k]?) → TTRow w' e xs bs
  | .nil, _, _, h, _ => h
  | .cons e n d r, _, _, ⟨A, c, ys, b1, b2, hxs, hbs, ht, in_, id_, hr⟩, hk => by
    subst hbs
    exact ⟨A, c, ys, b1, b2, hxs, rfl, ht.keep hs fun k hm => hk k (List.mem_append.2 (.inl hm)), in_, id_, TTRow.keep hs hr fun k hm => hk k (List.mem_append.2 (.inr hm))⟩
theorem TTRow.below {w w' : World} {e : Sur} {xs : List Value} {bs : List Nat} (h : TTRow w e xs bs) (hb : Below w.heap.size w w') : TTRow w' e xs bs :=
  h.keep hb.size fun k hk => hb.block k (h.lt k hk)
theorem TTRow.snoc {w : World} {e : Sur} {n d : Int} {A : Option Addr} {c : Nat} {b1 : List Nat} (hs : STree w e A c b1) (hn : I64 n) (hd : I64 d) :
    ∀ {x : Sur} {xs : List Value} {bs : List Nat}, TTRow w x xs bs → TTRow w (x.app (.cons e n d .nil)) (xs ++ [.slice A e.len c, .int .i64 n, .int .i64 d]) (bs ++ b1)
  | .nil, _, _, h => by
    obtain ⟨rfl, rfl⟩ := h
    exact ⟨A, c, [], b1, [], rfl, by simp, hs, hn, hd, rfl, rfl⟩
  | .cons _ _ _ _, _, _, ⟨A', c', ys, b2, b3, hxs, hbs, hs', a, b, hr⟩ => by
    subst hxs hbs
    exact ⟨A', c', _, b2, _, rfl, by simp, hs', a, b, TTRow.snoc hs hn hd hr⟩
theorem TTRow.toR {w : World} {X : Nat → Prop} : ∀ {e : Sur} {xs : List Value} {bs : List Nat}, TTRow w e xs bs → (∀ k ∈ bs, ¬ X k) → TRow X w e xs
  | .nil, _, _, h, _ => h.1
  | .cons e n d r, _, _, ⟨A, c, ys, b1, b2, hxs, hbs, ht, in_, id_, hr⟩, hk => by
    subst hbs
    exact ⟨A, c, ys, hxs, ht.toS fun k hm => hk k (List.mem_append.2 (.inl hm)), in_, id_, TTRow.toR hr fun k hm => hk k (List.mem_append.2 (.inr hm))⟩

theorem STr.of_row {w : World} {b : Nat} : ∀ {e : Sur} {xs : List Value} {bs : List Nat} {o : Nat}, TTRow w e xs bs →
    (∀ j u, xs[j]? = some u → w.cell? ⟨b, o + j, none⟩ = some u) → (∀ j, w.frozen? ⟨b, j, none⟩ = false) → STr w e b o bs
  | .nil, _, _, _, h, _, _ => h.2
  | .cons e n d r, _, _, o, ⟨A, c, ys, b1, b2, hxs, hbs, hs, in_, id_, hr⟩, hc, hf => by
    subst hxs
    refine ⟨b1, b2, hbs, ⟨A, c, by simpa using hc 0 _ rfl, hs.1, hs.2.1, hs.2.2⟩, hc 1 _ rfl, hc 2 _ rfl, in_, id_, hf _, hf _, STr.of_row hr (fun j u hj => ?_) hf⟩
    have := hc (j + 3) u (by simpa using hj)
    rw [show o + 3 + j = o + (j + 3) from by omega]
    exact this

/-- an owned row of trees is a tree -/
theorem STree.of_own {w : World} {base E n : Nat} {A : Option Addr} {c : Nat} {x : Sur} {xs : List Value} {bs : List Nat}
    (h : w.ownsRow base E 3 (.slice A n c) n xs) (ht : TTRow w x xs bs) (hnd : bs.Nodup) (hbb : ∀ k ∈ bs, base ≤ k) (hg : ∀ g, Value.ownBlock (.slice A n c) = some g → g ∉ bs) :
    n = x.len ∧ ∃ bs', STree w x A c bs' ∧ bs'.Nodup ∧ ∀ k ∈ bs', base ≤ k := by
  have hl := ht.len
  have hl' := h.1
  have hn : n = x.len := by omega
  refine ⟨hn, ?_⟩
  rcases h.2 with ⟨hv, h0⟩ | ⟨g, cap, cur, hv, hb, hgg, hle, hcm, hsz, htk⟩
  · injection hv with hA _ hc
    subst hA hc
    exact ⟨[], ⟨by omega, by simp [maxLen], by omega, rfl⟩, by simp, by simp⟩
  · have hcells := h.cells (g := g) (by rw [hv]; rfl)
    injection hv with hA _ hc
    subst hA hc
    have hlt : g < w.heap.size := (Array.getElem?_eq_some_iff.1 hgg).1
    refine ⟨g :: bs, ⟨by omega, hcm, rfl, hlt, bs, rfl, STr.of_row ht (fun j u hj => ?_) (fun j => ?_)⟩, ?_, ?_⟩
    · have := hcells j u hj
      rw [show (⟨g, 0, none⟩ : Addr).add j = ⟨g, j, none⟩ from by unfold Addr.add; split <;> simp_all] at this
      simpa using this
    · simp [World.frozen?, hgg]
    · exact List.nodup_cons.2 ⟨hg g rfl, hnd⟩
    · intro k hk
      rcases List.mem_cons.1 hk with hk | hk
      · omega
      · exact hbb k hk

/-- a tree of blocks from B on -/
def SFresh (B : Nat) (w : World) (e : Sur) (A : Option Addr) (c : Nat) : Prop := ∃ bs, STree w e A c bs ∧ bs.Nodup ∧ ∀ k ∈ bs, B ≤ k
theorem SFresh.below {B : Nat} {w w' : World} {e : Sur} {A : Option Addr} {c : Nat} (h : SFresh B w e A c) (hb : Below w.heap.size w w') : SFresh B w' e A c := by
  obtain ⟨bs, h1, h2, h3⟩ := h
  exact ⟨bs, h1.below hb, h2, h3⟩
theorem SFresh.mono {B B' : Nat} {w : World} {e : Sur} {A : Option Addr} {c : Nat} (h : SFresh B w e A c) (hb : B' ≤ B) : SFresh B' w e A c := by
  obtain ⟨bs, h1, h2, h3⟩ := h
  exact ⟨bs, h1, h2, fun k hk => Nat.le_trans hb (h3 k hk)⟩
theorem SFresh.toS {B : Nat} {X : Nat → Prop} {w : World} {e : Sur} {A : Option Addr} {c : Nat} (h : SFresh B w e A c) (hX : ∀ k, X k → k < B) : SSl X w e A c := by
  obtain ⟨bs, h1, h2, h3⟩ := h
  exact h1.toS fun k hk hx => by have := h3 k hk; have := hX k hx; omega
theorem SFresh.nil (B : Nat) (w : World) : SFresh B w .nil none 0 := ⟨[], STree.nil w, by simp, by simp⟩
theorem SFresh.le {B : Nat} {w : World} {e : Sur} {A : Option Addr} {c : Nat} (h : SFresh B w e A c) : e.len ≤ c ∧ c ≤ maxLen := by
  obtain ⟨bs, h1, _⟩ := h
  exact ⟨h1.1, h1.2.1⟩

theorem own_slice {w : World} {base : Nat} {e : TypeId} {size : Nat} {v : Value} {n : Nat} {xs : List Value} (h : w.ownsRow base e size v n xs) : ∃ A c, v = .slice A n c := by
  rcases h.2 with ⟨rfl, rfl⟩ | ⟨g, cap, cur, rfl, _⟩
  · exact ⟨_, _, rfl⟩
  · exact ⟨_, _, rfl⟩

theorem SFresh.setCell {B : Nat} {w : World} {e : Sur} {A : Option Addr} {c : Nat} (h : SFresh B w e A c) {p : Addr} (hp : p.block < B) (u : Value) : SFresh B (w.setCell p u) e A c := by
  obtain ⟨bs, h1, h2, h3⟩ := h
  exact ⟨bs, h1.keep (by simp) fun k hk => Below.heap_setCell _ _ _ _ (by have := h3 k hk; omega), h2, h3⟩

/-- one tree more behind a row of trees: behind a call that made it and an append onto the row -/
theorem tt_step {wr w1 w2 : World} {B F H E k m : Nat} {v : Value} {xs : List Value} {bs : List Nat} {x e : Sur} {n d : Int} {A2 : Option Addr} {d2 gg : Nat} {o : Obj}
    (hown : wr.ownsRow B E m v k xs) (hrow : TTRow wr x xs bs) (hnd : bs.Nodup) (hge : ∀ g ∈ bs, B ≤ g) (hnb : ∀ g, v.ownBlock = some g → g ∉ bs)
    (hb1 : Below wr.heap.size wr w1) (hf : SFresh F w1 e A2 d2) (hF : wr.heap.size ≤ F) (hBF : B ≤ F) (in_ : I64 n) (id_ : I64 d)
    (hg : (w1.alloc o).grownBy w2 v.ownBlock) (hat : v.ownBlock = some gg ∨ gg = H) (hH : w1.heap.size ≤ H) (p : Addr) (hp : p.block < B) (u : Value) :
    ∃ bs', TTRow (w2.setCell p u) (x.app (.cons e n d .nil)) (xs ++ [.slice A2 e.len d2, .int .i64 n, .int .i64 d]) bs' ∧ bs'.Nodup ∧ (∀ g ∈ bs', B ≤ g) ∧ gg ∉ bs' := by
  obtain ⟨b1, ht, hnd1, hge1⟩ := hf
  have hsz : wr.heap.size ≤ w1.heap.size := hb1.size
  have hsz2 : w1.heap.size + 1 ≤ w2.heap.size := by have := hg.size; simpa using this
  have hlt := hrow.lt
  have hlt1 := ht.lt
  have hol : ∀ g, v.ownBlock = some g → g < wr.heap.size := fun g h => (hown.lt g h).2
  have hk2 : ∀ k, k < w1.heap.size → v.ownBlock ≠ some k → k ≠ p.block → (w2.setCell p u).heap[k]? = w1.heap[k]? := fun k h1 h2 h3 => by
    rw [Below.heap_setCell _ _ _ _ h3, hg.block k (by simp; omega) (fun e => h2 e.symm), Below.heap_alloc _ _ _ h1]
  have hs2 : (w2.setCell p u).heap.size = w2.heap.size := World.size_setCell _ _ _
  refine ⟨bs ++ b1, TTRow.snoc (ht.keep (by omega) fun k hk => hk2 k (hlt1 k hk) (fun e => ?_) ?_) in_ id_ (TTRow.keep (w := w1) (by omega) (hrow.below hb1) fun k hk => hk2 k (by have := hlt k hk; omega) (fun e => hnb k e hk) ?_), ?_, ?_, ?_⟩
  · have := hge1 k hk; have := hol k e; omega
  · have := hge1 k hk; omega
  · have := hge k hk; omega
  · refine List.nodup_append.2 ⟨hnd, hnd1, fun a ha b hb hab => ?_⟩
    subst hab
    have := hlt a ha; have := hge1 a hb; omega
  · intro g hg
    rcases List.mem_append.1 hg with h | h
    · exact hge g h
    · exact Nat.le_trans hBF (hge1 g h)
  · intro hm
    rcases List.mem_append.1 hm with h | h
    · rcases hat with e | e
      · exact hnb gg e h
      · have := hlt gg h; omega
    · rcases hat with e | e
      · have := hge1 gg h; have := hol gg e; omega
      · have := hlt1 gg h; omega

end Go.Proofs.YtonlfnbjbmgegaaGreat
