/-
  Surreal numbers as lists of terms, and what it means that memory holds one. No program in sight.
-/
import Derived.Test.YtphabopnbcgodaaWBase
import Derived.Test.YtphabopnbcgodaaWBlk
import Derived.WalkKit
import Derived.WalkSmall
import Derived.Lib.Hide
namespace Go.Proofs.Ytphabopnbcgodaa
open Go.RowKit
set_option linter.unusedSimpArgs false
set_option linter.unusedVariables false

/-- a surreal number: its terms in order, each an exponent and a fraction -/
inductive Sur where
  | nil
  | cons (e : Sur) (n d : Int) (r : Sur)

namespace Sur
def len : Sur → Nat
  | nil => 0
  | cons _ _ _ r => r.len + 1
def drop : Nat → Sur → Sur
  | 0, x => x
  | _ + 1, nil => nil
  | k + 1, cons _ _ _ r => r.drop k
def app : Sur → Sur → Sur
  | nil, y => y
  | cons e n d r, y => cons e n d (r.app y)
theorem len_app : ∀ (x y : Sur), (x.app y).len = x.len + y.len
  | nil, y => by simp [app, len]
  | cons e n d r, y => by simp only [app, len, len_app r y]; omega
theorem app_nil : ∀ (x : Sur), x.app nil = x
  | nil => rfl
  | cons e n d r => by simp only [app, app_nil r]
theorem app_assoc : ∀ (x y z : Sur), (x.app y).app z = x.app (y.app z)
  | nil, _, _ => rfl
  | cons e n d r, y, z => by simp only [app, app_assoc r y z]
theorem drop_of_lt : ∀ (x : Sur) (k : Nat), k < x.len → ∃ e n d, x.drop k = cons e n d (x.drop (k + 1))
  | nil, k, h => by simp [len] at h
  | cons e n d r, 0, _ => ⟨e, n, d, rfl⟩
  | cons e n d r, k + 1, h => by
    obtain ⟨e', n', d', h'⟩ := drop_of_lt r k (by simp only [len] at h; omega)
    exact ⟨e', n', d', h'⟩
theorem drop_of_ge : ∀ (x : Sur) (k : Nat), x.len ≤ k → x.drop k = nil
  | nil, 0, _ => rfl
  | nil, k + 1, _ => rfl
  | cons e n d r, 0, h => by simp [len] at h
  | cons e n d r, k + 1, h => by simp only [drop]; exact drop_of_ge r k (by simp only [len] at h; omega)
theorem len_drop : ∀ (x : Sur) (k : Nat), (x.drop k).len = x.len - k
  | x, 0 => by simp [drop]
  | nil, k + 1 => by simp [drop, len]
  | cons e n d r, k + 1 => by simp only [drop, len, len_drop r k]; omega
theorem drop_zero (x : Sur) : x.drop 0 = x := rfl
theorem drop_drop : ∀ (x : Sur) (i k : Nat), (x.drop i).drop k = x.drop (i + k)
  | x, 0, k => by simp [drop]
  | nil, i + 1, 0 => rfl
  | nil, i + 1, k + 1 => by rw [show i + 1 + (k + 1) = (i + 1 + k) + 1 from by omega]; rfl
  | cons e n d r, i + 1, k => by rw [show i + 1 + k = (i + k) + 1 from by omega]; simp only [drop]; exact drop_drop r i k
def take : Nat → Sur → Sur
  | 0, _ => nil
  | _ + 1, nil => nil
  | k + 1, cons e n d r => cons e n d (r.take k)
theorem take_app_drop : ∀ (x : Sur) (k : Nat), (x.take k).app (x.drop k) = x
  | x, 0 => by simp [take, app, drop]
  | nil, k + 1 => rfl
  | cons e n d r, k + 1 => by simp only [take, app, drop, take_app_drop r k]
theorem take_len : ∀ (x : Sur), x.take x.len = x
  | nil => rfl
  | cons e n d r => by simp only [len, take, take_len r]
theorem take_of_ge : ∀ (x : Sur) (k : Nat), x.len ≤ k → x.take k = x
  | nil, 0, _ => rfl
  | nil, k + 1, _ => rfl
  | cons e n d r, 0, h => by simp [len] at h
  | cons e n d r, k + 1, h => by simp only [take]; rw [take_of_ge r k (by simp only [len] at h; omega)]
theorem take_succ : ∀ (x : Sur) (k : Nat) (e : Sur) (n d : Int) (r : Sur), x.drop k = cons e n d r → x.take (k + 1) = (x.take k).app (cons e n d nil)
  | nil, 0, _, _, _, _, h => by cases h
  | nil, k + 1, _, _, _, _, h => by cases h
  | cons e n d r, 0, e', n', d', r', h => by simp only [drop] at h; cases h; simp [take, app]
  | cons e n d r, k + 1, e', n', d', r', h => by simp only [drop] at h; simp only [take, app]; rw [take_succ r k e' n' d' r' h]
theorem len_take : ∀ (x : Sur) (k : Nat), k ≤ x.len → (x.take k).len = k
  | x, 0, _ => by simp [take, len]
  | nil, k + 1, h => by simp [len] at h
  | cons e n d r, k + 1, h => by simp only [take, len]; rw [len_take r k (by simp only [len] at h; omega)]
/-- nodes, as IsSurreal counts them -/
def nodes : Sur → Nat
  | nil => 1
  | cons e _ _ r => 1 + e.nodes + r.nodes
theorem len_lt_nodes : ∀ (x : Sur), x.len < x.nodes
  | nil => by simp [len, nodes]
  | cons e n d r => by have := len_lt_nodes r; have := len_lt_nodes e; simp only [len, nodes]; omega
/-- each number of each fraction satisfies p -/
def All (p : Int → Int → Prop) : Sur → Prop
  | nil => True
  | cons e n d r => e.All p ∧ p n d ∧ r.All p
theorem All.mono {p q : Int → Int → Prop} (h : ∀ n d, p n d → q n d) : ∀ (x : Sur), x.All p → x.All q
  | nil, _ => trivial
  | cons e n d r, hx => ⟨All.mono h e hx.1, h _ _ hx.2.1, All.mono h r hx.2.2⟩
theorem All.app {p : Int → Int → Prop} : ∀ {x y : Sur}, x.All p → y.All p → (x.app y).All p
  | nil, _, _, hy => hy
  | cons e n d r, y, hx, hy => ⟨hx.1, hx.2.1, All.app hx.2.2 hy⟩
theorem All.drop {p : Int → Int → Prop} : ∀ {x : Sur} (k : Nat), x.All p → (x.drop k).All p
  | x, 0, h => h
  | nil, k + 1, _ => trivial
  | cons e n d r, k + 1, h => All.drop (x := r) k h.2.2
end Sur

/-- memory holds the terms from a place on; no block of them is one of X -/
def STerms (X : Nat → Prop) (w : World) : Sur → Nat → Nat → Prop
  | .nil, _, _ => True
  | .cons e n d r, b, o => ¬ X b ∧
      (∃ A c, w.cell? ⟨b, o, none⟩ = some (.slice A e.len c) ∧ e.len ≤ c ∧ c ≤ maxLen ∧
        (match A with | none => e.len = 0 | some a => a = ⟨a.block, a.off, none⟩ ∧ STerms X w e a.block a.off)) ∧
      w.cell? ⟨b, o + 1, none⟩ = some (.int .i64 n) ∧ w.cell? ⟨b, o + 2, none⟩ = some (.int .i64 d) ∧ I64 n ∧ I64 d ∧
      STerms X w r b (o + 3)

/-- a slice value at A with spare room up to c holds the terms -/
def SSl (X : Nat → Prop) (w : World) (e : Sur) (A : Option Addr) (c : Nat) : Prop :=
  e.len ≤ c ∧ c ≤ maxLen ∧ (match A with | none => e.len = 0 | some a => a = ⟨a.block, a.off, none⟩ ∧ STerms X w e a.block a.off)

theorem SSl.le {X : Nat → Prop} {w : World} {e : Sur} {A : Option Addr} {c : Nat} (h : SSl X w e A c) : e.len ≤ c := h.1
theorem SSl.cap {X : Nat → Prop} {w : World} {e : Sur} {A : Option Addr} {c : Nat} (h : SSl X w e A c) : c ≤ maxLen := h.2.1
theorem SSl.nil (X : Nat → Prop) (w : World) : SSl X w .nil none 0 := ⟨by simp [Sur.len], by simp [maxLen], rfl⟩

/-- two worlds hold the same in all blocks of the first that are not X -/
theorem STerms.keep {X Y : Nat → Prop} {w w' : World} : ∀ {e : Sur} {b o : Nat}, STerms X w e b o →
    (∀ k, ¬ X k → k < w.heap.size → ¬ Y k ∧ w'.heap[k]? = w.heap[k]?) → STerms Y w' e b o
  | .nil, _, _, _, _ => trivial
  | .cons e n d r, b, o, h, hk => by
    obtain ⟨hx, ⟨A, c, hc, h1, h2, hA⟩, hn, hd, in_, id_, hr⟩ := h
    have hlt := World.block_lt_of_cell? w _ hc
    obtain ⟨hy, hb⟩ := hk b hx hlt
    refine ⟨hy, ⟨A, c, (World.cell?_of_block hb).trans hc, h1, h2, ?_⟩, (World.cell?_of_block hb).trans hn, (World.cell?_of_block hb).trans hd, in_, id_, STerms.keep hr hk⟩
    cases A with
    | none => exact hA
    | some a => exact ⟨hA.1, STerms.keep hA.2 hk⟩

theorem SSl.keep {X Y : Nat → Prop} {w w' : World} {e : Sur} {A : Option Addr} {c : Nat} (h : SSl X w e A c)
    (hk : ∀ k, ¬ X k → k < w.heap.size → ¬ Y k ∧ w'.heap[k]? = w.heap[k]?) : SSl Y w' e A c := by
  refine ⟨h.1, h.2.1, ?_⟩
  have h3 := h.2.2
  cases A with
  | none => exact h3
  | some a => exact ⟨h3.1, STerms.keep h3.2 hk⟩

theorem SSl.below {X : Nat → Prop} {w w' : World} {e : Sur} {A : Option Addr} {c : Nat} (h : SSl X w e A c) (hb : Below w.heap.size w w') : SSl X w' e A c :=
  h.keep fun k hx hk => ⟨hx, hb.block k hk⟩
/-- the blocks of X may be written -/
theorem SSl.far {X : Nat → Prop} {w : World} {e : Sur} {A : Option Addr} {c : Nat} (h : SSl X w e A c) {p : Addr} (hp : X p.block) (u : Value) : SSl X (w.setCell p u) e A c :=
  h.keep fun k hx _ => ⟨hx, Below.heap_setCell _ _ _ _ (fun e => hx (e ▸ hp))⟩
/-- X may be any set of blocks that lie in X already or are not there yet -/
theorem SSl.more {X Y : Nat → Prop} {w : World} {e : Sur} {A : Option Addr} {c : Nat} (h : SSl X w e A c) (hY : ∀ k, Y k → k < w.heap.size → X k) : SSl Y w e A c :=
  h.keep fun k hx hk => ⟨fun hy => hx (hY k hy hk), rfl⟩

/-- what stands at place k -/
theorem STerms.drop {X : Nat → Prop} {w : World} : ∀ {e : Sur} {b o : Nat} (k : Nat), STerms X w e b o → STerms X w (e.drop k) b (o + k * 3)
  | e, b, o, 0, h => by simpa [Sur.drop] using h
  | .nil, b, o, k + 1, _ => trivial
  | .cons e n d r, b, o, k + 1, h => by
    have := STerms.drop k h.2.2.2.2.2.2
    simp only [Sur.drop]
    rw [show o + (k + 1) * 3 = o + 3 + k * 3 from by omega]
    exact this

/-- the slice has an address where it has an element, and the cells of the element k are these -/
theorem SSl.at_ {X : Nat → Prop} {w : World} {x : Sur} {A : Option Addr} {c : Nat} (h : SSl X w x A c) {k : Nat} (hk : k < x.len) :
    ∃ b o e n d A' c', A = some ⟨b, o, none⟩ ∧ x.drop k = .cons e n d (x.drop (k + 1)) ∧ w.cell? ⟨b, o + k * 3, none⟩ = some (.slice A' e.len c') ∧ w.cell? ⟨b, o + k * 3 + 1, none⟩ = some (.int .i64 n) ∧
      w.cell? ⟨b, o + k * 3 + 2, none⟩ = some (.int .i64 d) ∧ SSl X w e A' c' ∧ I64 n ∧ I64 d ∧ ¬ X b ∧ b < w.heap.size := by
  obtain ⟨h1, h2, h3⟩ := h
  cases A with
  | none => simp only at h3; omega
  | some a =>
    obtain ⟨ha, ht⟩ := h3
    have hd := STerms.drop k ht
    obtain ⟨e, n, d, hx⟩ := Sur.drop_of_lt x k hk
    rw [hx] at hd
    obtain ⟨hX, ⟨A', c', hc, l1, l2, hA⟩, hn, hdn, in_, id_, hr⟩ := hd
    refine ⟨a.block, a.off, e, n, d, A', c', by rw [← ha], hx, hc, hn, hdn, ⟨l1, l2, hA⟩, in_, id_, hX, World.block_lt_of_cell? w ⟨a.block, _, none⟩ hc⟩

/-- the cells of a row read as terms -/
def TRow (X : Nat → Prop) (w : World) : Sur → List Value → Prop
  | .nil, xs => xs = []
  | .cons e n d r, xs => ∃ A c ys, xs = .slice A e.len c :: .int .i64 n :: .int .i64 d :: ys ∧ SSl X w e A c ∧ I64 n ∧ I64 d ∧ TRow X w r ys

theorem TRow.len {X : Nat → Prop} {w : World} : ∀ {e : Sur} {xs : List Value}, TRow X w e xs → xs.length = e.len * 3
  | .nil, _, h => by simp [TRow] at h; simp [h, Sur.len]
  | .cons e n d r, _, ⟨A, c, ys, hxs, _, _, _, hr⟩ => by
    have := TRow.len hr
    subst hxs
    simp only [List.length_cons, Sur.len]; omega

theorem TRow.keep {X Y : Nat → Prop} {w w' : World} : ∀ {e : Sur} {xs : List Value}, TRow X w e xs →
    (∀ k, ¬ X k → k < w.heap.size → ¬ Y k ∧ w'.heap[k]? = w.heap[k]?) → TRow Y w' e xs
  | .nil, _, h, _ => h
  | .cons _ _ _ _, _, ⟨A, c, ys, hxs, hs, a, b, hr⟩, hk => ⟨A, c, ys, hxs, hs.keep hk, a, b, TRow.keep hr hk⟩

theorem TRow.below {X : Nat → Prop} {w w' : World} {e : Sur} {xs : List Value} (h : TRow X w e xs) (hb : Below w.heap.size w w') : TRow X w' e xs :=
  h.keep fun k hx hk => ⟨hx, hb.block k hk⟩

theorem TRow.snoc {X : Nat → Prop} {w : World} {e : Sur} {n d : Int} {A : Option Addr} {c : Nat} (hs : SSl X w e A c) (hn : I64 n) (hd : I64 d) :
    ∀ {x : Sur} {xs : List Value}, TRow X w x xs → TRow X w (x.app (.cons e n d .nil)) (xs ++ [.slice A e.len c, .int .i64 n, .int .i64 d])
  | .nil, _, h => by
    simp only [TRow] at h; subst h
    exact ⟨A, c, [], rfl, hs, hn, hd, rfl⟩
  | .cons _ _ _ _, _, ⟨A', c', ys, hxs, hs', a, b, hr⟩ => by
    subst hxs
    exact ⟨A', c', _, rfl, hs', a, b, TRow.snoc hs hn hd hr⟩

theorem TRow.app {X : Nat → Prop} {w : World} {y : Sur} {zs : List Value} (hy : TRow X w y zs) :
    ∀ {x : Sur} {xs : List Value}, TRow X w x xs → TRow X w (x.app y) (xs ++ zs)
  | .nil, _, h => by
    simp only [TRow] at h; subst h
    exact hy
  | .cons _ _ _ _, _, ⟨A', c', ys, hxs, hs', a, b, hr⟩ => by
    subst hxs
    exact ⟨A', c', _, rfl, hs', a, b, TRow.app hy hr⟩

/-- a row in memory that reads as terms -/
theorem STerms.of_row {X : Nat → Prop} {w : World} {b : Nat} (hX : ¬ X b) : ∀ {e : Sur} {xs : List Value} {o : Nat}, TRow X w e xs →
    (∀ j u, xs[j]? = some u → w.cell? ⟨b, o + j, none⟩ = some u) → STerms X w e b o
  | .nil, _, _, _, _ => trivial
  | .cons e n d r, _, o, ⟨A, c, ys, hxs, hs, in_, id_, hr⟩, hc => by
    subst hxs
    refine ⟨hX, ⟨A, c, by simpa using hc 0 _ rfl, hs.1, hs.2.1, hs.2.2⟩, hc 1 _ rfl, hc 2 _ rfl, in_, id_, STerms.of_row hX hr fun j u hj => ?_⟩
    have := hc (j + 3) u (by simpa using hj)
    rw [show o + 3 + j = o + (j + 3) from by omega]
    exact this

/-- what an owned row of terms is worth as a slice -/
theorem SSl.of_own {X : Nat → Prop} {w : World} {base E n : Nat} {A : Option Addr} {c : Nat} {x : Sur} {xs : List Value}
    (h : w.ownsRow base E 3 (.slice A n c) n xs) (ht : TRow X w x xs) (hX : ∀ k, Value.ownBlock (.slice A n c) = some k → ¬ X k) : n = x.len ∧ SSl X w x A c := by
  have hl := ht.len
  have hl' := h.1
  have hn : n = x.len := by omega
  refine ⟨hn, ?_⟩
  rcases h.2 with ⟨hv, h0⟩ | ⟨g, cap, cur, hv, hb, hg, hle, hcm, hsz, htk⟩
  · injection hv with hA _ hc
    subst hA hc
    exact ⟨by omega, by simp [maxLen], by simp only; omega⟩
  · have hcells := h.cells (g := g) (by rw [hv]; rfl)
    injection hv with hA _ hc
    subst hA hc
    refine ⟨by omega, hcm, rfl, STerms.of_row (hX g rfl) ht fun j u hj => ?_⟩
    have := hcells j u hj
    rw [show (⟨g, 0, none⟩ : Addr).add j = ⟨g, j, none⟩ from by unfold Addr.add; split <;> simp_all] at this
    simpa using this

end Go.Proofs.Ytphabopnbcgodaa
