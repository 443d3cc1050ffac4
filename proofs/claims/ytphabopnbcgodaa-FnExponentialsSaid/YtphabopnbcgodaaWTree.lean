/-
  Surreal numbers that lie in memory as trees of their own: each slice in a block of its own. No program in sight.
-/
import Derived.Test.YtphabopnbcgodaaWSurFn
namespace Go.Proofs.Ytphabopnbcgodaa
open Go.RowKit
set_option linter.unusedSimpArgs false
set_option linter.unusedVariables false

/-- terms from a place on, with the blocks of all that hangs below them -/
def STr (w : World) : Sur → Nat → Nat → List Nat → Prop
  | .nil, _, _, bs => bs = []
  | .cons e n d r, b, o, bs => ∃ b1 b2, bs = b1 ++ b2 ∧
      (∃ A c, w.cell? ⟨b, o, none⟩ = some (.slice A e.len c) ∧ e.len ≤ c ∧ c ≤ maxLen ∧
        (match A with | none => e.len = 0 ∧ b1 = [] | some a => a = ⟨a.block, a.off, none⟩ ∧ a.block < w.heap.size ∧ ∃ b3, b1 = a.block :: b3 ∧ STr w e a.block a.off b3)) ∧
      w.cell? ⟨b, o + 1, none⟩ = some (.int .i64 n) ∧ w.cell? ⟨b, o + 2, none⟩ = some (.int .i64 d) ∧ I64 n ∧ I64 d ∧
      w.frozen? ⟨b, o + 1, none⟩ = false ∧ w.frozen? ⟨b, o + 2, none⟩ = false ∧ STr w r b (o + 3) b2

def STree (w : World) (e : Sur) (A : Option Addr) (c : Nat) (bs : List Nat) : Prop :=
  e.len ≤ c ∧ c ≤ maxLen ∧ (match A with | none => e.len = 0 ∧ bs = [] | some a => a = ⟨a.block, a.off, none⟩ ∧ a.block < w.heap.size ∧ ∃ b3, bs = a.block :: b3 ∧ STr w e a.block a.off b3)

theorem STree.nil (w : World) : STree w .nil none 0 [] := ⟨by simp [Sur.len], by simp [maxLen], rfl, rfl⟩

/-- each block of a tree is there -/
theorem STr.lt {w : World} : ∀ {e : Sur} {b o : Nat} {bs : List Nat}, STr w e b o bs → ∀ k ∈ bs, k < w.heap.size
  | .nil, _, _, _, h => by simp only [STr] at h; subst h; simp
  | .cons e n d r, b, o, bs, h => by
    obtain ⟨b1, b2, rfl, ⟨A, c, _, _, _, hA⟩, _, _, _, _, _, _, hr⟩ := h
    intro k hk
    rcases List.mem_append.1 hk with hk | hk
    · cases A with
      | none => simp only at hA; rw [hA.2] at hk; simp at hk
      | some a =>
        obtain ⟨_, hlt, b3, rfl, h3⟩ := hA
        rcases List.mem_cons.1 hk with hk | hk
        · omega
        · exact STr.lt h3 k hk
    · exact STr.lt hr k hk
theorem STree.lt {w : World} {e : Sur} {A : Option Addr} {c : Nat} {bs : List Nat} (h : STree w e A c bs) : ∀ k ∈ bs, k < w.heap.size := by
  obtain ⟨_, _, hA⟩ := h
  intro k hk
  cases A with
  | none => simp only at hA; rw [hA.2] at hk; simp at hk
  | some a =>
    obtain ⟨_, hlt, b3, rfl, h3⟩ := hA
    rcases List.mem_cons.1 hk with hk | hk
    · omega
    · exact STr.lt h3 k hk

theorem STr.keep {w w' : World} (hs : w.heap.size ≤ w'.heap.size) : ∀ {e : Sur} {b o : Nat} {bs : List Nat}, STr w e b o bs → (e ≠ .nil → w'.heap[b]? = w.heap[b]?) → (∀ k ∈ bs, w'.heap[k]? = w.heap[k]?) → STr w' e b o bs
  | .nil, _, _, _, h, _, _ => h
  | .cons e n d r, b, o, bs, h, hb, hk => by
    obtain ⟨b1, b2, rfl, ⟨A, c, hc, l1, l2, hA⟩, hn, hd, in_, id_, f1, f2, hr⟩ := h
    have hb := hb (by simp)
    refine ⟨b1, b2, rfl, ⟨A, c, (World.cell?_of_block hb).trans hc, l1, l2, ?_⟩, (World.cell?_of_block hb).trans hn, (World.cell?_of_block hb).trans hd, in_, id_, (World.frozen?_of_block hb).trans f1, (World.frozen?_of_block hb).trans f2,
      STr.keep hs hr (fun _ => hb) fun k hm => hk k (List.mem_append.2 (.inr hm))⟩
    cases A with
    | none => exact hA
    | some a =>
      obtain ⟨ha, hlt, b3, rfl, h3⟩ := hA
      exact ⟨ha, by omega, b3, rfl, STr.keep hs h3 (fun _ => hk _ (by simp)) fun k hm => hk k (by simp [hm])⟩
theorem STree.keep {w w' : World} {e : Sur} {A : Option Addr} {c : Nat} {bs : List Nat} (h : STree w e A c bs) (hs : w.heap.size ≤ w'.heap.size) (hk : ∀ k ∈ bs, w'.heap[k]? = w.heap[k]?) : STree w' e A c bs := by
  obtain ⟨l1, l2, hA⟩ := h
  refine ⟨l1, l2, ?_⟩
  cases A with
  | none => exact hA
  | some a =>
    obtain ⟨ha, hlt, b3, rfl, h3⟩ := hA
    exact ⟨ha, by omega, b3, rfl, STr.keep hs h3 (fun _ => hk _ (by simp)) fun k hm => hk k (by simp [hm])⟩
theorem STree.below {w w' : World} {e : Sur} {A : Option Addr} {c : Nat} {bs : List Nat} (h : STree w e A c bs) (hb : Below w.heap.size w w') : STree w' e A c bs :=
  h.keep hb.size fun k hk => hb.block k (h.lt k hk)

theorem STr.toT {w : World} {X : Nat → Prop} : ∀ {e : Sur} {b o : Nat} {bs : List Nat}, STr w e b o bs → (e ≠ .nil → ¬ X b) → (∀ k ∈ bs, ¬ X k) → STerms X w e b o
  | .nil, _, _, _, _, _, _ => trivial
  | .cons e n d r, b, o, bs, h, hb, hk => by
    obtain ⟨b1, b2, rfl, ⟨A, c, hc, l1, l2, hA⟩, hn, hd, in_, id_, f1, f2, hr⟩ := h
    have hb := hb (by simp)
    refine ⟨hb, ⟨A, c, hc, l1, l2, ?_⟩, hn, hd, in_, id_, STr.toT hr (fun _ => hb) fun k hm => hk k (List.mem_append.2 (.inr hm))⟩
    cases A with
    | none => exact hA.1
    | some a =>
      obtain ⟨ha, hlt, b3, rfl, h3⟩ := hA
      exact ⟨ha, STr.toT h3 (fun _ => hk _ (by simp)) fun k hm => hk k (by simp [hm])⟩
theorem STree.toS {w : World} {X : Nat → Prop} {e : Sur} {A : Option Addr} {c : Nat} {bs : List Nat} (h : STree w e A c bs) (hk : ∀ k ∈ bs, ¬ X k) : SSl X w e A c := by
  obtain ⟨l1, l2, hA⟩ := h
  refine ⟨l1, l2, ?_⟩
  cases A with
  | none => exact hA.1
  | some a =>
    obtain ⟨ha, hlt, b3, rfl, h3⟩ := hA
    exact ⟨ha, STr.toT h3 (fun _ => hk _ (by simp)) fun k hm => hk k (by simp [hm])⟩

/-- the cells of a row that reads as terms, with the blocks below -/
def TTRow (w : World) : Sur → List Value → List Nat → Prop
  | .nil, xs, bs => xs = [] ∧ bs = []
  | .cons e n d r, xs, bs => ∃ A c ys b1 b2, xs = .slice A e.len c :: .int .i64 n :: .int .i64 d :: ys ∧ bs = b1 ++ b2 ∧ STree w e A c b1 ∧ I64 n ∧ I64 d ∧ TTRow w r ys b2
theorem TTRow.len {w : World} : ∀ {e : Sur} {xs : List Value} {bs : List Nat}, TTRow w e xs bs → xs.length = e.len * 3
  | .nil, _, _, h => by simp [h.1, Sur.len]
  | .cons e n d r, _, _, ⟨A, c, ys, _, _, hxs, _, _, _, _, hr⟩ => by
    have := TTRow.len hr
    subst hxs
    simp only [List.length_cons, Sur.len]; omega
theorem TTRow.lt {w : World} : ∀ {e : Sur} {xs : List Value} {bs : List Nat}, TTRow w e xs bs → ∀ k ∈ bs, k < w.heap.size
  | .nil, _, _, h => by simp [h.2]
  | .cons e n d r, _, _, ⟨A, c, ys, b1, b2, _, hbs, ht, _, _, hr⟩ => by
    subst hbs
    intro k hk
    rcases List.mem_append.1 hk with hk | hk
    · exact ht.lt k hk
    · exact TTRow.lt hr k hk
theorem TTRow.keep {w w' : World} (hs : w.heap.size ≤ w'.heap.size) : ∀ {e : Sur} {xs : List Value} {bs : List Nat}, TTRow w e xs bs → (∀ k ∈ bs, w'.heap[k]? = w.heap[k]?) → TTRow w' e xs bs
  | .nil, _, _, h, _ => h
  | .cons e n d r, _, _, ⟨A, c, ys, b1, b2, hxs, hbs, ht, in_, id_, hr⟩, hk => by
    subst hbs
    exact ⟨A, c, ys, b1, b2, hxs, rfl, ht.keep hs fun k hm => hk k (List.mem_append.2 (.inl hm)), in_, id_, TTRow.keep hs hr fun k hm => hk k (List.mem_append.2 (.inr hm))⟩
theorem TTRow.below {w w' : World} {e : Sur} {xs : List Value} {bs : List Nat} (h : TTRow w e xs bs) (hb : Below w.heap.size w w') : TTRow w' e xs bs :=
  h.keep hb.size fun k hk => hb.block k (h.lt k hk)
theorem TTRow.snoc {w : World} {e : Sur} {n d : Int} {A : Option Addr} {c : Nat} {b1 : List Nat} (hs : STree w e A c b1) (hn : I64 n) (hd : I64 d) :
    ∀ {x : Sur} {xs : List Value} {bs : List Nat}, TTRow w x xs bs → TTRow w (x.app (.cons e n d .nil)) (xs ++ [.slice A e.len c, .int .i64 n, .int .i64 d]) (bs ++ b1)
  | .nil, _, _, h => by
    obtain ⟨rfl, rfl⟩ := h
    exact ⟨A, c, [], b1, [], rfl, by simp, hs, hn, hd, rfl, rfl⟩
  | .cons _ _ _ _, _, _, ⟨A', c', ys, b2, b3, hxs, hbs, hs', a, b, hr⟩ => by
    subst hxs hbs
    exact ⟨A', c', _, b2, _, rfl, by simp, hs', a, b, TTRow.snoc hs hn hd hr⟩
theorem TTRow.toR {w : World} {X : Nat → Prop} : ∀ {e : Sur} {xs : List Value} {bs : List Nat}, TTRow w e xs bs → (∀ k ∈ bs, ¬ X k) → TRow X w e xs
  | .nil, _, _, h, _ => h.1
  | .cons e n d r, _, _, ⟨A, c, ys, b1, b2, hxs, hbs, ht, in_, id_, hr⟩, hk => by
    subst hbs
    exact ⟨A, c, ys, hxs, ht.toS fun k hm => hk k (List.mem_append.2 (.inl hm)), in_, id_, TTRow.toR hr fun k hm => hk k (List.mem_append.2 (.inr hm))⟩

theorem STr.of_row {w : World} {b : Nat} : ∀ {e : Sur} {xs : List Value} {bs : List Nat} {o : Nat}, TTRow w e xs bs →
    (∀ j u, xs[j]? = some u → w.cell? ⟨b, o + j, none⟩ = some u) → (∀ j, w.frozen? ⟨b, j, none⟩ = false) → STr w e b o bs
  | .nil, _, _, _, h, _, _ => h.2
  | .cons e n d r, _, _, o, ⟨A, c, ys, b1, b2, hxs, hbs, hs, in_, id_, hr⟩, hc, hf => by
    subst hxs
    refine ⟨b1, b2, hbs, ⟨A, c, by simpa using hc 0 _ rfl, hs.1, hs.2.1, hs.2.2⟩, hc 1 _ rfl, hc 2 _ rfl, in_, id_, hf _, hf _, STr.of_row hr (fun j u hj => ?_) hf⟩
    have := hc (j + 3) u (by simpa using hj)
    rw [show o + 3 + j = o + (j + 3) from by omega]
    exact this

/-- an owned row of trees is a tree -/
theorem STree.of_own {w : World} {base E n : Nat} {A : Option Addr} {c : Nat} {x : Sur} {xs : List Value} {bs : List Nat}
    (h : w.ownsRow base E 3 (.slice A n c) n xs) (ht : TTRow w x xs bs) (hnd : bs.Nodup) (hbb : ∀ k ∈ bs, base ≤ k) (hg : ∀ g, Value.ownBlock (.slice A n c) = some g → g ∉ bs) :
    n = x.len ∧ ∃ bs', STree w x A c bs' ∧ bs'.Nodup ∧ ∀ k ∈ bs', base ≤ k := by
  have hl := ht.len
  have hl' := h.1
  have hn : n = x.len := by omega
  refine ⟨hn, ?_⟩
  rcases h.2 with ⟨hv, h0⟩ | ⟨g, cap, cur, hv, hb, hgg, hle, hcm, hsz, htk⟩
  · injection hv with hA _ hc
    subst hA hc
    exact ⟨[], ⟨by omega, by simp [maxLen], by omega, rfl⟩, by simp, by simp⟩
  · have hcells := h.cells (g := g) (by rw [hv]; rfl)
    injection hv with hA _ hc
    subst hA hc
    have hlt : g < w.heap.size := (Array.getElem?_eq_some_iff.1 hgg).1
    refine ⟨g :: bs, ⟨by omega, hcm, rfl, hlt, bs, rfl, STr.of_row ht (fun j u hj => ?_) (fun j => ?_)⟩, ?_, ?_⟩
    · have := hcells j u hj
      rw [show (⟨g, 0, none⟩ : Addr).add j = ⟨g, j, none⟩ from by unfold Addr.add; split <;> simp_all] at this
      simpa using this
    · simp [World.frozen?, hgg]
    · exact List.nodup_cons.2 ⟨hg g rfl, hnd⟩
    · intro k hk
      rcases List.mem_cons.1 hk with hk | hk
      · omega
      · exact hbb k hk

/-- a tree of blocks from B on -/
def SFresh (B : Nat) (w : World) (e : Sur) (A : Option Addr) (c : Nat) : Prop := ∃ bs, STree w e A c bs ∧ bs.Nodup ∧ ∀ k ∈ bs, B ≤ k
theorem SFresh.below {B : Nat} {w w' : World} {e : Sur} {A : Option Addr} {c : Nat} (h : SFresh B w e A c) (hb : Below w.heap.size w w') : SFresh B w' e A c := by
  obtain ⟨bs, h1, h2, h3⟩ := h
  exact ⟨bs, h1.below hb, h2, h3⟩
theorem SFresh.mono {B B' : Nat} {w : World} {e : Sur} {A : Option Addr} {c : Nat} (h : SFresh B w e A c) (hb : B' ≤ B) : SFresh B' w e A c := by
  obtain ⟨bs, h1, h2, h3⟩ := h
  exact ⟨bs, h1, h2, fun k hk => Nat.le_trans hb (h3 k hk)⟩
theorem SFresh.toS {B : Nat} {X : Nat → Prop} {w : World} {e : Sur} {A : Option Addr} {c : Nat} (h : SFresh B w e A c) (hX : ∀ k, X k → k < B) : SSl X w e A c := by
  obtain ⟨bs, h1, h2, h3⟩ := h
  exact h1.toS fun k hk hx => by have := h3 k hk; have := hX k hx; omega
theorem SFresh.nil (B : Nat) (w : World) : SFresh B w .nil none 0 := ⟨[], STree.nil w, by simp, by simp⟩
theorem SFresh.le {B : Nat} {w : World} {e : Sur} {A : Option Addr} {c : Nat} (h : SFresh B w e A c) : e.len ≤ c ∧ c ≤ maxLen := by
  obtain ⟨bs, h1, _⟩ := h
  exact ⟨h1.1, h1.2.1⟩

theorem own_slice {w : World} {base : Nat} {e : TypeId} {size : Nat} {v : Value} {n : Nat} {xs : List Value} (h : w.ownsRow base e size v n xs) : ∃ A c, v = .slice A n c := by
  rcases h.2 with ⟨rfl, rfl⟩ | ⟨g, cap, cur, rfl, _⟩
  · exact ⟨_, _, rfl⟩
  · exact ⟨_, _, rfl⟩

theorem SFresh.setCell {B : Nat} {w : World} {e : Sur} {A : Option Addr} {c : Nat} (h : SFresh B w e A c) {p : Addr} (hp : p.block < B) (u : Value) : SFresh B (w.setCell p u) e A c := by
  obtain ⟨bs, h1, h2, h3⟩ := h
  exact ⟨bs, h1.keep (by simp) fun k hk => Below.heap_setCell _ _ _ _ (by have := h3 k hk; omega), h2, h3⟩

/-- one tree more behind a row of trees: behind a call that made it and an append onto the row -/
theorem tt_step {wr w1 w2 : World} {B F H E k m : Nat} {v : Value} {xs : List Value} {bs : List Nat} {x e : Sur} {n d : Int} {A2 : Option Addr} {d2 gg : Nat} {o : Obj}
    (hown : wr.ownsRow B E m v k xs) (hrow : TTRow wr x xs bs) (hnd : bs.Nodup) (hge : ∀ g ∈ bs, B ≤ g) (hnb : ∀ g, v.ownBlock = some g → g ∉ bs)
    (hb1 : Below wr.heap.size wr w1) (hf : SFresh F w1 e A2 d2) (hF : wr.heap.size ≤ F) (hBF : B ≤ F) (in_ : I64 n) (id_ : I64 d)
    (hg : (w1.alloc o).grownBy w2 v.ownBlock) (hat : v.ownBlock = some gg ∨ gg = H) (hH : w1.heap.size ≤ H) (p : Addr) (hp : p.block < B) (u : Value) :
    ∃ bs', TTRow (w2.setCell p u) (x.app (.cons e n d .nil)) (xs ++ [.slice A2 e.len d2, .int .i64 n, .int .i64 d]) bs' ∧ bs'.Nodup ∧ (∀ g ∈ bs', B ≤ g) ∧ gg ∉ bs' := by
  obtain ⟨b1, ht, hnd1, hge1⟩ := hf
  have hsz : wr.heap.size ≤ w1.heap.size := hb1.size
  have hsz2 : w1.heap.size + 1 ≤ w2.heap.size := by have := hg.size; simpa using this
  have hlt := hrow.lt
  have hlt1 := ht.lt
  have hol : ∀ g, v.ownBlock = some g → g < wr.heap.size := fun g h => (hown.lt g h).2
  have hk2 : ∀ k, k < w1.heap.size → v.ownBlock ≠ some k → k ≠ p.block → (w2.setCell p u).heap[k]? = w1.heap[k]? := fun k h1 h2 h3 => by
    rw [Below.heap_setCell _ _ _ _ h3, hg.block k (by simp; omega) (fun e => h2 e.symm), Below.heap_alloc _ _ _ h1]
  have hs2 : (w2.setCell p u).heap.size = w2.heap.size := World.size_setCell _ _ _
  refine ⟨bs ++ b1, TTRow.snoc (ht.keep (by omega) fun k hk => hk2 k (hlt1 k hk) (fun e => ?_) ?_) in_ id_ (TTRow.keep (w := w1) (by omega) (hrow.below hb1) fun k hk => hk2 k (by have := hlt k hk; omega) (fun e => hnb k e hk) ?_), ?_, ?_, ?_⟩
  · have := hge1 k hk; have := hol k e; omega
  · have := hge1 k hk; omega
  · have := hge k hk; omega
  · refine List.nodup_append.2 ⟨hnd, hnd1, fun a ha b hb hab => ?_⟩
    subst hab
    have := hlt a ha; have := hge1 a hb; omega
  · intro g hg
    rcases List.mem_append.1 hg with h | h
    · exact hge g h
    · exact Nat.le_trans hBF (hge1 g h)
  · intro hm
    rcases List.mem_append.1 hm with h | h
    · rcases hat with e | e
      · exact hnb gg e h
      · have := hlt gg h; omega
    · rcases hat with e | e
      · have := hge1 gg h; have := hol gg e; omega
      · have := hlt1 gg h; omega

end Go.Proofs.Ytphabopnbcgodaa
