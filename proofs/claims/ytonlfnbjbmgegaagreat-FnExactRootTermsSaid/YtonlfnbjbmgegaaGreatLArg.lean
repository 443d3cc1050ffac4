/-
  The laws' own numbers: what an argument holds; sizes.
-/
import Derived.Test.YtonlfnbjbmgegaaGreatSLog
import Derived.ChangeArms
import Derived.DataReads
import Derived.Deep.Slices
namespace Go.Proofs.YtonlfnbjbmgegaaGreat
open Go.RowKit
set_option linter.unusedSimpArgs false
set_option linter.unusedVariables false

/-- memory holds the terms of an argument from a place on -/
def LTerms (w : World) : Sur → Nat → Nat → Prop
  | .nil, _, _ => True
  | .cons e n d r, b, o => (∃ A c, w.cell? ⟨b, o, none⟩ = some (.slice A e.len c) ∧ e.len ≤ c ∧ c ≤ maxLen ∧ (e.len = 0 ∨ ∃ b' o', A = some ⟨b', o', none⟩ ∧ LTerms w e b' o')) ∧
      w.cell? ⟨b, o + 1, none⟩ = some (.int .i64 n) ∧ w.cell? ⟨b, o + 2, none⟩ = some (.int .i64 d) ∧ I64 n ∧ I64 d ∧ LTerms w r b (o + 3)
def LSl (w : World) (e : Sur) (A : Option Addr) (c : Nat) : Prop := e.len ≤ c ∧ c ≤ maxLen ∧ (e.len = 0 ∨ ∃ b o, A = some ⟨b, o, none⟩ ∧ LTerms w e b o)

theorem LTerms.below {w w' : World} (hb : Below w.heap.size w w') : ∀ {e : Sur} {b o : Nat}, LTerms w e b o → LTerms w' e b o
  | .nil, _, _, _ => trivial
  | .cons e n d r, b, o, h => by
    obtain ⟨⟨A, c, hc, h1, h2, hA⟩, hn, hd, in_, id_, hr⟩ := h
    have hlt := World.block_lt_of_cell? w _ hc
    refine ⟨⟨A, c, (hb.cell (p := ⟨b, o, none⟩) hlt).trans hc, h1, h2, ?_⟩, (hb.cell (p := ⟨b, o + 1, none⟩) hlt).trans hn, (hb.cell (p := ⟨b, o + 2, none⟩) hlt).trans hd, in_, id_, LTerms.below hb hr⟩
    rcases hA with h0 | ⟨b', o', hA, ht⟩
    · exact .inl h0
    · exact .inr ⟨b', o', hA, LTerms.below hb ht⟩
theorem LSl.below {w w' : World} {e : Sur} {A : Option Addr} {c : Nat} (h : LSl w e A c) (hb : Below w.heap.size w w') : LSl w' e A c := by
  obtain ⟨h1, h2, h3⟩ := h
  refine ⟨h1, h2, ?_⟩
  rcases h3 with h0 | ⟨b', o', hA, ht⟩
  · exact .inl h0
  · exact .inr ⟨b', o', hA, ht.below hb⟩
theorem LSl.le {w : World} {e : Sur} {A : Option Addr} {c : Nat} (h : LSl w e A c) : e.len ≤ c := h.1
theorem LSl.cap {w : World} {e : Sur} {A : Option Addr} {c : Nat} (h : LSl w e A c) : c ≤ maxLen := h.2.1
theorem LTerms.drop {w : World} : ∀ {e : Sur} {b o : Nat} (k : Nat), LTerms w e b o → LTerms w (e.drop k) b (o + k * 3)
  | e, b, o, 0, h => by simpa [Sur.drop] using h
  | .nil, b, o, k + 1, _ => trivial
  | .cons e n d r, b, o, k + 1, h => by
    have := LTerms.drop k h.2.2.2.2.2
    simp only [Sur.drop]
    rw [show o + (k + 1) * 3 = o + 3 + k * 3 from by omega]
    exact this
theorem LSl.at_ {w : World} {x : Sur} {A : Option Addr} {c : Nat} (h : LSl w x A c) {k : Nat} (hk : k < x.len) :
    ∃ b o e n d A' c', A = some ⟨b, o, none⟩ ∧ x.drop k = .cons e n d (x.drop (k + 1)) ∧ w.cell? ⟨b, o + k * 3, none⟩ = some (.slice A' e.len c') ∧ w.cell? ⟨b, o + k * 3 + 1, none⟩ = some (.int .i64 n) ∧
      w.cell? ⟨b, o + k * 3 + 2, none⟩ = some (.int .i64 d) ∧ LSl w e A' c' ∧ I64 n ∧ I64 d ∧ b < w.heap.size := by
  obtain ⟨h1, h2, h3⟩ := h
  rcases h3 with h0 | ⟨b, o, rfl, ht⟩
  · omega
  · have hd := LTerms.drop k ht
    obtain ⟨e, n, d, hx⟩ := Sur.drop_of_lt x k hk
    rw [hx] at hd
    obtain ⟨⟨A', c', hc, l1, l2, hA⟩, hn, hdn, in_, id_, hr⟩ := hd
    exact ⟨b, o, e, n, d, A', c', rfl, hx, hc, hn, hdn, ⟨l1, l2, hA⟩, in_, id_, World.block_lt_of_cell? w ⟨b, _, none⟩ hc⟩

/-- what was read is such a number -/
theorem add_at (b o i : Nat) : (⟨b, o, none⟩ : Addr).add i = ⟨b, o + i, none⟩ := by
  unfold Addr.add
  by_cases h : i = 0 <;> simp [h]

/-- a reader that reads a list of terms, element by element -/
theorem terms_of {w : World} {b o : Nat} (n : Nat) (hel : ∀ i, i < n → ∃ e a d A c, w.cell? ⟨b, o + i * 3, none⟩ = some (.slice A e.len c) ∧ LSl w e A c ∧ w.cell? ⟨b, o + i * 3 + 1, none⟩ = some (.int .i64 a) ∧ w.cell? ⟨b, o + i * 3 + 2, none⟩ = some (.int .i64 d) ∧ I64 a ∧ I64 d) :
    ∃ s : Sur, s.len = n ∧ LTerms w s b o := by
  induction n generalizing o with
  | zero => exact ⟨.nil, rfl, trivial⟩
  | succ n ih =>
    obtain ⟨e, a, d, A, c, h1, h2, h3, h4, h5, h6⟩ := hel 0 (by omega)
    obtain ⟨s, hs, ht⟩ := ih (o := o + 3) (fun i hi => by
      have := hel (i + 1) (by omega)
      rw [show o + (i + 1) * 3 = o + 3 + i * 3 from by omega] at this
      exact this)
    simp only [Nat.zero_mul, Nat.add_zero] at h1 h3 h4
    exact ⟨.cons e a d s, by simp [Sur.len, hs], ⟨A, c, h1, h2.1, h2.2.1, h2.2.2⟩, h3, h4, h5, h6, ht⟩

theorem wf_I64 {n : Int} (h : (Lit.int .i64 n).wf = true) : I64 n := by
  unfold I64
  simp only [Lit.wf, Bool.and_eq_true, decide_eq_true_eq] at h
  have h1 : IntKind.i64.min = -9223372036854775808 := by rfl
  have h2 : IntKind.i64.max = 9223372036854775807 := by rfl
  rw [h1, h2] at h
  exact h

theorem len1 {α : Type} {l : List α} (h : l.length = 1) : ∃ a, l = [a] := by
  match l, h with
  | [a], _ => exact ⟨a, rfl⟩
theorem len2 {α : Type} {l : List α} (h : l.length = 2) : ∃ a b, l = [a, b] := by
  match l, h with
  | [a, b], _ => exact ⟨a, b, rfl⟩
theorem len3 {α : Type} {l : List α} (h : l.length = 3) : ∃ a b c, l = [a, b, c] := by
  match l, h with
  | [a, b, c], _ => exact ⟨a, b, c, rfl⟩

section
variable {H : Type} {enc : TypeId × Value → H} {w : World} {sp : Nat → Bool} {hd : Bool}
theorem c40 : Tryz.prog.cellsOf 43 = 1 := by kernel_rfl
theorem c61 : Tryz.prog.cellsOf 114 = 2 := by kernel_rfl
theorem c154 : Tryz.prog.cellsOf 116 = 3 := by kernel_rfl
theorem cInt : Tryz.prog.cellsOf 3 = 1 := by kernel_rfl
theorem open_sur {fuel : Nat} {cs : List Value} {x : DataW H × List MemPlace} (h : DataW.trod enc Tryz.prog w 0 sp hd fuel 43 cs = some x) :
    ∃ v n y, cs = [v] ∧ n < fuel ∧ DataW.trod enc Tryz.prog w 0 sp hd n 41 [v] = some y := by
  obtain ⟨xs, k, rfl, _, hlen, hxl, hf⟩ := DataW.trod_struct Tryz.underlying43 h
  rw [c40] at hlen
  have hxl : xs.length = 1 := hxl
  obtain ⟨v, rfl⟩ := len1 hlen
  obtain ⟨y, rfl⟩ := len1 hxl
  · skip
    have g := hf 0 _ rfl
    have c38 : Tryz.prog.cellsOf 41 = 1 := by kernel_rfl
    have g' : DataW.trod enc Tryz.prog w 0 sp hd k 41 (([v].drop 0).take (Tryz.prog.cellsOf 41)) = some y := g
    rw [c38] at g'
    exact ⟨v, k, y, rfl, by omega, g'⟩
theorem open_frac {fuel : Nat} {cs : List Value} {x : DataW H × List MemPlace} (h : DataW.trod enc Tryz.prog w 0 sp hd fuel 114 cs = some x) :
    ∃ a d, cs = [.int .i64 a, .int .i64 d] ∧ I64 a ∧ I64 d := by
  obtain ⟨xs, k, rfl, _, hlen, hxl, hf⟩ := DataW.trod_struct Tryz.underlying114 h
  rw [c61] at hlen
  have hxl : xs.length = 2 := hxl
  obtain ⟨v0, v1, rfl⟩ := len2 hlen
  obtain ⟨y0, y1, rfl⟩ := len2 hxl
  · skip
    have g0 : DataW.trod enc Tryz.prog w 0 sp hd k 3 (([v0, v1].drop 0).take (Tryz.prog.cellsOf 3)) = some y0 := hf 0 _ rfl
    have g1 : DataW.trod enc Tryz.prog w 0 sp hd k 3 (([v0, v1].drop 1).take (Tryz.prog.cellsOf 3)) = some y1 := hf 1 _ rfl
    rw [cInt] at g0 g1
    obtain ⟨a, h0, _, w0⟩ := DataW.trod_int Tryz.underlying3 g0
    obtain ⟨d, h1, _, w1⟩ := DataW.trod_int Tryz.underlying3 g1
    have h0 : [v0] = [.int .i64 a] := h0
    have h1 : [v1] = [.int .i64 d] := h1
    obtain rfl : v0 = .int .i64 a := by simpa using h0
    obtain rfl : v1 = .int .i64 d := by simpa using h1
    exact ⟨a, d, rfl, wf_I64 w0, wf_I64 w1⟩
theorem open_term {fuel : Nat} {cs : List Value} {x : DataW H × List MemPlace} (h : DataW.trod enc Tryz.prog w 0 sp hd fuel 116 cs = some x) :
    ∃ v a d n y, cs = [v, .int .i64 a, .int .i64 d] ∧ I64 a ∧ I64 d ∧ n < fuel ∧ DataW.trod enc Tryz.prog w 0 sp hd n 41 [v] = some y := by
  obtain ⟨xs, k, rfl, _, hlen, hxl, hf⟩ := DataW.trod_struct Tryz.underlying116 h
  rw [c154] at hlen
  have hxl : xs.length = 2 := hxl
  obtain ⟨v0, v1, v2, rfl⟩ := len3 hlen
  obtain ⟨y0, y1, rfl⟩ := len2 hxl
  · skip
    have g0 : DataW.trod enc Tryz.prog w 0 sp hd k 43 (([v0, v1, v2].drop 0).take (Tryz.prog.cellsOf 43)) = some y0 := hf 0 _ rfl
    have g1 : DataW.trod enc Tryz.prog w 0 sp hd k 114 (([v0, v1, v2].drop 1).take (Tryz.prog.cellsOf 114)) = some y1 := hf 1 _ rfl
    rw [c40] at g0
    rw [c61] at g1
    obtain ⟨v, n, y, h0, hn, hy⟩ := open_sur g0
    have h0 : [v0] = [v] := h0
    obtain ⟨a, d, h1, ia, id_⟩ := open_frac g1
    have h1 : [v1, v2] = [.int .i64 a, .int .i64 d] := h1
    obtain rfl : v0 = v := by simpa using h0
    obtain ⟨rfl, rfl⟩ : v1 = .int .i64 a ∧ v2 = .int .i64 d := by simpa using h1
    exact ⟨v0, a, d, n, y, rfl, ia, id_, by omega, hy⟩
end

theorem open_terms {H : Type} {enc : TypeId × Value → H} {w : World} {sp : Nat → Bool} {hd : Bool} (fuel : Nat) : ∀ (cs : List Value) (x : DataW H × List MemPlace), DataW.trod enc Tryz.prog w 0 sp hd fuel 41 cs = some x →
    ∃ A s c, cs = [.slice A (Sur.len s) c] ∧ LSl w s A c := by
  induction fuel using Nat.strongRecOn with
  | _ fuel ih =>
    intro cs x h
    rcases DataW.trod_slice Tryz.underlying41 h with ⟨rfl, _⟩ | ⟨a, len, cap, elems, rest, n, rfl, rfl, _, _, hl, hm, hlen, hel, _, _⟩
    · exact ⟨none, .nil, 0, rfl, by simp [Sur.len], by simp [maxLen], .inl rfl⟩
    · obtain ⟨b, o, sp'⟩ := a
      cases len with
      | zero => exact ⟨some ⟨b, o, sp'⟩, .nil, cap, rfl, by simp [Sur.len], hm, .inl rfl⟩
      | succ len =>
        have hpart : ∀ i, i < len + 1 → ∃ e a d A c, w.cell? ((⟨b, o, sp'⟩ : Addr).add (i * 3)) = some (.slice A (Sur.len e) c) ∧ LSl w e A c ∧ w.cell? ((⟨b, o, sp'⟩ : Addr).add (i * 3 + 1)) = some (.int .i64 a) ∧ w.cell? ((⟨b, o, sp'⟩ : Addr).add (i * 3 + 2)) = some (.int .i64 d) ∧ I64 a ∧ I64 d := by
          intro i hi
          have h1 := hel i hi
          rw [List.getElem?_eq_getElem (by omega), c154] at h1
          obtain ⟨cs', h2, h3⟩ := Option.bind_eq_some_iff.1 h1
          obtain ⟨_, hl', hcell⟩ := World.cells?_some h2
          obtain ⟨v, p, q, m, y, rfl, ip, iq, hm', hy⟩ := open_term h3
          obtain ⟨A, s, c, hv, hs⟩ := ih m (by omega) _ _ hy
          simp only [List.cons.injEq, and_true] at hv
          subst hv
          have e0 := hcell 0 (by omega)
          have e1 := hcell 1 (by omega)
          have e2 := hcell 2 (by omega)
          rw [Deep.add_add] at e0 e1 e2
          exact ⟨s, p, q, A, c, by simpa using e0, hs, by simpa using e1, by simpa using e2, ip, iq⟩
        have hsp : sp' = none := by
          obtain ⟨e, a, d, A, c, h0, _⟩ := hpart 0 (by omega)
          have := World.cell?_spot h0
          simpa [Addr.add] using this
        subst hsp
        obtain ⟨s, hs, ht⟩ := terms_of (w := w) (b := b) (o := o) (len + 1) (fun i hi => by
          obtain ⟨e, a, d, A, c, h0, h1, h2, h3, h4, h5⟩ := hpart i hi
          rw [add_at] at h0 h2 h3
          exact ⟨e, a, d, A, c, h0, h1, by rw [Nat.add_assoc]; exact h2, by rw [Nat.add_assoc]; exact h3, h4, h5⟩)
        exact ⟨some ⟨b, o, none⟩, s, cap, by rw [hs], by omega, hm, .inr ⟨b, o, rfl, ht⟩⟩
end Go.Proofs.YtonlfnbjbmgegaaGreat
