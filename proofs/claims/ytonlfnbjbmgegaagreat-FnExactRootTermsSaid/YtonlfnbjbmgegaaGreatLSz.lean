/-
  Walks, the laws' side: sizes of arguments.
-/
import Derived.Test.YtonlfnbjbmgegaaGreatLArg
namespace Go.Proofs.YtonlfnbjbmgegaaGreat
open Go.RowKit
set_option linter.unusedSimpArgs false
set_option linter.unusedVariables false

/-- terms, all the way down -/
def Sur.total : Sur → Nat
  | .nil => 0
  | .cons e _ _ r => 1 + e.total + r.total
theorem Sur.nodes_total : ∀ (x : Sur), x.nodes = 2 * x.total + 1
  | .nil => rfl
  | .cons e n d r => by have := nodes_total e; have := nodes_total r; simp only [nodes, total]; omega
theorem Sur.len_total : ∀ (x : Sur), x.len ≤ x.total
  | .nil => Nat.le_refl _
  | .cons e n d r => by have := len_total r; simp only [len, total]; omega
/-- what is left of a size -/
def szP (x : Sur) (left : Int) : Int := if (x.total : Int) ≤ left then left - x.total else -1
/-- the exponents' terms -/
def Sur.inner : Sur → Nat
  | .nil => 0
  | .cons e _ _ r => e.total + r.inner
theorem Sur.total_inner : ∀ (x : Sur), x.total = x.len + x.inner
  | .nil => rfl
  | .cons e n d r => by have := total_inner r; simp only [total, len, inner]; omega
def szI (x : Sur) (left : Int) : Int := if (x.inner : Int) ≤ left then left - x.inner else -1
theorem szI_nil {l : Int} (h : 0 ≤ l) : szI .nil l = l := by
  have h0 : ((Sur.nil).inner : Int) = 0 := rfl
  unfold szI
  rw [if_pos (by omega)]; omega
theorem szI_cons (e : Sur) (n d : Int) (r : Sur) (l : Int) : szI (.cons e n d r) l = if (e.total : Int) ≤ l then szI r (szP e l) else -1 := by
  have h0 : ((Sur.cons e n d r).inner : Int) = e.total + r.inner := by simp [Sur.inner]
  unfold szI szP
  by_cases h : (e.total : Int) ≤ l
  · rw [if_pos h, if_pos h]
    by_cases h2 : (r.inner : Int) ≤ l - e.total
    · rw [if_pos h2, if_pos (by omega)]; omega
    · rw [if_neg h2, if_neg (by omega)]
  · rw [if_neg h, if_neg (by omega)]

set_option maxHeartbeats 400000 in
theorem szSurreal_of (s : Sur) (A : Option Addr) (c : Nat) (left : Int) (w : World) (h : ∀ W, Below w.heap.size w W → Calls Tryz.prog 63 #[.slice A s.len c, .int .i64 left] W fun e w' => e = .returned (.int .i64 (szP s left)) ∧ Below W.heap.size W w') :
    Calls Tryz.prog 18 #[.agg #[.slice A s.len c], .int .i64 left] w fun e w' => e = .returned (.int .i64 (szP s left)) ∧ Below w.heap.size w w' := by
  have k0 := (Blk.new w 43 #[.slice A s.len c])
  have hB0 : Below w.heap.size w (w.alloc (.cells #[.slice A s.len c] 43)) := by go_grown
  have HH := Lib.hid h
  clear h
  by_cases hs : szP s left < 0
  · have he : szP s left = -1 := by unfold szP at hs ⊢; split at hs <;> split <;> omega
    have HE := Lib.hid he
    clear he
    go_enter Tryz.func18, Tryz.ntmps18
    go_wp2_with fail
    refine (HH.out _ hB0).mono ?_
    rintro e1 w1 ⟨rfl, hb1⟩
    have hB1 := Below.call hB0 (by go_size) hb1
    go_wp2
    go_ret
    exact ⟨by rw [HE.out]; rfl, hB1⟩
  · go_enter Tryz.func18, Tryz.ntmps18
    go_wp2_with fail
    refine (HH.out _ hB0).mono ?_
    rintro e1 w1 ⟨rfl, hb1⟩
    have hB1 := Below.call hB0 (by go_size) hb1
    go_wp2
    go_ret
    exact ⟨rfl, hB1⟩
set_option maxHeartbeats 400000 in
theorem szTerm_of (s : Sur) (n d : Int) (A : Option Addr) (c : Nat) (left : Int) (w : World) (h : ∀ W, Below w.heap.size w W → Calls Tryz.prog 63 #[.slice A s.len c, .int .i64 left] W fun e w' => e = .returned (.int .i64 (szP s left)) ∧ Below W.heap.size W w') :
    Calls Tryz.prog 109 #[.agg #[.slice A s.len c, .int .i64 n, .int .i64 d], .int .i64 left] w fun e w' => e = .returned (.int .i64 (szP s left)) ∧ Below w.heap.size w w' := by
  have k0 := (Blk.new w 116 #[.slice A s.len c, .int .i64 n, .int .i64 d])
  have hB0 : Below w.heap.size w (w.alloc (.cells #[.slice A s.len c, .int .i64 n, .int .i64 d] 116)) := by go_grown
  have HH := Lib.hid h
  clear h
  by_cases hs : szP s left < 0
  · have he : szP s left = -1 := by unfold szP at hs ⊢; split at hs <;> split <;> omega
    have HE := Lib.hid he
    clear he
    go_enter Tryz.func109, Tryz.ntmps109
    go_wp2_with fail
    refine (szSurreal_of s A c left _ (fun W hW => HH.out W (Below.call hB0 (by go_size) hW))).mono ?_
    rintro e1 w1 ⟨rfl, hb1⟩
    have hB1 := Below.call hB0 (by go_size) hb1
    go_wp2
    go_ret
    exact ⟨by rw [HE.out]; rfl, hB1⟩
  · go_enter Tryz.func109, Tryz.ntmps109
    go_wp2_with fail
    refine (szSurreal_of s A c left _ (fun W hW => HH.out W (Below.call hB0 (by go_size) hW))).mono ?_
    rintro e1 w1 ⟨rfl, hb1⟩
    have hB1 := Below.call hB0 (by go_size) hb1
    go_wp2
    go_ret
    exact ⟨rfl, hB1⟩

set_option maxHeartbeats 1600000 in
theorem szTermS_any (N : Nat) : ∀ (x : Sur) (A : Option Addr) (c : Nat) (left : Int) (w : World), x.nodes ≤ N → LSl w x A c → 0 ≤ left → left ≤ 1048576 →
    Calls Tryz.prog 63 #[.slice A x.len c, .int .i64 left] w fun e w' => e = .returned (.int .i64 (szP x left)) ∧ Below w.heap.size w w' := by
  induction N with
  | zero => intro x A c left w hN; have := x.len_lt_nodes; omega
  | succ N ih =>
    intro x A c left w hN sx hl0 hl1
    have IH := Lib.hid ih; clear ih
    have lx := sx.cap
    have lx' := sx.le
    unfold maxLen at lx
    have ht := x.total_inner
    have hw0 : IntKind.i64.wrap (left - (x.len : Int)) = left - (x.len : Int) := IntWalk.i64_in _ (by omega)
    have HW := Lib.hid hw0
    clear hw0
    by_cases h0 : left - (x.len : Int) < 0
    · have HF := Lib.hid (show szP x left = -1 from if_neg (by omega))
      have hw0 := HW.out
      go_enter Tryz.func63, Tryz.ntmps63
      go_wp2
      go_ret
      exact ⟨by rw [HF.out]; rfl, Below.refl _ _⟩
    · have HZ := Lib.hid (show szP x left = szI x (left - (x.len : Int)) by unfold szP szI; split <;> split <;> omega)
      have hw0 := HW.out
      go_enter Tryz.func63, Tryz.ntmps63
      go_wp2
      clear hw0
      go_loopw [1, 5] (fun s t wr => ∃ (k : Nat) (l : Int), s = .int .i64 l ∧ t = .int .i64 k ∧ k ≤ x.len ∧ 0 ≤ l ∧ l ≤ 1048576 ∧ Hid (szI x (left - (x.len : Int)) = szI (x.drop k) l) ∧ Below w.heap.size w wr) (fun _ t _ => x.len - (intOf t).toNat)
      case atStart => exact ⟨0, left - (x.len : Int), rfl, rfl, Nat.zero_le _, by omega, by omega, rfl, Below.refl _ _⟩
      case round =>
        obtain ⟨k, l, rfl, rfl, hkx, hl0', hl1', HS, hB⟩ := hrel
        have sx1 := sx.below hB
        have hk0' : (0 : Int) ≤ (k : Int) := by omega
        by_cases h1 : k < x.len
        · obtain ⟨b, o, e, n, d, A1, d1, rfl, hxk, f0, f1, f2, se, _, _, hbl⟩ := sx1.at_ h1
          have hne := Sur.nodes_drop hxk
          have hst : szI (x.drop k) l = if (e.total : Int) ≤ l then szI (x.drop (k + 1)) (szP e l) else -1 := by
            rw [hxk, szI_cons]
          have HST := Lib.hid (HS.out.trans hst)
          have Hx := Lib.hid hxk
          clear hst hxk
          by_cases hs : szP e l < 0
          · have hf : ¬ (e.total : Int) ≤ l := by unfold szP at hs; split at hs <;> omega
            have HF := Lib.hid (HZ.out.trans (HST.out.trans (if_neg hf)))
            clear hf
            go_wp2_with fail
            refine (szTerm_of e n d A1 d1 l _ (fun W hW => IH.out e A1 d1 l W (by omega) (se.below hW) hl0' hl1')).mono ?_
            rintro e1 w1 ⟨rfl, hb1⟩
            have hB1 : Below w.heap.size w w1 := hB.trans (hb1.mono hB.size)
            go_wp2
            go_ret
            exact ⟨by rw [HF.out]; rfl, hB1⟩
          · have hf : (e.total : Int) ≤ l := by unfold szP at hs; split at hs <;> omega
            have hb : szP e l ≤ 1048576 := by unfold szP; split <;> omega
            have HF := Lib.hid (HST.out.trans (if_pos hf))
            clear hf
            go_wp2_with fail
            refine (szTerm_of e n d A1 d1 l _ (fun W hW => IH.out e A1 d1 l W (by omega) (se.below hW) hl0' hl1')).mono ?_
            rintro e1 w1 ⟨rfl, hb1⟩
            have hB1 : Below w.heap.size w w1 := hB.trans (hb1.mono hB.size)
            go_wp2
            exact ⟨⟨k + 1, _, rfl, by go_num, by omega, by omega, hb, HF, hB1⟩, by simp [intOf]; omega⟩
        · have hfin : szP x left = l := by
            rw [HZ.out, HS.out, x.drop_of_ge k (by omega), szI_nil hl0']
          have HN := Lib.hid hfin
          clear hfin
          go_wp2
          go_ret
          exact ⟨by rw [HN.out]; rfl, hB⟩
theorem szSurreal_any (x : Sur) (A : Option Addr) (c : Nat) (left : Int) (w : World) (sx : LSl w x A c) (h0 : 0 ≤ left) (h1 : left ≤ 1048576) :
    Calls Tryz.prog 18 #[.agg #[.slice A x.len c], .int .i64 left] w fun e w' => e = .returned (.int .i64 (szP x left)) ∧ Below w.heap.size w w' :=
  szSurreal_of x A c left w (fun W hW => szTermS_any _ x A c left W (Nat.le_refl _) (sx.below hW) h0 h1)
end Go.Proofs.YtonlfnbjbmgegaaGreat
