/-
  Walks: the check of a quotient, ExactQuotient; the last term.
  Walks: CheckQuotient, the program's and the reference's; ExactQuotient.
-/
import Derived.Test.YtonlfnbjbmgegaaGreatWQuo2
namespace Go.Proofs.YtonlfnbjbmgegaaGreat
open Go.RowKit
set_option linter.unusedSimpArgs false
set_option linter.unusedVariables false

theorem drop_last : ∀ {x : Sur}, x.len ≠ 0 → x.drop (x.len - 1) = lastS x
  | .nil, h => absurd rfl h
  | .cons e n d .nil, _ => rfl
  | .cons e n d (.cons e' n' d' r), _ => by
    have := drop_last (x := .cons e' n' d' r) (by simp [Sur.len])
    simp only [Sur.len] at this ⊢
    rw [show r.len + 1 + 1 - 1 = (r.len + 1 - 1) + 1 by omega]
    simp only [Sur.drop, lastS]
    exact this
theorem lastS_len {x : Sur} (h : x.len ≠ 0) : (lastS x).len = 1 := by
  have := Sur.len_drop x (x.len - 1)
  rw [drop_last h] at this
  omega
attribute [local go_sem high] has_cell has_frozen
set_option maxHeartbeats 1600000 in
theorem lastTerm_any (x : Sur) (X : Nat → Prop) (A : Option Addr) (c : Nat) (w : World) (sx : SSl X w x A c) (nx : x.len ≠ 0) :
    Calls Tryz.prog 52 #[.agg #[.slice A x.len c]] w fun e w' => ∃ A' c', e = .returned (.agg #[.slice A' (lastS x).len c']) ∧ SSl X w' (lastS x) A' c' ∧ Below w.heap.size w w' := by
  obtain ⟨b, o, _, _, _, _, _, rfl, _, _, _, _, _, _, _, _, _⟩ := sx.at_ (k := 0) (by omega)
  have ht := sx.tail (k := x.len - 1) (by omega)
  rw [drop_last nx] at ht
  have lx := sx.cap
  have lx' := sx.le
  unfold maxLen at lx
  have hw : IntKind.i64.wrap ((x.len : Int) - 1) = ((x.len - 1 : Nat) : Int) := by rw [IntWalk.i64_in _ (by omega)]; omega
  haveI := Tr.arg ht
  have hl1 := lastS_len nx
  have HL : Hid ((lastS x).len = 1) := hl1
  have hn1 : ¬ (x.len - 1 = c) := by omega
  clear sx ht hl1
  go_enter Tryz.func52, Tryz.ntmps52
  go_wp2_with (first | ((with_reducible refine at_dst (N := 1) rfl ?_); refine ev_box (cs := #[.slice (some ⟨b, o, none⟩) x.len c]) (t := 26) rfl ?hr1 ?_; (case hr1 => first | (go_simp; done) | (go_simp; rfl)); intro g1 v1 _ _ _ _) | ((with_reducible refine at_dst (N := 2) rfl ?_); refine ev_box (cs := #[.slice none 0 0]) (t := 26) rfl ?hr2 ?_; (case hr2 => first | (go_simp; done) | (go_simp; rfl)); intro g2 v2 _ _ _ _))
  refine bodyPost_ret (v := .agg #[.slice (some ⟨b, o + (x.len - 1) * 3, none⟩) (x.len - (x.len - 1)) (c - (x.len - 1))]) (by simp [results, Tryz.results52, go_sem]) rfl ?_
  rw [show x.len - (x.len - 1) = (lastS x).len by rw [HL.out]; omega]
  exact ⟨_, _, rfl, trx X _ (some ⟨b, o + (x.len - 1) * 3, none⟩), ext w _⟩
set_option maxHeartbeats 1600000 in
theorem seLast_any (x : Sur) (X : Nat → Prop) (A : Option Addr) (c : Nat) (w : World) (sx : SSl X w x A c) (nx : x.len ≠ 0) :
    Calls Tryz.prog 62 #[.agg #[.slice A x.len c]] w fun e w' => ∃ A' c', e = .returned (.agg #[.slice A' (lastS x).len c']) ∧ SSl X w' (lastS x) A' c' ∧ Below w.heap.size w w' := by
  obtain ⟨b, o, _, _, _, _, _, rfl, _, _, _, _, _, _, _, _, _⟩ := sx.at_ (k := 0) (by omega)
  have ht := sx.tail (k := x.len - 1) (by omega)
  rw [drop_last nx] at ht
  have lx := sx.cap
  have lx' := sx.le
  unfold maxLen at lx
  have hw : IntKind.i64.wrap ((x.len : Int) - 1) = ((x.len - 1 : Nat) : Int) := by rw [IntWalk.i64_in _ (by omega)]; omega
  haveI := Tr.arg ht
  have hl1 := lastS_len nx
  have HL : Hid ((lastS x).len = 1) := hl1
  have hn1 : ¬ (x.len - 1 = c) := by omega
  clear sx ht hl1
  go_enter Tryz.func62, Tryz.ntmps62
  go_wp2_with (first | ((with_reducible refine at_dst (N := 1) rfl ?_); refine ev_box (cs := #[.slice (some ⟨b, o, none⟩) x.len c]) (t := 26) rfl ?hr1 ?_; (case hr1 => first | (go_simp; done) | (go_simp; rfl)); intro g1 v1 _ _ _ _) | ((with_reducible refine at_dst (N := 2) rfl ?_); refine ev_box (cs := #[.slice none 0 0]) (t := 26) rfl ?hr2 ?_; (case hr2 => first | (go_simp; done) | (go_simp; rfl)); intro g2 v2 _ _ _ _))
  refine bodyPost_ret (v := .agg #[.slice (some ⟨b, o + (x.len - 1) * 3, none⟩) (x.len - (x.len - 1)) (c - (x.len - 1))]) (by simp [results, Tryz.results62, go_sem]) rfl ?_
  rw [show x.len - (x.len - 1) = (lastS x).len by rw [HL.out]; omega]
  exact ⟨_, _, rfl, trx X _ (some ⟨b, o + (x.len - 1) * 3, none⟩), ext w _⟩
end Go.Proofs.YtonlfnbjbmgegaaGreat

namespace Go.Proofs.YtonlfnbjbmgegaaGreat
open Go.RowKit
set_option linter.unusedSimpArgs false
set_option linter.unusedVariables false

structure OptV (o : Option Sur) (z : Sur) (b : Bool) : Prop where
  hz : o.getD .nil = z
  hb : o.isSome = b
theorem optV (o : Option Sur) : ∃ z b, OptV o z b := ⟨_, _, rfl, rfl⟩
theorem boolH (b : Bool) : ∃ c, Hid (b = c) := ⟨b, rfl⟩
theorem intH (b : Int) : ∃ c, Hid (b = c) := ⟨b, rfl⟩
def RetChk (w : World) (o : Bool × Bool) (e : Ending) (w' : World) : Prop := e = .returned (.tuple #[.bool o.1, .bool o.2]) ∧ Below w.heap.size w w'
theorem good_bd {x : Sur} (h : sGood x = true) : x.All Bd := Sur.All.mono (fun _ _ h => FOk.bd h) x (sGood_len h).2.2
theorem chk_bad {x y q r : Sur} (h : chG x y q r = false) : chk x y q r = (false, false) := by unfold chk; rw [if_neg (by simp [h])]
attribute [local go_sem high] has_cell has_frozen
end Go.Proofs.YtonlfnbjbmgegaaGreat
