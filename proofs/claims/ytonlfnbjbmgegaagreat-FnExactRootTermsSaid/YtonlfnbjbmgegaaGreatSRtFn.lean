/-
  Roots by terms: what the reference computes, plain.
-/
import Derived.Test.YtonlfnbjbmgegaaGreatQF
import Derived.Test.YtonlfnbjbmgegaaGreatSRootFn
import Derived.Test.YtonlfnbjbmgegaaGreatBJ
import Derived.Test.YtonlfnbjbmgegaaGreatSPowFn
namespace Go.Proofs.YtonlfnbjbmgegaaGreat
open Go.RowKit
set_option linter.unusedSimpArgs false
set_option linter.unusedVariables false

/- powers -/
def kpowGo (x : Sur) : Nat → Bool → Sur → Bool × Sur
  | 0, bad, out => (bad, out)
  | m + 1, bad, out => kpowGo x m (bad || !(prodS out x).isSome) (keepS bad (prodS out x))
def kpow (x : Sur) (k : Nat) (bad : Bool) : Bool × Sur := kpowGo x k bad oneS
/- the first term -/
def sfE (r : Sur) (k : Nat) : Option Sur := prodS (fE r) (termP .nil 1 k)
def sfB1 (r : Sur) (k : Nat) : Bool := false || !(sfE r k).isSome
def sfX (r : Sur) (k : Nat) : Sur := keepS false (sfE r k)
def sfA (r : Sur) (k : Nat) : Int × Int := (sCoef (fC r).1 (fC r).2 k).getD (0, 0)
def sfK (r : Sur) (k : Nat) : Option Sur := told (termP (sfX r k) (sfA r k).1 (sfA r k).2) true
def sfB2 (r : Sur) (k : Nat) : Bool := sfB1 r k || !(sfK r k).isSome
def sfT (r : Sur) (k : Nat) : Sur := keepS (sfB1 r k) (sfK r k)
/- a further term -/
def tmB (b : Bool) (v c : Int × Int) : Bool := frB b (muN v.1 v.2 c.1 c.2) (muD v.1 v.2 c.1 c.2)
def tmV (b : Bool) (v c : Int × Int) : Int × Int := (frN (tmB b v c) (muN v.1 v.2 c.1 c.2), frN (tmB b v c) (muD v.1 v.2 c.1 c.2))
def tmGo (c : Int × Int) : Nat → Bool → Int × Int → Bool × (Int × Int)
  | 0, b, v => (b, v)
  | i + 1, b, v => tmGo c i (tmB b v c) (tmV b v c)
def snW (s : Sur) (k : Nat) : Bool × (Int × Int) := tmGo (fC s) (k - 1) false (k, 1)
def snE1 (s : Sur) (k : Nat) : Option Sur := prodS (fE s) (termP .nil ((k : Int) - 1) 1)
def snB1 (s : Sur) (k : Nat) : Bool := (snW s k).1 || !(snE1 s k).isSome
def snX1 (s : Sur) (k : Nat) : Sur := keepS (snW s k).1 (snE1 s k)
def snE (s r : Sur) (k : Nat) : Option Sur := sumS (fE r) (negP (snX1 s k))
def snB2 (s r : Sur) (k : Nat) : Bool := snB1 s k || !(snE s r k).isSome
def snX (s r : Sur) (k : Nat) : Sur := keepS (snB1 s k) (snE s r k)
def snN (s r : Sur) (k : Nat) : Int := mkN ((fC r).1 * (snW s k).2.2) ((fC r).2 * (snW s k).2.1)
def snD (s r : Sur) (k : Nat) : Int := mkD ((fC r).1 * (snW s k).2.2) ((fC r).2 * (snW s k).2.1)
def snB3 (s r : Sur) (k : Nat) : Bool := frB (snB2 s r k) (snN s r k) (snD s r k)
def snK (s r : Sur) (k : Nat) : Option Sur := told (termP (snX s r k) (frN (snB3 s r k) (snN s r k)) (frN (snB3 s r k) (snD s r k))) true
def snB4 (s r : Sur) (k : Nat) : Bool := snB3 s r k || !(snK s r k).isSome
def snT (s r : Sur) (k : Nat) : Sur := keepS (snB3 s r k) (snK s r k)
def snS (s r : Sur) (k : Nat) : Option Sur := sumS s (snT s r k)
def snB5 (s r : Sur) (k : Nat) : Bool := snB4 s r k || !(snS s r k).isSome
def snQ (s r : Sur) (k : Nat) : Sur := keepS (snB4 s r k) (snS s r k)
/- a step -/
def ssS (s r : Sur) (k : Nat) : Sur := if s.len = 0 then sfT r k else snQ s r k
def ssB (s r : Sur) (k : Nat) : Bool := if s.len = 0 then sfB2 r k else snB5 s r k
def ssP (s r : Sur) (k : Nat) : Bool × Sur := kpow (ssS s r k) k (ssB s r k)
def ssR (x s r : Sur) (k : Nat) : Option Sur := sumS x (negP (ssP s r k).2)
def ssB6 (x s r : Sur) (k : Nat) : Bool := (ssP s r k).1 || !(ssR x s r k).isSome
def ssR1 (x s r : Sur) (k : Nat) : Sur := keepS (ssP s r k).1 (ssR x s r k)
def srGo (x : Sur) (k : Nat) : Nat → Bool → Sur → Sur → Option (Bool × Sur × Sur)
  | 0, bad, s, r => some (bad, s, r)
  | m + 1, bad, s, r => if r.len ≠ 0 ∧ bad = false then (if s.len = 0 ∧ sCoef (fC r).1 (fC r).2 k = none then none else srGo x k m (ssB6 x s r k) (ssS s r k) (ssR1 x s r k)) else some (bad, s, r)
theorem srGo_stop {x s r : Sur} {k : Nat} {bad : Bool} (m : Nat) (h : ¬ (r.len ≠ 0 ∧ bad = false)) : srGo x k m bad s r = some (bad, s, r) := by
  cases m with
  | zero => rfl
  | succ m => simp only [srGo]; rw [if_neg h]
theorem srGo_step {x s r : Sur} {k m : Nat} (nr : r.len ≠ 0) (h : ¬ (s.len = 0 ∧ sCoef (fC r).1 (fC r).2 k = none)) : srGo x k (m + 1) false s r = srGo x k m (ssB6 x s r k) (ssS s r k) (ssR1 x s r k) := by
  simp only [srGo]
  rw [if_pos ⟨nr, trivial⟩, if_neg h]
theorem srGo_none {x s r : Sur} {k m : Nat} (nr : r.len ≠ 0) (h : s.len = 0 ∧ sCoef (fC r).1 (fC r).2 k = none) : srGo x k (m + 1) false s r = none := by
  simp only [srGo]
  rw [if_pos ⟨nr, trivial⟩, if_pos h]
def srR (x : Sur) (k n : Nat) : Bool × Sur × Sur := (srGo x k n false .nil x).getD (true, .nil, .nil)
theorem tm_ok {b : Bool} {v c : Int × Int} (hv : FOk v.1 v.2 ∧ v.1 ≠ 0) (hc : FOk c.1 c.2 ∧ c.1 ≠ 0) : FOk (tmV b v c).1 (tmV b v c).2 ∧ (tmV b v c).1 ≠ 0 := by
  refine ⟨frV_ok b _ _, ?_⟩
  show frN (tmB b v c) _ ≠ 0
  unfold frN
  split
  · omega
  · rename_i h
    have h1 : fracOk (muN v.1 v.2 c.1 c.2) (muD v.1 v.2 c.1 c.2) = true := by
      cases hb : fracOk (muN v.1 v.2 c.1 c.2) (muD v.1 v.2 c.1 c.2)
      · exact absurd (show tmB b v c = true by unfold tmB frB; rw [hb]; simp) h
      · rfl
    intro h0
    have h2 := mk_crossD (v.1 * c.1) (v.2 * c.2)
    have h3 : muN v.1 v.2 c.1 c.2 = mkN (v.1 * c.1) (v.2 * c.2) := rfl
    have h4 : muD v.1 v.2 c.1 c.2 = mkD (v.1 * c.1) (v.2 * c.2) := rfl
    rw [← h3, ← h4, h0, Int.zero_mul] at h2
    have h5 := (show FOk _ _ from h1).pos
    rcases Int.mul_eq_zero.1 h2.symm with h6 | h6
    · rcases Int.mul_eq_zero.1 h6 with h7 | h7
      · exact hv.2 h7
      · exact hc.2 h7
    · omega
theorem tmGo_ok {c : Int × Int} (hc : FOk c.1 c.2 ∧ c.1 ≠ 0) : ∀ (i : Nat) (b : Bool) (v : Int × Int), FOk v.1 v.2 ∧ v.1 ≠ 0 → FOk (tmGo c i b v).2.1 (tmGo c i b v).2.2 ∧ (tmGo c i b v).2.1 ≠ 0
  | 0, _, _, hv => hv
  | i + 1, b, v, hv => tmGo_ok hc i _ _ (tm_ok hv hc)
theorem kpow_good (x : Sur) : ∀ (k : Nat) (b : Bool) (out : Sur), sGood out = true → sGood (kpowGo x k b out).2 = true
  | 0, _, _, h => h
  | k + 1, b, out, h => kpow_good x k _ _ (keepS_good fun z hz => prodS_good hz)
theorem ssS_good {s r : Sur} {k : Nat} : sGood (ssS s r k) = true := by
  unfold ssS
  split
  · exact keepS_good fun z h => (told_eq h).1 ▸ (told_eq h).2.2
  · exact keepS_good fun z h => sumS_good h
theorem frac_inv {k : Nat} (h2 : 2 ≤ k) (h4 : k ≤ 4) : fracOk 1 k = true := by
  obtain rfl | rfl | rfl : k = 2 ∨ k = 3 ∨ k = 4 := by omega
  all_goals decide
theorem frac_less {k : Nat} (h2 : 2 ≤ k) (h4 : k ≤ 4) : fracOk ((k : Int) - 1) 1 = true := by
  obtain rfl | rfl | rfl : k = 2 ∨ k = 3 ∨ k = 4 := by omega
  all_goals decide
theorem frac_k {k : Nat} (h2 : 2 ≤ k) (h4 : k ≤ 4) : fracOk k 1 = true := by
  obtain rfl | rfl | rfl : k = 2 ∨ k = 3 ∨ k = 4 := by omega
  all_goals decide
end Go.Proofs.YtonlfnbjbmgegaaGreat
