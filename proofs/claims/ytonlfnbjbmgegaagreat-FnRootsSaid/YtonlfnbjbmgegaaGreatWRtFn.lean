/-
  Roots by terms: what the program computes, plain.
-/
import Derived.Test.YtonlfnbjbmgegaaGreatQF
import Derived.Test.YtonlfnbjbmgegaaGreatBL
namespace Go.Proofs.YtonlfnbjbmgegaaGreat
open Go.RowKit
set_option linter.unusedSimpArgs false
set_option linter.unusedVariables false

/- the first term -/
def rfE (x : Sur) (k : Nat) : Option Sur := scaleS (fE x) 1 k
def rfC (x : Sur) (k : Nat) : Option (Int × Int) := rootC (fC x).1 (fC x).2 k
def rfT (x : Sur) (k : Nat) : Sur := termP ((rfE x k).getD .nil) ((rfC x k).getD (0, 0)).1 ((rfC x k).getD (0, 0)).2
def rfB (x : Sur) (k : Nat) : Bool := (false || !(rfE x k).isSome) || !(rfC x k).isSome
/- a further term -/
def rnK (s : Sur) (k : Nat) : Option Sur := scaleS (fE s) ((k : Int) - 1) 1
def rnE (s r : Sur) (k : Nat) : Option Sur := subS (fE r) ((rnK s k).getD .nil)
/-- a power of a coefficient, by multiplying -/
def rnP (c : Int × Int) (b : Bool) : Nat → Bool × (Int × Int)
  | 0 => (b, (1, 1))
  | i + 1 => ((rnP c b i).1 || !(fMultiply (rnP c b i).2.1 (rnP c b i).2.2 c.1 c.2).isSome, (fMultiply (rnP c b i).2.1 (rnP c b i).2.2 c.1 c.2).getD (0, 0))
def rnB1 (s r : Sur) (k : Nat) : Bool := (false || !(rnK s k).isSome) || !(rnE s r k).isSome
def rnQ (s r : Sur) (k : Nat) : Bool × (Int × Int) := rnP (fC s) (rnB1 s r k) (k - 1)
def rnM (s r : Sur) (k : Nat) : Option (Int × Int) := fMultiply (rnQ s r k).2.1 (rnQ s r k).2.2 k 1
def rnC (s r : Sur) (k : Nat) : Option (Int × Int) := fDivide (fC r).1 (fC r).2 ((rnM s r k).getD (0, 0)).1 ((rnM s r k).getD (0, 0)).2
def rnT (s r : Sur) (k : Nat) : Sur := if s.len = 0 then .nil else termP ((rnE s r k).getD .nil) ((rnC s r k).getD (0, 0)).1 ((rnC s r k).getD (0, 0)).2
def rnB (s r : Sur) (k : Nat) : Bool := if s.len = 0 then true else ((rnQ s r k).1 || !(rnM s r k).isSome) || !(rnC s r k).isSome
/- a step -/
def rsT (x s r : Sur) (k i : Nat) : Sur := if i = 0 then rfT x k else rnT s r k
def rsB (x s r : Sur) (k i : Nat) : Bool := if i = 0 then rfB x k else rnB s r k
def rsS (x s r : Sur) (k i : Nat) : Option Sur := addS s (rsT x s r k i)
def rsB2 (x s r : Sur) (k i : Nat) : Bool := rsB x s r k i || !(rsS x s r k i).isSome
def rsP (x s r : Sur) (k i : Nat) : Bool × Sur := mpow ((rsS x s r k i).getD .nil) k (rsB2 x s r k i)
def rsR (x s r : Sur) (k i : Nat) : Option Sur := subS x (rsP x s r k i).2
def rsB3 (x s r : Sur) (k i : Nat) : Bool := (rsP x s r k i).1 || !(rsR x s r k i).isSome
def rootsGo (x : Sur) (k n : Nat) : Nat → Bool → Sur → Sur → Bool × Sur × Sur
  | 0, bad, s, r => (bad, s, r)
  | m + 1, bad, s, r => if bad = false ∧ r.len ≠ 0 then rootsGo x k n m (rsB3 x s r k (n - (m + 1))) ((rsS x s r k (n - (m + 1))).getD .nil) ((rsR x s r k (n - (m + 1))).getD .nil) else (bad, s, r)
def rootT (x : Sur) (k n : Int) : Option (Sur × Sur) :=
  if (sGood x && (inB k 2 4 && stepsB n)) = true then
    let s := rootsGo x k.toNat n.toNat n.toNat false .nil x
    if s.1 = true then none else some s.2
  else none
theorem rootsGo_stop {x s r : Sur} {k n : Nat} {bad : Bool} (m : Nat) (h : ¬ (bad = false ∧ r.len ≠ 0)) : rootsGo x k n m bad s r = (bad, s, r) := by
  cases m with
  | zero => rfl
  | succ m => simp only [rootsGo]; rw [if_neg h]
theorem rootsGo_step {x s r : Sur} {k n i : Nat} (hi : i < n) (nr : r.len ≠ 0) : rootsGo x k n (n - i) false s r = rootsGo x k n (n - (i + 1)) (rsB3 x s r k i) ((rsS x s r k i).getD .nil) ((rsR x s r k i).getD .nil) := by
  rw [show n - i = (n - (i + 1)) + 1 by omega]
  simp only [rootsGo]
  rw [if_pos ⟨trivial, nr⟩, show n - (n - (i + 1) + 1) = i by omega]
end Go.Proofs.YtonlfnbjbmgegaaGreat
