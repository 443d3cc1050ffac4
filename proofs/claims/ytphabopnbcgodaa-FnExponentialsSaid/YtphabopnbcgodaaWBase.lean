/-
  Plain facts, no program in sight: fractions as pairs of whole numbers; surreal numbers as lists of terms.
-/
import Derived.WalkKit
namespace Go.Proofs.Ytphabopnbcgodaa
open Go.RowKit
set_option linter.unusedSimpArgs false
set_option linter.unusedVariables false

/-- lo ≤ a ≤ hi -/
def inB (a lo hi : Int) : Bool := decide (lo ≤ a ∧ a ≤ hi)
theorem inB_true {a lo hi : Int} : inB a lo hi = true ↔ lo ≤ a ∧ a ≤ hi := by simp [inB]
theorem inB_false {a lo hi : Int} : inB a lo hi = false ↔ ¬ (lo ≤ a ∧ a ≤ hi) := by simp [inB]

/-- a fraction: lowest terms, bounded -/
def fracOk (n d : Int) : Bool := inB d 1 1000000 && (inB n (-1000000) 1000000 && decide ((Int.gcd n d : Int) = 1))

/-- whole numbers that fit -/
def I64 (n : Int) : Prop := -9223372036854775808 ≤ n ∧ n ≤ 9223372036854775807

def cmpI (a b : Int) : Int := if a < b then -1 else if b < a then 1 else 0

/-- lowest terms of a quotient, the divisor not 0 -/
def gsign (n d : Int) : Int := if d < 0 then -(Int.gcd n d : Int) else (Int.gcd n d : Int)
def mkN (n d : Int) : Int := n.tdiv (gsign n d)
def mkD (n d : Int) : Int := d.tdiv (gsign n d)

/-- the quotient as a fraction -/
def made (n d : Int) : Option (Int × Int) := if d = 0 then none else if fracOk (mkN n d) (mkD n d) = true then some (mkN n d, mkD n d) else none

def sizeI (n : Int) : Int := if n < -n then -n else n

end Go.Proofs.Ytphabopnbcgodaa
