/-
  Which numbers are right: plain.
-/
import Derived.Test.YtphabopnbcgodaaWSurFn
import Derived.Test.YtphabopnbcgodaaWFrac
namespace Go.Proofs.Ytphabopnbcgodaa
open Go.RowKit
set_option linter.unusedSimpArgs false
set_option linter.unusedVariables false

def prevOk (prev : Option Sur) (e : Sur) : Bool := match prev with | none => true | some p => decide (0 < order p e)

/-- the terms are right, at a depth, behind an exponent -/
def formT (deep : Int) (prev : Option Sur) : Sur → Bool
  | .nil => true
  | .cons e n d r => fracOk n d && (decide (n ≠ 0) && (decide (deep + 1 ≤ 6) && (formT (deep + 1) none e && (prevOk prev e && formT deep (some e) r))))

/-- a number is right, at a depth, if so many nodes were met -/
def sOk (deep cnt : Int) (x : Sur) : Bool := decide (deep ≤ 6) && (decide (cnt + x.nodes ≤ 60) && formT deep none x)
/-- the terms that are left are right -/
def sRest (deep cnt : Int) (prev : Option Sur) (x : Sur) : Bool := decide (cnt + x.nodes ≤ 61) && formT deep prev x

theorem Sur.nodes_pos (x : Sur) : 1 ≤ x.nodes := by cases x <;> simp [nodes]; omega

theorem sOk_rest (deep cnt : Int) (x : Sur) : sOk deep cnt x = (decide (deep ≤ 6) && sRest deep (cnt + 1) none x) := by
  unfold sOk sRest
  rw [show decide (cnt + (x.nodes : Int) ≤ 60) = decide (cnt + 1 + (x.nodes : Int) ≤ 61) from by rw [decide_eq_decide]; omega]

theorem sRest_nil (deep cnt : Int) (prev : Option Sur) : sRest deep cnt prev .nil = decide (cnt ≤ 60) := by
  have h : ((Sur.nil).nodes : Int) = 1 := rfl
  simp only [sRest, formT, h, Bool.and_true]; rw [decide_eq_decide]; omega

theorem sRest_cons (deep cnt : Int) (prev : Option Sur) (e : Sur) (n d : Int) (r : Sur) :
    sRest deep cnt prev (.cons e n d r) = (decide (cnt + 1 ≤ 60) && (fracOk n d && (decide (n ≠ 0) && (sOk (deep + 1) (cnt + 1) e && (prevOk prev e && sRest deep (cnt + 1 + e.nodes) (some e) r))))) := by
  have h1 := e.nodes_pos
  have h2 := r.nodes_pos
  have hn : ((Sur.cons e n d r).nodes : Int) = 1 + (e.nodes : Int) + (r.nodes : Int) := by simp only [Sur.nodes]; omega
  rw [Bool.eq_iff_iff]
  simp only [sRest, sOk, formT, hn, Bool.and_eq_true, decide_eq_true_eq]
  constructor
  · rintro ⟨a, b, c, f, g, i, j⟩
    exact ⟨by omega, b, c, ⟨f, by omega, g⟩, i, by omega, j⟩
  · rintro ⟨a, b, c, ⟨f, g, g'⟩, i, j, j'⟩
    exact ⟨by omega, b, c, f, g', i, j'⟩

theorem sOk_nodes {deep cnt : Int} {x : Sur} (h : sOk deep cnt x = true) : cnt + x.nodes ≤ 60 := by
  simp only [sOk, Bool.and_eq_true, decide_eq_true_eq] at h
  exact h.2.1
theorem Sur.nodes_app : ∀ (x y : Sur), (x.app y).nodes + 1 = x.nodes + y.nodes
  | .nil, y => by simp only [Sur.app, Sur.nodes]; omega
  | .cons e n d r, y => by have := Sur.nodes_app r y; simp only [Sur.app, Sur.nodes]; omega

def FOk (n d : Int) : Prop := fracOk n d = true
theorem FOk.bd {n d : Int} (h : FOk n d) : Bd n d := by
  have := fracOk_iff.1 h
  unfold Bd; omega

theorem formT_all : ∀ {x : Sur} {deep : Int} {prev : Option Sur}, formT deep prev x = true → x.All FOk
  | .nil, _, _, _ => trivial
  | .cons e n d r, deep, prev, h => by
    simp only [formT, Bool.and_eq_true] at h
    exact ⟨formT_all h.2.2.2.1, h.1, formT_all h.2.2.2.2.2⟩
theorem sOk_all {x : Sur} {deep cnt : Int} (h : sOk deep cnt x = true) : x.All FOk := by
  simp only [sOk, Bool.and_eq_true] at h
  exact formT_all h.2.2
theorem All.bd {x : Sur} (h : x.All FOk) : x.All Bd := Sur.All.mono (fun _ _ h => h.bd) x h

/-- the exponent before place k, right in its numbers -/
def PrevAt (x : Sur) (k : Nat) (prev : Option Sur) : Prop :=
  (k = 0 ∧ prev = none) ∨ ∃ k' e n d, k = k' + 1 ∧ x.drop k' = .cons e n d (x.drop k) ∧ prev = some e ∧ e.All Bd

end Go.Proofs.Ytphabopnbcgodaa
