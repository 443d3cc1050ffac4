/-
  Walks: the parts of a number.
  Walks: PartsOf, the program's and the reference's.
  Walks: IsOmnific, FromFraction, CompareSurreals.
  The laws' side: a whole number as a surreal number.
-/
import Derived.Test.YtphabopnbcgodaaGreatBG
import Derived.Test.YtphabopnbcgodaaGreatSParts
import Derived.Test.YtphabopnbcgodaaGreatBD
import Derived.Test.YtphabopnbcgodaaGreatWOrd
import Derived.Deep.Cut
namespace Go.Proofs.YtphabopnbcgodaaGreat
open Go.RowKit
set_option linter.unusedSimpArgs false
set_option linter.unusedVariables false

/-- two rows that are not the same -/
class NeOw (v v' : Value) : Prop where h : ∀ g, v.ownBlock = some g → v'.ownBlock ≠ some g
instance XDis.ne {v v' : Value} [a : NeOw v v'] : XDis (XOw v') v := ⟨fun g h k => a.h g h k⟩
theorem NeOw.symm {v v' : Value} (a : NeOw v v') : NeOw v' v := ⟨fun g h k => a.h g k h⟩
theorem NeOw.nil (v : Value) : NeOw (.slice none 0 0) v := ⟨fun g h => by cases h⟩
theorem NeOw.step {v v' : Value} {lo W : World} {g n cap : Nat} [a : NeOw v v'] [r : OwR v' lo W] (hat : v.ownBlock = some g ∨ g = W.heap.size) : NeOw (.slice (some ⟨g, 0, none⟩) n cap) v' := ⟨fun k hk hv => by
  have hk : g = k := by simpa [Value.ownBlock] using hk
  subst hk
  rcases hat with h | h
  · exact a.h g h hv
  · have := (r.h g hv).2; omega⟩
theorem OwR.mono {v : Value} {lo W W' : World} [r : OwR v lo W] [b : LeB W W'] : OwR v lo W' := ⟨fun g hg => by have := r.h g hg; have := b.h; omega⟩
theorem xdis_lowP {X : Nat → Prop} {v : Value} {w lo hi : World} (hX : ∀ k, X k → k < w.heap.size) [a : OwR v lo hi] [b : LeB w lo] : XDis X v := ⟨fun g hg h => by have := hX g h; have := (a.h g hg).1; have := b.h; omega⟩

attribute [local go_sem high] has_cell has_frozen
end Go.Proofs.YtphabopnbcgodaaGreat

namespace Go.Proofs.YtphabopnbcgodaaGreat
open Go.RowKit
set_option linter.unusedSimpArgs false
set_option linter.unusedVariables false

theorem highP_nodes : ∀ (x : Sur), (highP x).nodes ≤ x.nodes
  | .nil => Nat.le_refl _
  | .cons e n d r => by
    have := highP_nodes r
    simp only [highP]
    split <;> simp only [Sur.nodes] <;> omega
theorem lowP_nodes : ∀ (x : Sur), (lowP x).nodes ≤ x.nodes
  | .nil => Nat.le_refl _
  | .cons e n d r => by
    have := lowP_nodes r
    simp only [lowP]
    split <;> simp only [Sur.nodes] <;> omega
def ptH (x : Sur) : Sur := if sGood x = true then highP x else .nil
def ptL (x : Sur) : Sur := if sGood x = true then lowP x else .nil
def ptR (x : Sur) : Int × Int := if sGood x = true then realP (0, 1) x else (0, 0)
/-- the three parts, own ones, and whether there are any -/
def RetPts (w : World) (x : Sur) (e : Ending) (w' : World) : Prop :=
  ∃ A c A' c', e = .returned (.tuple #[.agg #[.slice A (ptH x).len c], .agg #[.int .i64 (ptR x).1, .int .i64 (ptR x).2], .agg #[.slice A' (ptL x).len c'], .bool (sGood x)]) ∧ SFresh w.heap.size w' (ptH x) A c ∧ SFresh w.heap.size w' (ptL x) A' c' ∧ Below w.heap.size w w'

attribute [local go_sem high] has_cell has_frozen
end Go.Proofs.YtphabopnbcgodaaGreat

namespace Go.Proofs.YtphabopnbcgodaaGreat
open Go.RowKit
set_option linter.unusedSimpArgs false
set_option linter.unusedVariables false

/-- IsOmnific's answer -/
def omnB (x : Sur) : Bool := sGood x && (decide ((realP (0, 1) x).2 = 1) && decide ((lowP x).len = 0))
/-- FromFraction -/
def fromS (n d : Int) : Option Sur := told (termP .nil n d) (fracOk n d)
/-- CompareSurreals' answer -/
def cmpS (x y : Sur) : Int := if (sGood x && sGood y) = true then order x y else 0
def RetOmn (w : World) (x : Sur) (e : Ending) (w' : World) : Prop := e = .returned (.tuple #[.bool (omnB x), .bool (sGood x)]) ∧ Below w.heap.size w w'
def RetCmp (w : World) (x y : Sur) (e : Ending) (w' : World) : Prop := e = .returned (.tuple #[.int .i64 (cmpS x y), .bool (sGood x && sGood y)]) ∧ Below w.heap.size w w'

attribute [local go_sem high] has_cell has_frozen
set_option maxHeartbeats 1600000 in
set_option maxRecDepth 100000 in
theorem FromFraction_any (n d : Int) (w : World) (in_ : I64 n) (id_ : I64 d) :
    Calls Tryz.prog 74 #[.agg #[.int .i64 n, .int .i64 d]] w (RetFreshB w (fromS n d)) := by
  go_enter Tryz.func74, Tryz.ntmps74
  go_wp2_with (first | ((with_reducible refine at_dst (N := 1) rfl ?_); refine ev_box (cs := #[.int .i64 n, .int .i64 d]) (t := 28) rfl ?hr1 ?_; (case hr1 => first | (go_simp; done) | (go_simp; rfl)); intro g1 v1 _ _ _ _) | ((with_reducible refine at_dst (N := 2) rfl ?_); refine ev_box (cs := #[.slice none 0 0]) (t := 26) rfl ?hr2 ?_; (case hr2 => first | (go_simp; done) | (go_simp; rfl)); intro g2 v2 _ _ _ _))
  refine wp_region_held_drew (S := (fun w' => w'.cell? ⟨g1, 0, none⟩ = some (.int .i64 n) ∧ w'.cell? ⟨g1, 1, none⟩ = some (.int .i64 d))) (by kernel_rfl) ?hSn1_ (fun hHeld => ?hRn1_)
  case hSn1_ => (exact has2)
  refine wpAnyH_take (i := 0) (oi := _) (v := ?vn1_1) rfl (by kernel_rfl) (by kernel_rfl) (by kernel_rfl) (fun _ _ _ h => h) (Or.inl ⟨by rfl, ?hyn1_1⟩) (by assumption) ?hRn1_1
  case hyn1_1 => (intro w hSw; (try dsimp only at hSw); go_simp; (try with_reducible rfl))
  try simp only [Act.put, List.getElem_toArray, List.getElem_cons_zero, List.getElem_cons_succ, List.setIfInBounds_toArray, List.set_cons_zero, List.set_cons_succ]
  refine wpAnyH_take (i := 2) (oi := _) (v := ?vn1_2) rfl (by kernel_rfl) (by kernel_rfl) (by kernel_rfl) (fun _ _ _ h => h) (Or.inl ⟨by rfl, ?hyn1_2⟩) (by assumption) ?hRn1_2
  case hyn1_2 => (intro w hSw; (try dsimp only at hSw); go_simp; (try with_reducible rfl))
  try simp only [Act.put, List.getElem_toArray, List.getElem_cons_zero, List.getElem_cons_succ, List.setIfInBounds_toArray, List.set_cons_zero, List.set_cons_succ]
  refine wpAnyH_ready (rs := [1]) (by kernel_rfl) (by simp) ?_
  refine AllReadyH.cons (o := _) rfl (fun K hK => ?_) AllReadyH.nil
  go_simp
  ((go_at_call 51; refine (real_any n d XN _ (xlt XN _) in_ id_).mono ?_; rintro e5 w5 ⟨A5, c5, rfl, hs, hb⟩; haveI : Bel _ w5 := ⟨hb⟩; haveI := Tr.arg hs; clear hs hb))
  go_wp2_with fail
  refine hK.out _ _ ?hSn1_3 (fun hHeld => ?hRn1_3)
  case hSn1_3 => ((try dsimp only); exact has2)
  clear hK K
  try simp only [Act.put, List.getElem_toArray, List.getElem_cons_zero, List.getElem_cons_succ, List.setIfInBounds_toArray, List.set_cons_zero, List.set_cons_succ]
  refine wpAnyH_ready (rs := [3]) (by kernel_rfl) (by simp) ?_
  refine AllReadyH.cons (o := _) rfl (fun K hK => ?_) AllReadyH.nil
  go_simp
  ((go_at_call 48; refine (IsFraction_any _ _ _).mono ?_; rintro e7 w7 ⟨rfl, hb⟩; haveI : Bel _ w7 := ⟨hb⟩; clear hb))
  go_wp2_with fail
  refine hK.out _ _ ?hSn1_4 (fun hHeld => ?hRn1_4)
  case hSn1_4 => ((try dsimp only); exact has2)
  clear hK K
  try simp only [Act.put, List.getElem_toArray, List.getElem_cons_zero, List.getElem_cons_succ, List.setIfInBounds_toArray, List.set_cons_zero, List.set_cons_succ]
  refine wpAnyH_ready (rs := [4]) (by kernel_rfl) (by simp) ?_
  refine AllReadyH.cons (o := _) rfl (fun K hK => ?_) AllReadyH.nil
  go_simp
  ((go_at_call 81; refine (toldSurreal_any (termP .nil n d) (fracOk n d) _ A5 c5 _ (tr _ A5)).mono ?_; rintro e8 w8 ⟨A8, c8, rfl, hf, hb⟩; haveI : Bel _ w8 := ⟨hb⟩; haveI := Fs.of hf; clear hf hb))
  go_wp2_with fail
  refine hK.out _ _ ?hSn1_5 (fun hHeld => ?hRn1_5)
  case hSn1_5 => ((try dsimp only); exact has2)
  clear hK K
  try simp only [Act.put, List.getElem_toArray, List.getElem_cons_zero, List.getElem_cons_succ, List.setIfInBounds_toArray, List.set_cons_zero, List.set_cons_succ]
  refine wpAnyH_take (i := 5) (oi := _) (v := ?vn1_6) rfl (by kernel_rfl) (by kernel_rfl) (by kernel_rfl) (fun _ _ _ h => h) (Or.inl ⟨by rfl, ?hyn1_6⟩) (by assumption) ?hRn1_6
  case hyn1_6 => (intro w hSw; (try dsimp only at hSw); go_simp; (try with_reducible rfl))
  try simp only [Act.put, List.getElem_toArray, List.getElem_cons_zero, List.getElem_cons_succ, List.setIfInBounds_toArray, List.set_cons_zero, List.set_cons_succ]
  refine wpAnyH_take (i := 6) (oi := _) (v := ?vn1_7) rfl (by kernel_rfl) (by kernel_rfl) (by kernel_rfl) (fun _ _ _ h => h) (Or.inl ⟨by rfl, ?hyn1_7⟩) (by assumption) ?hRn1_7
  case hyn1_7 => (intro w hSw; (try dsimp only at hSw); go_simp; (try with_reducible rfl))
  try simp only [Act.put, List.getElem_toArray, List.getElem_cons_zero, List.getElem_cons_succ, List.setIfInBounds_toArray, List.set_cons_zero, List.set_cons_succ]
  refine wpAnyH_ready (rs := [7]) (by kernel_rfl) (by simp) ?_
  refine AllReadyH.cons (o := _) rfl (fun K hK => ?_) AllReadyH.nil
  go_simp
  refine hK.out _ _ ?hSn1_8 (fun hHeld => ?hRn1_8)
  case hSn1_8 => ((try dsimp only); exact has2)
  clear hK K
  try simp only [Act.put, List.getElem_toArray, List.getElem_cons_zero, List.getElem_cons_succ, List.setIfInBounds_toArray, List.set_cons_zero, List.set_cons_succ]
  refine wpAnyH_take (i := 8) (oi := _) (v := ?vn1_9) rfl (by kernel_rfl) (by kernel_rfl) (by kernel_rfl) (fun _ _ _ h => h) (Or.inl ⟨by rfl, ?hyn1_9⟩) (by assumption) ?hRn1_9
  case hyn1_9 => (intro w hSw; (try dsimp only at hSw); go_simp; (try with_reducible rfl))
  try simp only [Act.put, List.getElem_toArray, List.getElem_cons_zero, List.getElem_cons_succ, List.setIfInBounds_toArray, List.set_cons_zero, List.set_cons_succ]
  refine wpAnyH_done (by kernel_rfl) ?_ _
  go_wp2
  refine bodyPost_ret (v := .tuple #[.agg #[.slice A8 ((told (termP .nil n d) (fracOk n d)).getD .nil).len c8], .bool (told (termP .nil n d) (fracOk n d)).isSome]) (by simp [results, Tryz.results74, go_sem]) rfl ?_
  exact ⟨A8, c8, rfl, fs _ A8 w, ext _ _⟩

end Go.Proofs.YtphabopnbcgodaaGreat

namespace Go.Proofs.YtphabopnbcgodaaGreat
open Go.RowKit
set_option linter.unusedSimpArgs false
set_option linter.unusedVariables false

attribute [local go_sem high] has_cell has_frozen
set_option maxHeartbeats 800000 in
theorem qWhole_any (n : Int) (w : World) (in_ : I64 n) :
    Calls Tryz.prog 13 #[.int .i64 n] w (RetFresh w ((fromS n 1).getD .nil)) := by
  go_enter Tryz.func13, Tryz.ntmps13
  go_wp2_with (first | ((with_reducible refine at_dst (N := 2) rfl ?_); refine ev_box (cs := #[.slice none 0 0]) (t := 26) rfl ?hr2 ?_; (case hr2 => first | (go_simp; done) | (go_simp; rfl)); intro g2 v2 _ _ _ _) | (go_at_call 74; refine (FromFraction_any n 1 _ in_ (by unfold I64; omega)).mono ?_; rintro e8 w8 ⟨A8, c8, rfl, hf, hb⟩; haveI : Bel _ w8 := ⟨hb⟩; haveI := Fs.of hf; clear hf hb) | ((with_reducible refine at_dst (N := 3) rfl ?_); refine ev_box (cs := #[.slice none 0 0]) (t := 26) rfl ?hr3 ?_; (case hr3 => first | (go_simp; done) | (go_simp; rfl)); intro g3 v3 _ _ _ _))
  refine bodyPost_ret (v := .agg #[.slice A8 ((fromS n 1).getD .nil).len c8]) (by simp [results, Tryz.results13, go_sem]) rfl ?_
  exact ⟨A8, c8, rfl, fs _ A8 w, ext w _⟩
theorem fromS_one : fromS 1 1 = some (.cons .nil 1 1 .nil) := by
  unfold fromS told
  rw [if_pos (by decide)]
  simp [termP]
end Go.Proofs.YtphabopnbcgodaaGreat
