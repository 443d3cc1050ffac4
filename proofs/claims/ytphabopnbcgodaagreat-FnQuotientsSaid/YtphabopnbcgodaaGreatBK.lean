/-
  Walks, the reference's side: small numbers, what a number is more than 1.
  LogTerms: what the reference computes is what the program computes: plain.
-/
import Derived.Test.YtphabopnbcgodaaGreatBJ
import Derived.Test.YtphabopnbcgodaaGreatSParts
import Derived.Deep.DeepCutAuto
import Derived.Deep.RegionHeld3
import Derived.Test.YtphabopnbcgodaaGreatWLog
namespace Go.Proofs.YtphabopnbcgodaaGreat
open Go.RowKit
set_option linter.unusedSimpArgs false
set_option linter.unusedVariables false

def smallP (x : Sur) : Bool := (((highP x).len : Int) == 0) && ((realP (0, 1) x).1 == 0)
theorem low_parts : ∀ {r : Sur} (a : Int × Int), Lt .nil r → highP r = .nil ∧ realP a r = a
  | .nil, _, _ => ⟨rfl, rfl⟩
  | .cons e n d r, a, h => by
    have q : order e .nil = -1 := by rw [order_neg]; have := h.1; omega
    simp only [highP, realP]
    rw [if_neg (by omega), if_neg (by omega)]
    exact low_parts a h.2
theorem smallP_smallS {x : Sur} (hx : x.All GOk) (dx : Dec x) : smallP x = smallS x := by
  cases x with
  | nil => rfl
  | cons e n d r =>
    unfold smallP smallS
    simp only [highP, realP]
    rcases order_range e .nil with q | q | q
    · have hl := low_parts (r := r) (0, 1) (Lt.tr (e := .nil) (e' := e) trivial hx.1 (by rw [order_neg]; omega) hx.2.2 dx.1)
      rw [if_neg (by omega), if_neg (by omega), hl.1, hl.2, q]; rfl
    · have he := order_eq e .nil hx.1 trivial q
      subst he
      have hl := low_parts (r := r) (n, d) dx.1
      rw [if_neg (by omega), if_pos q, hl.1, hl.2, q]
      have hn := hx.2.1.2
      simp [hn]
    · rw [if_pos q, q]
      simp [Sur.len]
      intro h; omega

set_option maxHeartbeats 800000 in
theorem seSmall_any (x : Sur) (X : Nat → Prop) (A : Option Addr) (c : Nat) (w : World) (sx : SSl X w x A c) (hl : x.len ≤ 1099511627776) :
    Calls Tryz.prog 131 #[.agg #[.slice A x.len c]] w fun e w' => e = .returned (.bool (smallP x)) ∧ Below w.heap.size w w' := by
  have sx := sx.more (Y := fun _ => False) (fun _ h => h.elim)
  have k0 := (Blk.new w 26 #[.slice A x.len c])
  have hB0 : Below w.heap.size w (w.alloc (.cells #[.slice A x.len c] 26)) := by go_grown
  go_enter Tryz.func131, Tryz.ntmps131
  go_wp2_with fail
  refine (suParts_any x (fun _ => False) _ _ _ (fun _ h => h.elim) (sx.below hB0) hl).mono ?_
  rintro e1 w1 ⟨A1, c1, A2, c2, rfl, s1, s2, hb1⟩
  have hB1 := Below.call hB0 (by go_size) hb1
  have hs1 := hB1.size
  have k4 := (Blk.new' (g := w1.heap.size + 1) (w1.alloc (.cells #[.slice A1 (highP x).len c1] 26)) 28 #[.int .i64 (realP (0, 1) x).1, .int .i64 (realP (0, 1) x).2] (by simp)).alloc (.cells #[.slice A2 (lowP x).len c2] 26)
  go_wp2_with fail
  refine (suZero_any (highP x) A1 c1 _).mono ?_
  rintro e2 w2 ⟨rfl, hb2⟩
  have hB2 : Below w.heap.size w w2 := hB1.trans (Below.call (w := w1) (by go_grown) (by go_size) hb2)
  obtain ⟨q0, _, _, _⟩ := (k4.call hb2).c2
  cases h1 : (((highP x).len : Int) == 0)
  · have H := Lib.hid (show smallP x = false by unfold smallP; rw [h1]; rfl)
    clear h1
    go_wp2
    go_ret
    exact ⟨by rw [H.out]; rfl, hB2⟩
  · have H := Lib.hid (show smallP x = ((realP (0, 1) x).1 == 0) by unfold smallP; rw [h1]; rfl)
    clear h1
    go_wp2
    go_ret
    exact ⟨by rw [H.out]; rfl, hB2⟩

/-- a number less 1 -/
def mOneS : Sur := termP .nil (-1) 1
def nearS (x : Sur) : Option Sur := sumS x mOneS
def nearOk (x : Sur) : Bool := (nearS x).isSome && smallP ((nearS x).getD .nil)

set_option maxHeartbeats 1600000 in
set_option maxRecDepth 100000 in
theorem seNear_any (x : Sur) (X : Nat → Prop) (A : Option Addr) (c : Nat) (w : World) (sx : SSl X w x A c) (gx : sGood x = true) :
    Calls Tryz.prog 64 #[.agg #[.slice A x.len c]] w fun e w' => ∃ A' c', e = .returned (.tuple #[.agg #[.slice A' ((nearS x).getD .nil).len c'], .bool (nearOk x)]) ∧ SFresh w.heap.size w' ((nearS x).getD .nil) A' c' ∧ Below w.heap.size w w' := by
  have sx := sx.more (Y := fun _ => False) (fun _ h => h.elim)
  have hgx := sGood_len gx
  have hg1 : mOneS.All FOk ∧ mOneS.len ≤ 1 := termP_all (z := .nil) trivial (show fracOk (-1) 1 = true by decide)
  have hzl : ((nearS x).getD .nil).len ≤ 60 := by
    rcases h : nearS x with _ | z
    · simp [Sur.len]
    · exact (sGood_len (sumS_good h)).1
  clear gx
  have k0 := ((Blk.new w 26 #[.slice A x.len c]).alloc (.cells #[.slice none 0 0] 26))
  have k1 := (Blk.new' (g := w.heap.size + 1) (w.alloc (.cells #[.slice A x.len c] 26)) 26 #[.slice none 0 0] (by simp))
  have hB0 : Below w.heap.size w ((w.alloc (.cells #[.slice A x.len c] 26)).alloc (.cells #[.slice none 0 0] 26)) := by go_grown
  go_enter Tryz.func64, Tryz.ntmps64
  have hne : w.heap.size + 1 + 1 ≠ w.heap.size := by omega
  go_upto_region 1 with fail
  go_cut [4, 5] (fun s4 s5 wx => s5 = .bool (nearS x).isSome ∧ ∃ g A3 c3, s4 = .pointer (some ⟨g, 0, none⟩) ∧ Blk wx g 26 #[.slice A3 ((nearS x).getD .nil).len c3] ∧ w.heap.size + 1 < g ∧ SFresh (w.heap.size + 1 + 1) wx ((nearS x).getD .nil) A3 c3 ∧ Blk wx (w.heap.size + 1) 26 #[.slice none 0 0] ∧
    Below w.heap.size w wx)
  case first =>
    go_region_held3 (fun w' => w'.cell? ⟨w.heap.size, 0, none⟩ = some (.slice A x.len c)) (go_keep)
      (first | (go_at_call 42; refine (suInt_any (-1) (fun _ => False) _ (fun _ h => h.elim) ⟨by decide, by decide⟩).mono ?_; rintro e1 w1 ⟨A1, c1, rfl, hs1, hb1⟩; have l0 := Blk.thru k0 (by go_grown) hb1; have l1 := Blk.thru k1 (by go_grown) hb1; have hB1 : Below w.heap.size w w1 := (hB0.trans (Below.call (w := _) (by go_grown) (by go_size) hb1)); obtain ⟨a0, _⟩ := l0.c1; have ne1 := World.new_ne w1 _ a0; (try have va := Blk.call (w := (((w.alloc (.cells #[.slice A x.len c] 26)).alloc (.cells #[.slice none 0 0] 26)).alloc (.cells #[.slice none 0 0] 26)).drew) (Blk.new' (g := w.heap.size + 1 + 1) ((w.alloc (.cells #[.slice A x.len c] 26)).alloc (.cells #[.slice none 0 0] 26)) 26 #[.slice none 0 0] (by simp)) hb1); (try obtain ⟨vx1, vx2⟩ := va.c1)) | (go_at_call 130; refine (suSum_any x mOneS _ _ _ _ _ _ _ (sx.below (by first | exact hB1 | exact hB1.alloc hB1.size _)) (hs1.below (by go_grown)) hgx.2.2 hg1.1 (by omega)).mono ?_; rintro e2 w2 ⟨A2, c2, rfl, hf2, hb2⟩; have l20 := Blk.thru l0 (by go_grown) hb2; have l21 := Blk.thru l1 (by go_grown) hb2; have hB2 : Below w.heap.size w w2 := (Below.call (by first | exact hB1 | exact hB1.alloc hB1.size _) (by have := hB1.size; first | assumption | (simp only [World.size_alloc]; omega)) hb2); obtain ⟨b0, _⟩ := l20.c1; have ne2 := World.new_ne w2 _ b0; (try have vb := va.call hb2); (try have vb := Blk.call (w := (w1.alloc (.cells #[.slice none 0 0] 26))) (Blk.new w1 26 #[.slice none 0 0]) hb2); (try obtain ⟨vx3, vx4⟩ := vb.c1)))
    all_goals
      have hN : sumS x mOneS = nearS x := rfl
      rw [hN] at hf2
      go_wp2_with fail
      go_meet
      have y1 := l1.lt
      have y2 := l21.lt
      (try have y4 := vb.lt)
      (try have y5 := va.lt)
      first
        | exact ⟨rfl, _, A2, c2, rfl, Blk.new _ _ _, by omega, (hf2.mono (by omega)).below (by go_grown), l21.alloc _, hB2.alloc (by omega) _⟩
        | exact ⟨rfl, _, A2, c2, rfl, vb.set_ 0 _, by omega, (hf2.setCell (by simp only [World.size_alloc]; omega) _).mono (by simp only [World.size_alloc]; omega), l21.far (by dsimp only; omega) _, hB2.setCell (by dsimp only; omega) _⟩
        | exact ⟨rfl, _, A2, c2, rfl, vb.set_ 0 _, by omega, (hf2.setCell (by dsimp only; omega) _).mono (by omega), l21.far (by dsimp only; omega) _, hB2.setCell (by dsimp only; omega) _⟩
  case rest =>
    obtain ⟨rfl, g, A3, c3, rfl, kg, hg, hf3, k1', hQ⟩ := hcut
    clear k0 k1 hB0
    obtain ⟨g1, _⟩ := kg.c1
    obtain ⟨p1, pf1⟩ := k1'.c1
    have y1 := k1'.lt
    have yg := kg.lt
    have hne1 : ¬ g = w.heap.size + 1 := by omega
    have hne2 : ¬ w.heap.size + 1 = g := by omega
    cases ho : (nearS x).isSome
    · have HO := Lib.hid (show nearOk x = false by unfold nearOk; rw [ho]; rfl)
      clear ho
      go_wp2_with fail
      refine wp_region_held_drew (S := (fun w' => w'.cell? ⟨g, 0, none⟩ = some (.slice A3 ((nearS x).getD .nil).len c3))) (by kernel_rfl) ?hSn1_ (fun hHeld => ?hRn1_)
      case hSn1_ => (go_keep)
      refine wpAnyH_take (i := 0) (oi := _) (v := ?vn1_0) rfl (by kernel_rfl) (by kernel_rfl) (by kernel_rfl) (fun _ _ _ h => h) (Or.inl ⟨by rfl, ?hyn1_0⟩) (by assumption) ?hRn1_0
      case hyn1_0 => (intro w hSw; (try dsimp only at hSw); go_simp; (try with_reducible rfl))
      try simp only [Act.put, List.getElem_toArray, List.getElem_cons_zero, List.getElem_cons_succ, List.setIfInBounds_toArray, List.set_cons_zero, List.set_cons_succ]
      refine wpAnyH_take (i := 1) (oi := _) (v := ?vn1_1) rfl (by kernel_rfl) (by kernel_rfl) (by kernel_rfl) (fun _ _ _ h => h) (Or.inl ⟨by rfl, ?hyn1_1⟩) (by assumption) ?hRn1_1
      case hyn1_1 => (intro w hSw; (try dsimp only at hSw); go_simp; (try with_reducible rfl))
      try simp only [Act.put, List.getElem_toArray, List.getElem_cons_zero, List.getElem_cons_succ, List.setIfInBounds_toArray, List.set_cons_zero, List.set_cons_succ]
      refine wpAnyH_take (i := 2) (oi := _) (v := ?vn1_2) rfl (by kernel_rfl) (by kernel_rfl) (by kernel_rfl) (fun _ _ _ h => h) (Or.inl ⟨by rfl, ?hyn1_2⟩) (by assumption) ?hRn1_2
      case hyn1_2 => (intro w hSw; (try dsimp only at hSw); go_simp; (try with_reducible rfl))
      try simp only [Act.put, List.getElem_toArray, List.getElem_cons_zero, List.getElem_cons_succ, List.setIfInBounds_toArray, List.set_cons_zero, List.set_cons_succ]
      refine wpAnyH_take (i := 3) (oi := _) (v := undef) rfl (by kernel_rfl) (by kernel_rfl) (by kernel_rfl) (fun _ _ _ h => h) (Or.inr ⟨by rfl, rfl⟩) (by assumption) ?_
      try simp only [Act.put, List.getElem_toArray, List.getElem_cons_zero, List.getElem_cons_succ, List.setIfInBounds_toArray, List.set_cons_zero, List.set_cons_succ]
      refine wpAnyH_take (i := 4) (oi := _) (v := undef) rfl (by kernel_rfl) (by kernel_rfl) (by kernel_rfl) (fun _ _ _ h => h) (Or.inr ⟨by rfl, rfl⟩) (by assumption) ?_
      try simp only [Act.put, List.getElem_toArray, List.getElem_cons_zero, List.getElem_cons_succ, List.setIfInBounds_toArray, List.set_cons_zero, List.set_cons_succ]
      refine wpAnyH_take (i := 5) (oi := _) (v := ?vn1_5) rfl (by kernel_rfl) (by kernel_rfl) (by kernel_rfl) (fun _ _ _ h => h) (Or.inl ⟨by rfl, ?hyn1_5⟩) (by assumption) ?hRn1_5
      case hyn1_5 => (intro w hSw; (try dsimp only at hSw); go_simp; (try with_reducible rfl))
      try simp only [Act.put, List.getElem_toArray, List.getElem_cons_zero, List.getElem_cons_succ, List.setIfInBounds_toArray, List.set_cons_zero, List.set_cons_succ]
      refine wpAnyH_ready (rs := [6]) (by kernel_rfl) (by simp) ?_
      refine AllReadyH.cons (o := _) rfl (fun K hK => ?_) AllReadyH.nil
      go_simp
      refine hK.out _ _ ?hSn1_6 (fun hHeld => ?hRn1_6)
      case hSn1_6 => ((try dsimp only); go_keep)
      clear hK K
      try simp only [Act.put, List.getElem_toArray, List.getElem_cons_zero, List.getElem_cons_succ, List.setIfInBounds_toArray, List.set_cons_zero, List.set_cons_succ]
      refine wpAnyH_take (i := 7) (oi := _) (v := ?vn1_7) rfl (by kernel_rfl) (by kernel_rfl) (by kernel_rfl) (fun _ _ _ h => h) (Or.inl ⟨by rfl, ?hyn1_7⟩) (by assumption) ?hRn1_7
      case hyn1_7 => (intro w hSw; (try dsimp only at hSw); go_simp; (try with_reducible rfl))
      try simp only [Act.put, List.getElem_toArray, List.getElem_cons_zero, List.getElem_cons_succ, List.setIfInBounds_toArray, List.set_cons_zero, List.set_cons_succ]
      refine wpAnyH_done (by kernel_rfl) ?_ _
      go_wp2
      refine bodyPost_ret (v := .tuple #[.agg #[.slice A3 ((nearS x).getD .nil).len c3], .bool false]) (by simp [results, Tryz.results64, go_sem, p1]) rfl ?_
      exact ⟨A3, c3, by rw [HO.out], (((hf3.setCell (p := ⟨w.heap.size + 1, 0, none⟩) (by simp) _).below (by go_grown)).mono (by omega)), by go_grown⟩
    · have HO := Lib.hid (show nearOk x = smallP ((nearS x).getD .nil) by unfold nearOk; rw [ho]; rfl)
      clear ho
      go_wp2_with fail
      refine wp_region_held_drew (S := (fun w' => w'.cell? ⟨g, 0, none⟩ = some (.slice A3 ((nearS x).getD .nil).len c3))) (by kernel_rfl) ?hSn2_ (fun hHeld => ?hRn2_)
      case hSn2_ => (go_keep)
      refine wpAnyH_take (i := 0) (oi := _) (v := ?vn2_0) rfl (by kernel_rfl) (by kernel_rfl) (by kernel_rfl) (fun _ _ _ h => h) (Or.inl ⟨by rfl, ?hyn2_0⟩) (by assumption) ?hRn2_0
      case hyn2_0 => (intro w hSw; (try dsimp only at hSw); go_simp; (try with_reducible rfl))
      try simp only [Act.put, List.getElem_toArray, List.getElem_cons_zero, List.getElem_cons_succ, List.setIfInBounds_toArray, List.set_cons_zero, List.set_cons_succ]
      refine wpAnyH_take (i := 1) (oi := _) (v := ?vn2_1) rfl (by kernel_rfl) (by kernel_rfl) (by kernel_rfl) (fun _ _ _ h => h) (Or.inl ⟨by rfl, ?hyn2_1⟩) (by assumption) ?hRn2_1
      case hyn2_1 => (intro w hSw; (try dsimp only at hSw); go_simp; (try with_reducible rfl))
      try simp only [Act.put, List.getElem_toArray, List.getElem_cons_zero, List.getElem_cons_succ, List.setIfInBounds_toArray, List.set_cons_zero, List.set_cons_succ]
      refine wpAnyH_take (i := 2) (oi := _) (v := ?vn2_2) rfl (by kernel_rfl) (by kernel_rfl) (by kernel_rfl) (fun _ _ _ h => h) (Or.inl ⟨by rfl, ?hyn2_2⟩) (by assumption) ?hRn2_2
      case hyn2_2 => (intro w hSw; (try dsimp only at hSw); go_simp; (try with_reducible rfl))
      try simp only [Act.put, List.getElem_toArray, List.getElem_cons_zero, List.getElem_cons_succ, List.setIfInBounds_toArray, List.set_cons_zero, List.set_cons_succ]
      refine wpAnyH_take (i := 3) (oi := _) (v := ?vn2_3) rfl (by kernel_rfl) (by kernel_rfl) (by kernel_rfl) (fun _ _ _ h => h) (Or.inl ⟨by rfl, ?hyn2_3⟩) (by assumption) ?hRn2_3
      case hyn2_3 => (intro w hSw; (try dsimp only at hSw); go_simp; (try with_reducible rfl))
      try simp only [Act.put, List.getElem_toArray, List.getElem_cons_zero, List.getElem_cons_succ, List.setIfInBounds_toArray, List.set_cons_zero, List.set_cons_succ]
      refine wpAnyH_ready (rs := [4]) (by kernel_rfl) (by simp) ?_
      refine AllReadyH.cons (o := _) rfl (fun K hK => ?_) AllReadyH.nil
      go_simp
      (go_at_call 131; refine (seSmall_any _ (fun _ => False) _ _ _ ((hf3.toS (fun _ h => h.elim)).below (by go_grown)) (by omega)).mono ?_; rintro e4 w4 ⟨rfl, hb4⟩; have hB4 : Below w.heap.size w w4 := hQ.trans (Below.call (w := wc) (by go_grown) (by go_size) hb4); have ng := Blk.thru kg (by go_grown) hb4; have n1 := Blk.thru k1' (by go_grown) hb4; have hf4 := (hf3.below (by go_grown : Below wc.heap.size wc wc.drew)).below hb4; obtain ⟨a1, af1⟩ := n1.c1; obtain ⟨ag, _⟩ := ng.c1)
      go_wp2_with fail
      refine hK.out _ _ ?hSn2_4 (fun hHeld => ?hRn2_4)
      case hSn2_4 => ((try dsimp only); go_keep)
      clear hK K
      try simp only [Act.put, List.getElem_toArray, List.getElem_cons_zero, List.getElem_cons_succ, List.setIfInBounds_toArray, List.set_cons_zero, List.set_cons_succ]
      refine wpAnyH_take (i := 5) (oi := _) (v := ?vn2_5) rfl (by kernel_rfl) (by kernel_rfl) (by kernel_rfl) (fun _ _ _ h => h) (Or.inl ⟨by rfl, ?hyn2_5⟩) (by assumption) ?hRn2_5
      case hyn2_5 => (intro w hSw; (try dsimp only at hSw); go_simp; (try with_reducible rfl))
      try simp only [Act.put, List.getElem_toArray, List.getElem_cons_zero, List.getElem_cons_succ, List.setIfInBounds_toArray, List.set_cons_zero, List.set_cons_succ]
      refine wpAnyH_ready (rs := [6]) (by kernel_rfl) (by simp) ?_
      refine AllReadyH.cons (o := _) rfl (fun K hK => ?_) AllReadyH.nil
      go_simp
      refine hK.out _ _ ?hSn2_6 (fun hHeld => ?hRn2_6)
      case hSn2_6 => ((try dsimp only); go_keep)
      clear hK K
      try simp only [Act.put, List.getElem_toArray, List.getElem_cons_zero, List.getElem_cons_succ, List.setIfInBounds_toArray, List.set_cons_zero, List.set_cons_succ]
      refine wpAnyH_take (i := 7) (oi := _) (v := ?vn2_7) rfl (by kernel_rfl) (by kernel_rfl) (by kernel_rfl) (fun _ _ _ h => h) (Or.inl ⟨by rfl, ?hyn2_7⟩) (by assumption) ?hRn2_7
      case hyn2_7 => (intro w hSw; (try dsimp only at hSw); go_simp; (try with_reducible rfl))
      try simp only [Act.put, List.getElem_toArray, List.getElem_cons_zero, List.getElem_cons_succ, List.setIfInBounds_toArray, List.set_cons_zero, List.set_cons_succ]
      refine wpAnyH_done (by kernel_rfl) ?_ _
      go_wp2
      refine bodyPost_ret (v := .tuple #[.agg #[.slice A3 ((nearS x).getD .nil).len c3], .bool (smallP ((nearS x).getD .nil))]) (by simp [results, Tryz.results64, go_sem, a1]) rfl ?_
      exact ⟨A3, c3, by rw [HO.out], ((hf4.setCell (p := ⟨w.heap.size + 1, 0, none⟩) (by simp) _).mono (by omega)), hB4.setCell (by simp) _⟩
end Go.Proofs.YtphabopnbcgodaaGreat

namespace Go.Proofs.YtphabopnbcgodaaGreat
open Go.RowKit
set_option linter.unusedSimpArgs false
set_option linter.unusedVariables false

def sgnI (i : Int) : Int := if (i.tmod 2 == 0) = true then -1 else 1
/-- one step -/
def slogB1 (z : Sur) (bad : Bool) (p : Sur) : Bool := bad || !(prodS p z).isSome
def slogP (z : Sur) (bad : Bool) (p : Sur) : Sur := keepS bad (prodS p z)
def slogS (z : Sur) (bad : Bool) (p : Sur) (i : Int) : Option Sur := prodS (slogP z bad p) (termP .nil (sgnI i) i)
def slogB2 (z : Sur) (bad : Bool) (p : Sur) (i : Int) : Bool := slogB1 z bad p || !(slogS z bad p i).isSome
def slogT (z : Sur) (bad : Bool) (p : Sur) (i : Int) : Sur := keepS (slogB1 z bad p) (slogS z bad p i)
def slogO (z : Sur) (bad : Bool) (out p : Sur) (i : Int) : Option Sur := sumS out (slogT z bad p i)
def slogB3 (z : Sur) (bad : Bool) (out p : Sur) (i : Int) : Bool := slogB2 z bad p i || !(slogO z bad out p i).isSome
def slogOut (z : Sur) (bad : Bool) (out p : Sur) (i : Int) : Sur := keepS (slogB2 z bad p i) (slogO z bad out p i)
/-- the steps of a logarithm, as the reference makes them -/
def slogGo (z : Sur) (n : Int) : Nat → Int → Bool → Sur → Sur → Bool × Sur
  | 0, _, bad, out, _ => (bad, out)
  | k + 1, i, bad, out, p => if i ≤ n then slogGo z n k (i + 1) (slogB3 z bad out p i) (slogOut z bad out p i) (slogP z bad p) else (bad, out)
def slogTerms (x : Sur) (n : Int) : Option Sur :=
  if (sGood x && stepsB n) = true then
    if nearOk x = true then
      let z := (nearS x).getD .nil
      let r := slogGo z n 13 1 false .nil (termP .nil 1 1)
      if r.1 = true then none else some r.2
    else none
  else none

theorem keepS_good {bad : Bool} {o : Option Sur} (h : ∀ z, o = some z → sGood z = true) : sGood (keepS bad o) = true := by
  unfold keepS
  split
  · exact sGood_nil
  · cases o with
    | none => exact sGood_nil
    | some z => exact h z rfl
theorem prodS_good {x y z : Sur} (h : prodS x y = some z) : sGood z = true := by
  unfold prodS at h
  obtain ⟨u, _, hu⟩ := Option.bind_eq_some_iff.1 h
  obtain ⟨rfl, _, hg⟩ := told_eq hu
  exact hg
theorem sgn_ok {i : Int} (h1 : 1 ≤ i) (h2 : i ≤ 12) : fracOk (sgnI i) i = true := by
  have hg : sgnI i = -1 ∨ sgnI i = 1 := by unfold sgnI; split; exact .inl rfl; exact .inr rfl
  rw [fracOk_iff]
  refine ⟨by omega, by omega, by omega, by omega, ?_⟩
  rcases hg with h | h <;> rw [h] <;> simp [Int.gcd]
theorem sgn_eq {i : Int} (h1 : 1 ≤ i) : 2 * i.tmod 2 - 1 = sgnI i := by
  have h : i.tmod 2 = 0 ∨ i.tmod 2 = 1 := by rw [Int.tmod_eq_emod_of_nonneg (by omega)]; omega
  unfold sgnI
  rcases h with h | h <;> rw [h] <;> rfl
theorem slogP_good (z : Sur) (bad : Bool) (p : Sur) : sGood (slogP z bad p) = true := keepS_good fun _ h => prodS_good h
theorem slogT_good (z : Sur) (bad : Bool) (p : Sur) (i : Int) : sGood (slogT z bad p i) = true := keepS_good fun _ h => prodS_good h
theorem slogOut_good (z : Sur) (bad : Bool) (out p : Sur) (i : Int) : sGood (slogOut z bad out p i) = true := keepS_good fun _ h => sumS_good h
/-- once failed, always failed; then there is no number -/
theorem slogGo_bad (z : Sur) (n : Int) : ∀ (k : Nat) (i : Int) (out p : Sur), (slogGo z n k i true out p).1 = true
  | 0, _, _, _ => rfl
  | k + 1, i, out, p => by
    simp only [slogGo]
    split
    · exact slogGo_bad z n k _ _ _
    · rfl
theorem keepS_bad (o : Option Sur) : keepS true o = .nil := rfl
theorem keepS_ok (o : Option Sur) (h : o.isSome = true) : keepS false o = o.getD .nil := by unfold keepS; rw [h]; rfl

/-- while nothing failed, both go the same steps -/
theorem slog_log (z : Sur) (n : Int) (gz : sGood z = true) (hn : n ≤ 12) : ∀ (k : Nat) (i : Int) (out p q : Sur), 1 ≤ i → sGood out = true → sGood q = true → (i = 1 → p = z ∧ q = termP .nil 1 1) → (1 < i → p = q) →
    ((slogGo z n k i false out q).1 = (logGo z n k i false out p).1) ∧ ((slogGo z n k i false out q).1 = false → (slogGo z n k i false out q).2 = (logGo z n k i false out p).2)
  | 0, _, _, _, _, _, _, _, _, _ => ⟨rfl, fun _ => rfl⟩
  | k + 1, i, out, p, q, hi, go, gq, h1, h2 => by
    simp only [slogGo, logGo]
    by_cases hin : i ≤ n
    · rw [if_pos hin, if_pos (by simp [hin])]
      have e1 : prodS q z = logPow z p i := by
        unfold logPow
        by_cases h : 1 < i
        · rw [if_pos h, h2 h]; exact prodS_mulS gq gz
        · obtain ⟨rfl, rfl⟩ := h1 (by omega)
          rw [if_neg h]; exact prodS_one gz
      unfold slogB3 slogOut slogO slogB2 slogT slogS slogB1 slogP
      rw [e1]
      rcases hp : logPow z p i with _ | p1
      · simp only [Option.isSome_none, Bool.not_false, Bool.or_true, Bool.true_or]
        rw [logGo_stop _ _ _ _ _ _ _ (by simp)]
        exact ⟨slogGo_bad _ _ _ _ _ _, fun h => by rw [slogGo_bad] at h; cases h⟩
      · have gp1 : sGood p1 = true := by rw [← e1] at hp; exact prodS_good hp
        have e2 : prodS p1 (termP .nil (sgnI i) i) = logSc p1 i := by
          unfold logSc
          rw [sgn_eq hi]
          exact prodS_scale gp1 (sgn_ok hi (by omega))
        simp only [Option.isSome_some, Bool.not_true, Bool.or_false, Option.getD_some]
        rw [keepS_ok _ rfl, Option.getD_some, e2]
        rcases hs : logSc p1 i with _ | s
        · simp only [Option.isSome_none, Bool.not_false, Bool.or_true, Bool.true_or]
          rw [logGo_stop _ _ _ _ _ _ _ (by simp)]
          exact ⟨slogGo_bad _ _ _ _ _ _, fun h => by rw [slogGo_bad] at h; cases h⟩
        · have gs : sGood s = true := by rw [← e2] at hs; exact prodS_good hs
          simp only [Option.isSome_some, Bool.not_true, Bool.or_false, Option.getD_some]
          rw [keepS_ok _ rfl, Option.getD_some, sumS_addS go gs]
          rcases ha : addS out s with _ | o
          · simp only [Option.isSome_none, Bool.not_false, Bool.or_true]
            rw [logGo_stop _ _ _ _ _ _ _ (by simp)]
            exact ⟨slogGo_bad _ _ _ _ _ _, fun h => by rw [slogGo_bad] at h; cases h⟩
          · simp only [Option.isSome_some, Bool.not_true, Bool.or_false, Option.getD_some]
            rw [keepS_ok _ rfl, Option.getD_some]
            exact slog_log z n gz hn k (i + 1) o p1 p1 (by omega) (addS_good ha) gp1 (fun h => by omega) (fun _ => rfl)
    · rw [if_neg hin, if_neg (fun h => hin h.1)]
      exact ⟨rfl, fun _ => rfl⟩

theorem negP_one : negP oneS = mOneS := by
  unfold oneS mOneS termP
  rw [if_neg (by omega), if_neg (by omega)]
  simp only [negP]
  rw [negI_in (by omega)]
theorem nearS_lessOne {x : Sur} (gx : sGood x = true) : nearS x = lessOne x := by
  unfold nearS lessOne subS
  rw [negP_one]
  exact sumS_addS gx (sGood_real (by decide))
theorem nearOk_bad {x : Sur} (gx : sGood x = true) : nearOk x = !nearBad false x := by
  unfold nearOk nearBad
  rw [nearS_lessOne gx]
  rcases h : lessOne x with _ | z
  · rfl
  · have gz : sGood z = true := addS_good h
    have := sGood_g gz
    simp only [Option.isSome_some, Option.getD_some, smallP_smallS this.1 this.2]
    cases smallS z <;> rfl

theorem slogTerms_logT (x : Sur) (n : Int) : slogTerms x n = logT x n := by
  unfold slogTerms logT
  by_cases hg : (sGood x && stepsB n) = true
  · rw [if_pos hg, if_pos hg]
    simp only [Bool.and_eq_true] at hg
    obtain ⟨gx, hn⟩ := hg
    rw [nearOk_bad gx, nearS_lessOne gx]
    cases hb : nearBad false x
    · simp only [Bool.not_false, if_true]
      have gz : sGood ((lessOne x).getD .nil) = true := by
        rcases h : lessOne x with _ | z
        · exact sGood_nil
        · exact addS_good h
      have := slog_log _ n gz (stepsB_true hn).2 13 1 .nil ((lessOne x).getD .nil) (termP .nil 1 1) (by omega) sGood_nil (sGood_real (by decide)) (fun _ => ⟨rfl, rfl⟩) (fun h => by omega)
      obtain ⟨a1, a2⟩ := this
      rw [← a1]
      cases hr : (slogGo ((lessOne x).getD .nil) n 13 1 false .nil (termP .nil 1 1)).1
      · simp only [Bool.false_eq_true, if_false]; rw [a2 hr]
      · simp only [if_true]
    · have hs := logGo_stop ((lessOne x).getD .nil) n 13 1 true .nil ((lessOne x).getD .nil) (by simp)
      simp only [hs]
      rfl
  · rw [if_neg hg, if_neg hg]
end Go.Proofs.YtphabopnbcgodaaGreat
