/-
  Walks, the reference's side: small numbers, what a number is more than 1.
-/
import Derived.Test.YtphabopnbcgodaaSKeep
import Derived.Test.YtphabopnbcgodaaSParts
import Derived.Deep.DeepCutAuto
import Derived.Deep.RegionHeld3
namespace Go.Proofs.Ytphabopnbcgodaa
open Go.RowKit
set_option linter.unusedSimpArgs false
set_option linter.unusedVariables false

def smallP (x : Sur) : Bool := (((highP x).len : Int) == 0) && ((realP (0, 1) x).1 == 0)
theorem low_parts : ∀ {r : Sur} (a : Int × Int), Lt .nil r → highP r = .nil ∧ realP a r = a
  | .nil, _, _ => ⟨rfl, rfl⟩
  | .cons e n d r, a, h => by
    have q : order e .nil = -1 := by rw [order_neg]; have := h.1; omega
    simp only [highP, realP]
    rw [if_neg (by omega), if_neg (by omega)]
    exact low_parts a h.2
theorem smallP_smallS {x : Sur} (hx : x.All GOk) (dx : Dec x) : smallP x = smallS x := by
  cases x with
  | nil => rfl
  | cons e n d r =>
    unfold smallP smallS
    simp only [highP, realP]
    rcases order_range e .nil with q | q | q
    · have hl := low_parts (r := r) (0, 1) (Lt.tr (e := .nil) (e' := e) trivial hx.1 (by rw [order_neg]; omega) hx.2.2 dx.1)
      rw [if_neg (by omega), if_neg (by omega), hl.1, hl.2, q]; rfl
    · have he := order_eq e .nil hx.1 trivial q
      subst he
      have hl := low_parts (r := r) (n, d) dx.1
      rw [if_neg (by omega), if_pos q, hl.1, hl.2, q]
      have hn := hx.2.1.2
      simp [hn]
    · rw [if_pos q, q]
      simp [Sur.len]
      intro h; omega

set_option maxHeartbeats 800000 in
theorem seSmall_any (x : Sur) (X : Nat → Prop) (A : Option Addr) (c : Nat) (w : World) (sx : SSl X w x A c) (hl : x.len ≤ 1099511627776) :
    Calls Try.prog 54 #[.agg #[.slice A x.len c]] w fun e w' => e = .returned (.bool (smallP x)) ∧ Below w.heap.size w w' := by
  have sx := sx.more (Y := fun _ => False) (fun _ h => h.elim)
  have k0 := (Blk.new w 26 #[.slice A x.len c])
  have hB0 : Below w.heap.size w (w.alloc (.cells #[.slice A x.len c] 26)) := by go_grown
  go_enter Try.func54, Try.ntmps54
  go_wp2_with fail
  refine (suParts_any x (fun _ => False) _ _ _ (fun _ h => h.elim) (sx.below hB0) hl).mono ?_
  rintro e1 w1 ⟨A1, c1, A2, c2, rfl, s1, s2, hb1⟩
  have hB1 := Below.call hB0 (by go_size) hb1
  have hs1 := hB1.size
  have k4 := (Blk.new' (g := w1.heap.size + 1) (w1.alloc (.cells #[.slice A1 (highP x).len c1] 26)) 29 #[.int .i64 (realP (0, 1) x).1, .int .i64 (realP (0, 1) x).2] (by simp)).alloc (.cells #[.slice A2 (lowP x).len c2] 26)
  go_wp2_with fail
  refine (suZero_any (highP x) A1 c1 _).mono ?_
  rintro e2 w2 ⟨rfl, hb2⟩
  have hB2 : Below w.heap.size w w2 := hB1.trans (Below.call (w := w1) (by go_grown) (by go_size) hb2)
  obtain ⟨q0, _, _, _⟩ := (k4.call hb2).c2
  cases h1 : (((highP x).len : Int) == 0)
  · have H := Lib.hid (show smallP x = false by unfold smallP; rw [h1]; rfl)
    clear h1
    go_wp2
    go_ret
    exact ⟨by rw [H.out]; rfl, hB2⟩
  · have H := Lib.hid (show smallP x = ((realP (0, 1) x).1 == 0) by unfold smallP; rw [h1]; rfl)
    clear h1
    go_wp2
    go_ret
    exact ⟨by rw [H.out]; rfl, hB2⟩

/-- a number less 1 -/
def mOneS : Sur := termP .nil (-1) 1
def nearS (x : Sur) : Option Sur := sumS x mOneS
def nearOk (x : Sur) : Bool := (nearS x).isSome && smallP ((nearS x).getD .nil)

set_option maxHeartbeats 1600000 in
set_option maxRecDepth 100000 in
theorem seNear_any (x : Sur) (X : Nat → Prop) (A : Option Addr) (c : Nat) (w : World) (sx : SSl X w x A c) (gx : sGood x = true) :
    Calls Try.prog 63 #[.agg #[.slice A x.len c]] w fun e w' => ∃ A' c', e = .returned (.tuple #[.agg #[.slice A' ((nearS x).getD .nil).len c'], .bool (nearOk x)]) ∧ SFresh w.heap.size w' ((nearS x).getD .nil) A' c' ∧ Below w.heap.size w w' := by
  have sx := sx.more (Y := fun _ => False) (fun _ h => h.elim)
  have hgx := sGood_len gx
  have hg1 : mOneS.All FOk ∧ mOneS.len ≤ 1 := termP_all (z := .nil) trivial (show fracOk (-1) 1 = true by decide)
  have hzl : ((nearS x).getD .nil).len ≤ 60 := by
    rcases h : nearS x with _ | z
    · simp [Sur.len]
    · exact (sGood_len (sumS_good h)).1
  clear gx
  have k0 := ((Blk.new w 26 #[.slice A x.len c]).alloc (.cells #[.slice none 0 0] 26))
  have k1 := (Blk.new' (g := w.heap.size + 1) (w.alloc (.cells #[.slice A x.len c] 26)) 26 #[.slice none 0 0] (by simp))
  have hB0 : Below w.heap.size w ((w.alloc (.cells #[.slice A x.len c] 26)).alloc (.cells #[.slice none 0 0] 26)) := by go_grown
  go_enter Try.func63, Try.ntmps63
  have hne : w.heap.size + 1 + 1 ≠ w.heap.size := by omega
  go_upto_region 1 with fail
  go_cut [4, 5] (fun s4 s5 wx => s5 = .bool (nearS x).isSome ∧ ∃ g A3 c3, s4 = .pointer (some ⟨g, 0, none⟩) ∧ Blk wx g 26 #[.slice A3 ((nearS x).getD .nil).len c3] ∧ w.heap.size + 1 < g ∧ SFresh (w.heap.size + 1 + 1) wx ((nearS x).getD .nil) A3 c3 ∧ Blk wx (w.heap.size + 1) 26 #[.slice none 0 0] ∧
    Below w.heap.size w wx)
  case first =>
    go_region_held3 (fun w' => w'.cell? ⟨w.heap.size, 0, none⟩ = some (.slice A x.len c)) (go_keep)
      (first | (go_at_call 56; refine (suInt_any (-1) (fun _ => False) _ (fun _ h => h.elim) ⟨by decide, by decide⟩).mono ?_; rintro e1 w1 ⟨A1, c1, rfl, hs1, hb1⟩; have l0 := Blk.thru k0 (by go_grown) hb1; have l1 := Blk.thru k1 (by go_grown) hb1; have hB1 : Below w.heap.size w w1 := (hB0.trans (Below.call (w := _) (by go_grown) (by go_size) hb1)); obtain ⟨a0, _⟩ := l0.c1; have ne1 := World.new_ne w1 _ a0; (try have va := Blk.call (w := (((w.alloc (.cells #[.slice A x.len c] 26)).alloc (.cells #[.slice none 0 0] 26)).alloc (.cells #[.slice none 0 0] 26)).drew) (Blk.new' (g := w.heap.size + 1 + 1) ((w.alloc (.cells #[.slice A x.len c] 26)).alloc (.cells #[.slice none 0 0] 26)) 26 #[.slice none 0 0] (by simp)) hb1); (try obtain ⟨vx1, vx2⟩ := va.c1)) | (go_at_call 97; refine (suSum_any x mOneS _ _ _ _ _ _ _ (sx.below (by first | exact hB1 | exact hB1.alloc hB1.size _)) (hs1.below (by go_grown)) hgx.2.2 hg1.1 (by omega)).mono ?_; rintro e2 w2 ⟨A2, c2, rfl, hf2, hb2⟩; have l20 := Blk.thru l0 (by go_grown) hb2; have l21 := Blk.thru l1 (by go_grown) hb2; have hB2 : Below w.heap.size w w2 := (Below.call (by first | exact hB1 | exact hB1.alloc hB1.size _) (by have := hB1.size; first | assumption | (simp only [World.size_alloc]; omega)) hb2); obtain ⟨b0, _⟩ := l20.c1; have ne2 := World.new_ne w2 _ b0; (try have vb := va.call hb2); (try have vb := Blk.call (w := (w1.alloc (.cells #[.slice none 0 0] 26))) (Blk.new w1 26 #[.slice none 0 0]) hb2); (try obtain ⟨vx3, vx4⟩ := vb.c1)))
    all_goals
      have hN : sumS x mOneS = nearS x := rfl
      rw [hN] at hf2
      go_wp2_with fail
      go_meet
      have y1 := l1.lt
      have y2 := l21.lt
      (try have y4 := vb.lt)
      (try have y5 := va.lt)
      first
        | exact ⟨rfl, _, A2, c2, rfl, Blk.new _ _ _, by omega, (hf2.mono (by omega)).below (by go_grown), l21.alloc _, hB2.alloc (by omega) _⟩
        | exact ⟨rfl, _, A2, c2, rfl, vb.set_ 0 _, by omega, (hf2.setCell (by simp only [World.size_alloc]; omega) _).mono (by simp only [World.size_alloc]; omega), l21.far (by dsimp only; omega) _, hB2.setCell (by dsimp only; omega) _⟩
        | exact ⟨rfl, _, A2, c2, rfl, vb.set_ 0 _, by omega, (hf2.setCell (by dsimp only; omega) _).mono (by omega), l21.far (by dsimp only; omega) _, hB2.setCell (by dsimp only; omega) _⟩
  case rest =>
    obtain ⟨rfl, g, A3, c3, rfl, kg, hg, hf3, k1', hQ⟩ := hcut
    clear k0 k1 hB0
    obtain ⟨g1, _⟩ := kg.c1
    obtain ⟨p1, pf1⟩ := k1'.c1
    have y1 := k1'.lt
    have yg := kg.lt
    have hne1 : ¬ g = w.heap.size + 1 := by omega
    have hne2 : ¬ w.heap.size + 1 = g := by omega
    cases ho : (nearS x).isSome
    · have HO := Lib.hid (show nearOk x = false by unfold nearOk; rw [ho]; rfl)
      clear ho
      go_wp2_with fail
      refine wp_region_held_drew (S := (fun w' => w'.cell? ⟨g, 0, none⟩ = some (.slice A3 ((nearS x).getD .nil).len c3))) (by kernel_rfl) ?hSn1_ (fun hHeld => ?hRn1_)
      case hSn1_ => (go_keep)
      refine wpAnyH_take (i := 0) (oi := _) (v := ?vn1_0) rfl (by kernel_rfl) (by kernel_rfl) (by kernel_rfl) (fun _ _ _ h => h) (Or.inl ⟨by rfl, ?hyn1_0⟩) (by assumption) ?hRn1_0
      case hyn1_0 => (intro w hSw; (try dsimp only at hSw); go_simp; (try with_reducible rfl))
      try simp only [Act.put, List.getElem_toArray, List.getElem_cons_zero, List.getElem_cons_succ, List.setIfInBounds_toArray, List.set_cons_zero, List.set_cons_succ]
      refine wpAnyH_take (i := 1) (oi := _) (v := ?vn1_1) rfl (by kernel_rfl) (by kernel_rfl) (by kernel_rfl) (fun _ _ _ h => h) (Or.inl ⟨by rfl, ?hyn1_1⟩) (by assumption) ?hRn1_1
      case hyn1_1 => (intro w hSw; (try dsimp only at hSw); go_simp; (try with_reducible rfl))
      try simp only [Act.put, List.getElem_toArray, List.getElem_cons_zero, List.getElem_cons_succ, List.setIfInBounds_toArray, List.set_cons_zero, List.set_cons_succ]
      refine wpAnyH_take (i := 2) (oi := _) (v := ?vn1_2) rfl (by kernel_rfl) (by kernel_rfl) (by kernel_rfl) (fun _ _ _ h => h) (Or.inl ⟨by rfl, ?hyn1_2⟩) (by assumption) ?hRn1_2
      case hyn1_2 => (intro w hSw; (try dsimp only at hSw); go_simp; (try with_reducible rfl))
      try simp only [Act.put, List.getElem_toArray, List.getElem_cons_zero, List.getElem_cons_succ, List.setIfInBounds_toArray, List.set_cons_zero, List.set_cons_succ]
      refine wpAnyH_take (i := 3) (oi := _) (v := undef) rfl (by kernel_rfl) (by kernel_rfl) (by kernel_rfl) (fun _ _ _ h => h) (Or.inr ⟨by rfl, rfl⟩) (by assumption) ?_
      try simp only [Act.put, List.getElem_toArray, List.getElem_cons_zero, List.getElem_cons_succ, List.setIfInBounds_toArray, List.set_cons_zero, List.set_cons_succ]
      refine wpAnyH_take (i := 4) (oi := _) (v := undef) rfl (by kernel_rfl) (by kernel_rfl) (by kernel_rfl) (fun _ _ _ h => h) (Or.inr ⟨by rfl, rfl⟩) (by assumption) ?_
      try simp only [Act.put, List.getElem_toArray, List.getElem_cons_zero, List.getElem_cons_succ, List.setIfInBounds_toArray, List.set_cons_zero, List.set_cons_succ]
      refine wpAnyH_take (i := 5) (oi := _) (v := ?vn1_5) rfl (by kernel_rfl) (by kernel_rfl) (by kernel_rfl) (fun _ _ _ h => h) (Or.inl ⟨by rfl, ?hyn1_5⟩) (by assumption) ?hRn1_5
      case hyn1_5 => (intro w hSw; (try dsimp only at hSw); go_simp; (try with_reducible rfl))
      try simp only [Act.put, List.getElem_toArray, List.getElem_cons_zero, List.getElem_cons_succ, List.setIfInBounds_toArray, List.set_cons_zero, List.set_cons_succ]
      refine wpAnyH_ready (rs := [6]) (by kernel_rfl) (by simp) ?_
      refine AllReadyH.cons (o := _) rfl (fun K hK => ?_) AllReadyH.nil
      go_simp
      refine hK.out _ _ ?hSn1_6 (fun hHeld => ?hRn1_6)
      case hSn1_6 => ((try dsimp only); go_keep)
      clear hK K
      try simp only [Act.put, List.getElem_toArray, List.getElem_cons_zero, List.getElem_cons_succ, List.setIfInBounds_toArray, List.set_cons_zero, List.set_cons_succ]
      refine wpAnyH_take (i := 7) (oi := _) (v := ?vn1_7) rfl (by kernel_rfl) (by kernel_rfl) (by kernel_rfl) (fun _ _ _ h => h) (Or.inl ⟨by rfl, ?hyn1_7⟩) (by assumption) ?hRn1_7
      case hyn1_7 => (intro w hSw; (try dsimp only at hSw); go_simp; (try with_reducible rfl))
      try simp only [Act.put, List.getElem_toArray, List.getElem_cons_zero, List.getElem_cons_succ, List.setIfInBounds_toArray, List.set_cons_zero, List.set_cons_succ]
      refine wpAnyH_done (by kernel_rfl) ?_ _
      go_wp2
      refine bodyPost_ret (v := .tuple #[.agg #[.slice A3 ((nearS x).getD .nil).len c3], .bool false]) (by simp [results, Try.results63, go_sem, p1]) rfl ?_
      exact ⟨A3, c3, by rw [HO.out], (((hf3.setCell (p := ⟨w.heap.size + 1, 0, none⟩) (by simp) _).below (by go_grown)).mono (by omega)), by go_grown⟩
    · have HO := Lib.hid (show nearOk x = smallP ((nearS x).getD .nil) by unfold nearOk; rw [ho]; rfl)
      clear ho
      go_wp2_with fail
      refine wp_region_held_drew (S := (fun w' => w'.cell? ⟨g, 0, none⟩ = some (.slice A3 ((nearS x).getD .nil).len c3))) (by kernel_rfl) ?hSn2_ (fun hHeld => ?hRn2_)
      case hSn2_ => (go_keep)
      refine wpAnyH_take (i := 0) (oi := _) (v := ?vn2_0) rfl (by kernel_rfl) (by kernel_rfl) (by kernel_rfl) (fun _ _ _ h => h) (Or.inl ⟨by rfl, ?hyn2_0⟩) (by assumption) ?hRn2_0
      case hyn2_0 => (intro w hSw; (try dsimp only at hSw); go_simp; (try with_reducible rfl))
      try simp only [Act.put, List.getElem_toArray, List.getElem_cons_zero, List.getElem_cons_succ, List.setIfInBounds_toArray, List.set_cons_zero, List.set_cons_succ]
      refine wpAnyH_take (i := 1) (oi := _) (v := ?vn2_1) rfl (by kernel_rfl) (by kernel_rfl) (by kernel_rfl) (fun _ _ _ h => h) (Or.inl ⟨by rfl, ?hyn2_1⟩) (by assumption) ?hRn2_1
      case hyn2_1 => (intro w hSw; (try dsimp only at hSw); go_simp; (try with_reducible rfl))
      try simp only [Act.put, List.getElem_toArray, List.getElem_cons_zero, List.getElem_cons_succ, List.setIfInBounds_toArray, List.set_cons_zero, List.set_cons_succ]
      refine wpAnyH_take (i := 2) (oi := _) (v := ?vn2_2) rfl (by kernel_rfl) (by kernel_rfl) (by kernel_rfl) (fun _ _ _ h => h) (Or.inl ⟨by rfl, ?hyn2_2⟩) (by assumption) ?hRn2_2
      case hyn2_2 => (intro w hSw; (try dsimp only at hSw); go_simp; (try with_reducible rfl))
      try simp only [Act.put, List.getElem_toArray, List.getElem_cons_zero, List.getElem_cons_succ, List.setIfInBounds_toArray, List.set_cons_zero, List.set_cons_succ]
      refine wpAnyH_take (i := 3) (oi := _) (v := ?vn2_3) rfl (by kernel_rfl) (by kernel_rfl) (by kernel_rfl) (fun _ _ _ h => h) (Or.inl ⟨by rfl, ?hyn2_3⟩) (by assumption) ?hRn2_3
      case hyn2_3 => (intro w hSw; (try dsimp only at hSw); go_simp; (try with_reducible rfl))
      try simp only [Act.put, List.getElem_toArray, List.getElem_cons_zero, List.getElem_cons_succ, List.setIfInBounds_toArray, List.set_cons_zero, List.set_cons_succ]
      refine wpAnyH_ready (rs := [4]) (by kernel_rfl) (by simp) ?_
      refine AllReadyH.cons (o := _) rfl (fun K hK => ?_) AllReadyH.nil
      go_simp
      (go_at_call 54; refine (seSmall_any _ (fun _ => False) _ _ _ ((hf3.toS (fun _ h => h.elim)).below (by go_grown)) (by omega)).mono ?_; rintro e4 w4 ⟨rfl, hb4⟩; have hB4 : Below w.heap.size w w4 := hQ.trans (Below.call (w := wc) (by go_grown) (by go_size) hb4); have ng := Blk.thru kg (by go_grown) hb4; have n1 := Blk.thru k1' (by go_grown) hb4; have hf4 := (hf3.below (by go_grown : Below wc.heap.size wc wc.drew)).below hb4; obtain ⟨a1, af1⟩ := n1.c1; obtain ⟨ag, _⟩ := ng.c1)
      go_wp2_with fail
      refine hK.out _ _ ?hSn2_4 (fun hHeld => ?hRn2_4)
      case hSn2_4 => ((try dsimp only); go_keep)
      clear hK K
      try simp only [Act.put, List.getElem_toArray, List.getElem_cons_zero, List.getElem_cons_succ, List.setIfInBounds_toArray, List.set_cons_zero, List.set_cons_succ]
      refine wpAnyH_take (i := 5) (oi := _) (v := ?vn2_5) rfl (by kernel_rfl) (by kernel_rfl) (by kernel_rfl) (fun _ _ _ h => h) (Or.inl ⟨by rfl, ?hyn2_5⟩) (by assumption) ?hRn2_5
      case hyn2_5 => (intro w hSw; (try dsimp only at hSw); go_simp; (try with_reducible rfl))
      try simp only [Act.put, List.getElem_toArray, List.getElem_cons_zero, List.getElem_cons_succ, List.setIfInBounds_toArray, List.set_cons_zero, List.set_cons_succ]
      refine wpAnyH_ready (rs := [6]) (by kernel_rfl) (by simp) ?_
      refine AllReadyH.cons (o := _) rfl (fun K hK => ?_) AllReadyH.nil
      go_simp
      refine hK.out _ _ ?hSn2_6 (fun hHeld => ?hRn2_6)
      case hSn2_6 => ((try dsimp only); go_keep)
      clear hK K
      try simp only [Act.put, List.getElem_toArray, List.getElem_cons_zero, List.getElem_cons_succ, List.setIfInBounds_toArray, List.set_cons_zero, List.set_cons_succ]
      refine wpAnyH_take (i := 7) (oi := _) (v := ?vn2_7) rfl (by kernel_rfl) (by kernel_rfl) (by kernel_rfl) (fun _ _ _ h => h) (Or.inl ⟨by rfl, ?hyn2_7⟩) (by assumption) ?hRn2_7
      case hyn2_7 => (intro w hSw; (try dsimp only at hSw); go_simp; (try with_reducible rfl))
      try simp only [Act.put, List.getElem_toArray, List.getElem_cons_zero, List.getElem_cons_succ, List.setIfInBounds_toArray, List.set_cons_zero, List.set_cons_succ]
      refine wpAnyH_done (by kernel_rfl) ?_ _
      go_wp2
      refine bodyPost_ret (v := .tuple #[.agg #[.slice A3 ((nearS x).getD .nil).len c3], .bool (smallP ((nearS x).getD .nil))]) (by simp [results, Try.results63, go_sem, a1]) rfl ?_
      exact ⟨A3, c3, by rw [HO.out], ((hf4.setCell (p := ⟨w.heap.size + 1, 0, none⟩) (by simp) _).mono (by omega)), hB4.setCell (by simp) _⟩
end Go.Proofs.Ytphabopnbcgodaa
