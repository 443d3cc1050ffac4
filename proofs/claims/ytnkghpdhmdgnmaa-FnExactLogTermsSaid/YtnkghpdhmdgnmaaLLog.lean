/-
  The law FnExactLogTerms: its walk.
-/
import Derived.Test.YtnkghpdhmdgnmaaLHeld
namespace Go.Proofs.Ytnkghpdhmdgnmaa
open Go.RowKit
set_option linter.unusedSimpArgs false
set_option linter.unusedVariables false

theorem Blk.only {bs : List Nat} {w w' : World} {g : Nat} {t : TypeId} {cs : Array Value} (h : Blk w g t cs) (hO : Only bs w w') (hn : g ∉ bs) : Blk w' g t cs := (hO.block g h.lt hn).trans h
theorem STree.only {bs cs : List Nat} {w w' : World} {e : Sur} {A : Option Addr} {c : Nat} (h : STree w e A c cs) (hO : Only bs w w') (hd : ∀ j ∈ cs, j ∉ bs) : STree w' e A c cs :=
  h.keep hO.size fun j hj => hO.block j (h.lt j hj) (hd j hj)
theorem LSl.only {bs : List Nat} {B : Nat} {w0 w w' : World} {e : Sur} {A : Option Addr} {c : Nat} (h : LSl w0 e A c) (hB : Below w0.heap.size w0 w) (hO : Only bs w w') (hb : ∀ j ∈ bs, w0.heap.size ≤ j) : LSl w' e A c :=
  h.below (hB.trans (hO.toBelow hb hB.size))
theorem STree.thru {w W w1 : World} {e : Sur} {A : Option Addr} {c : Nat} {bs : List Nat} (h : STree w e A c bs) (hW : Below w.heap.size w W) (hb : Below W.heap.size W w1) : STree w1 e A c bs := h.below (hW.trans (hb.mono hW.size))
theorem slogGo_good (z : Sur) (n : Int) : ∀ (k : Nat) (i : Int) (bad : Bool) (out p : Sur), sGood out = true → sGood (slogGo z n k i bad out p).2 = true
  | 0, _, _, _, _, h => h
  | k + 1, i, bad, out, p, h => by
    simp only [slogGo]
    split
    · exact slogGo_good z n k _ _ _ _ (slogOut_good z bad out p i)
    · exact h
theorem logT_good (x : Sur) (n : Int) : sGood ((logT x n).getD .nil) = true := by
  rw [← slogTerms_logT]
  unfold slogTerms
  split
  · split
    · simp only
      split
      · exact sGood_nil
      · exact slogGo_good _ _ _ _ _ _ _ sGood_nil
    · exact sGood_nil
  · exact sGood_nil
theorem total_good {x : Sur} (h : sGood x = true) : x.total ≤ 60 := by
  have := (sGood_len h).2.1
  have := x.nodes_total
  omega

set_option maxHeartbeats 4000000 in
set_option maxRecDepth 100000 in
theorem law_any (x : Sur) (n : Int) (A : Option Addr) (c : Nat) (w : World) (sx : LSl w x A c) (in_ : I64 n) :
    Calls Try.prog 4 #[.agg #[.slice A x.len c], .int .i64 n] w (RetB w true) := by
  have gg := logT_good x n
  have hEq := slogTerms_logT x n
  have HEq := Lib.hid hEq
  clear hEq
  have k2 := (Blk.new w 40 #[.slice A x.len c])
  have hB0 : Below w.heap.size w (w.alloc (.cells #[.slice A x.len c] 40)) := by go_grown
  by_cases hs : szP x 1048576 < 0
  · go_enter Try.func4, Try.ntmps4
    go_wp2_with fail
    refine (szSurreal_any x A c 1048576 _ (sx.below hB0) (by omega) (by omega)).mono ?_
    rintro e1 w1 ⟨rfl, hb1⟩
    go_wp2
    go_ret
    exact ⟨rfl, Below.call hB0 (by go_size) hb1⟩
  · have htot : x.total ≤ 1048576 := by unfold szP at hs; split at hs <;> omega
    go_enter Try.func4, Try.ntmps4
    go_wp2_with fail
    refine (szSurreal_any x A c 1048576 _ (sx.below hB0) (by omega) (by omega)).mono ?_
    rintro e1 w1 ⟨rfl, hb1⟩
    have hB1 := Below.call hB0 (by go_size) hb1
    have a2 := k2.call hb1
    obtain ⟨q2, _⟩ := a2.c1
    clear k2 hB0
    go_wp2_with fail
    refine (toSurreal_any x A c _ (sx.below hB1) htot).mono ?_
    rintro e2 w2 ⟨A2, c2, rfl, hf2, hb2⟩
    have hB2 := hB1.trans (hb2.mono hB1.size)
    have b2 := a2.call hb2
    go_wp2_with fail
    refine (sLogTerms_any x n (fun _ => False) A2 c2 _ (hf2.toS (fun _ h => h.elim))).mono ?_
    rintro e3 w3 ⟨A3, c3, rfl, hf3, hb3⟩
    have hB3 := hB2.trans (hb3.mono hB2.size)
    have d2 := b2.call hb3
    obtain ⟨q2, _⟩ := d2.c1
    rw [HEq.out] at hf3
    rw [HEq.out]
    clear hf2 a2 b2 HEq
    have z2 := d2.lt
    have hs3 := hB3.size
    have hs2 := hB2.size
    go_wp2_with fail
    refine (toSurreal_any x A c _ (sx.below (by go_grown)) htot).mono ?_
    rintro e4 w4 ⟨A4, c4, rfl, hf4, hb4⟩
    have hB4 : Below w.heap.size w w4 := hB3.trans (Below.call (w := w3) (by go_grown) (by go_size) hb4)
    have e2 := Blk.thru d2 (by go_grown) hb4
    have e6 := (Blk.new w3 26 #[.slice A3 ((logT x n).getD .nil).len c3]).call hb4
    have hs4 := hb4.size
    simp only [World.size_alloc] at hs4
    obtain ⟨bw, tw, ndw, gew⟩ := hf3
    have ltw := tw.lt
    have tw4 := (tw.below (by go_grown : Below w3.heap.size w3 (w3.alloc (.cells #[.slice A3 ((logT x n).getD .nil).len c3] 26)))).below hb4
    obtain ⟨bx, tx, ndx, gex⟩ := hf4
    have ltx := tx.lt
    simp only [World.size_alloc] at gex
    obtain ⟨q2, _⟩ := e2.c1
    obtain ⟨q6, _⟩ := e6.c1
    have z2 := e2.lt
    have z6 := e6.lt
    clear d2 tw hb3 hb4
    go_wp2_with fail
    refine (LogTerms_any x n (fun _ => False) A4 c4 _ ((tx.toS (fun _ _ h => h)).below (by go_grown)) in_).mono ?_
    rintro e5 w5 ⟨A5, c5, rfl, hf5, hb5⟩
    have hB5 : Below w.heap.size w w5 := hB4.trans (Below.call (w := w4) (by go_grown) (by have := hB4.size; go_size) hb5)
    have b2_5 := Blk.thru e2 (by go_grown) hb5
    have b6_5 := Blk.thru e6 (by go_grown) hb5
    have b8_5 := (Blk.new w4 26 #[.slice A4 x.len c4]).call hb5
    have hs5 := hb5.size
    simp only [World.size_alloc] at hs5
    have tw5 := (tw4.below (by go_grown : Below w4.heap.size w4 (w4.alloc (.cells #[.slice A4 x.len c4] 26)))).below hb5
    have tx5 := (tx.below (by go_grown : Below w4.heap.size w4 (w4.alloc (.cells #[.slice A4 x.len c4] 26)))).below hb5
    obtain ⟨bg, tg5, ndg, geg⟩ := hf5
    have ltg := tg5.lt
    simp only [World.size_alloc] at geg
    obtain ⟨q2, _⟩ := b2_5.c1
    obtain ⟨q6, _⟩ := b6_5.c1
    obtain ⟨q8, _⟩ := b8_5.c1
    have z2 := b2_5.lt
    have z6 := b6_5.lt
    have z8 := b8_5.lt
    clear e2 e6 tw4 tx hb5
    generalize hoo : logT x n = oo at *
    have HOO := Lib.hid hoo
    clear hoo
    go_wp2_with fail
    refine (eqSurreal_any (oo.getD .nil) (oo.getD .nil) (fun _ => False) (fun _ => False) A5 A3 c5 c3 _ ((tg5.toS (fun _ _ h => h)).below (by go_grown)) ((tw5.toS (fun _ _ h => h)).below (by go_grown))).mono ?_
    rintro e6 w6 ⟨rfl, hb6⟩
    rw [eqB_self]
    have hB6 : Below w.heap.size w w6 := hB5.trans (Below.call (w := w5) (by go_grown) (by have := hB5.size; go_size) hb6)
    have b2_6 := Blk.thru b2_5 (by go_grown) hb6
    have b6_6 := Blk.thru b6_5 (by go_grown) hb6
    have b8_6 := Blk.thru b8_5 (by go_grown) hb6
    have b9_6 := (Blk.new w5 26 #[.slice A5 (oo.getD .nil).len c5]).call hb6
    have tw_6 := STree.thru tw5 (by go_grown) hb6
    have tx_6 := STree.thru tx5 (by go_grown) hb6
    have tg_6 := STree.thru tg5 (by go_grown) hb6
    have hs6 := hb6.size
    simp only [World.size_alloc] at hs6
    clear b2_5 b6_5 b8_5 tw5 tx5 tg5 hb6 q2 q6 q8 z2 z6 z8
    obtain ⟨q2, _⟩ := b2_6.c1
    obtain ⟨q6, _⟩ := b6_6.c1
    obtain ⟨q8, _⟩ := b8_6.c1
    obtain ⟨q9, _⟩ := b9_6.c1
    have z2 := b2_6.lt
    have z6 := b6_6.lt
    have z8 := b8_6.lt
    have z9 := b9_6.lt
    go_wp2_with fail
    refine wp_region_held_drew (S := (fun w' => w'.cell? ⟨w4.heap.size, 0, none⟩ = some (.slice A4 x.len c4) ∧ w'.cell? ⟨w.heap.size, 0, none⟩ = some (.slice A x.len c))) (by kernel_rfl) ?hSn1_ (fun hHeld => ?hRn1_)
    case hSn1_ => (go_keep)
    refine wpAnyH_take (i := 0) (oi := _) (v := ?vn1_0) rfl (by kernel_rfl) (by kernel_rfl) (by kernel_rfl) (fun _ _ _ h => h) (Or.inl ⟨by rfl, ?hyn1_0⟩) (by assumption) ?hRn1_0
    case hyn1_0 => (intro w hSw; (try dsimp only at hSw); go_simp; (try with_reducible rfl))
    try simp only [Act.put, List.getElem_toArray, List.getElem_cons_zero, List.getElem_cons_succ, List.setIfInBounds_toArray, List.set_cons_zero, List.set_cons_succ]
    refine wpAnyH_take (i := 1) (oi := _) (v := ?vn1_1) rfl (by kernel_rfl) (by kernel_rfl) (by kernel_rfl) (fun _ _ _ h => h) (Or.inl ⟨by rfl, ?hyn1_1⟩) (by assumption) ?hRn1_1
    case hyn1_1 => (intro w hSw; (try dsimp only at hSw); go_simp; (try with_reducible rfl))
    try simp only [Act.put, List.getElem_toArray, List.getElem_cons_zero, List.getElem_cons_succ, List.setIfInBounds_toArray, List.set_cons_zero, List.set_cons_succ]
    refine wpAnyH_ready (rs := [2]) (by kernel_rfl) (by simp) ?_
    refine AllReadyH.cons (o := _) rfl (fun K hK => ?_) AllReadyH.nil
    go_simp
    (go_at_call 23; refine (toSurreal_any x A c _ (sx.below (by go_grown)) htot).mono ?_; rintro e7 w7 ⟨A7, c7, rfl, hf7, hb7⟩; have hB7 : Below w.heap.size w w7 := hB6.trans (Below.call (w := w6) (by go_grown) (by have := hB6.size; go_size) hb7); have b2_7 := Blk.thru b2_6 (by go_grown) hb7; have b6_7 := Blk.thru b6_6 (by go_grown) hb7; have b8_7 := Blk.thru b8_6 (by go_grown) hb7; have b9_7 := Blk.thru b9_6 (by go_grown) hb7; have tw_7 := STree.thru tw_6 (by go_grown) hb7; have tx_7 := STree.thru tx_6 (by go_grown) hb7; have tg_7 := STree.thru tg_6 (by go_grown) hb7; have hs7 : w6.heap.size ≤ w7.heap.size := hb7.size; obtain ⟨r2, _⟩ := b2_7.c1; obtain ⟨r8, _⟩ := b8_7.c1)
    go_wp2_with fail
    refine hK.out _ _ ?hSn1_2 (fun hHeld => ?hRn1_2)
    case hSn1_2 => ((try dsimp only); go_keep)
    clear hK K
    try simp only [Act.put, List.getElem_toArray, List.getElem_cons_zero, List.getElem_cons_succ, List.setIfInBounds_toArray, List.set_cons_zero, List.set_cons_succ]
    refine wpAnyH_ready (rs := [3]) (by kernel_rfl) (by simp) ?_
    refine AllReadyH.cons (o := _) rfl (fun K hK => ?_) AllReadyH.nil
    go_simp
    (go_at_call 25; refine (eqSurreal_any x x (fun _ => False) (fun _ => False) A4 A7 c4 c7 _ (tx_7.toS (fun _ _ h => h)) (hf7.toS (fun _ h => h.elim))).mono ?_; rintro e8 w8 ⟨rfl, hb8⟩; rw [eqB_self]; have hB8 : Below w.heap.size w w8 := hB7.trans (hb8.mono hB7.size); have b2_8 := b2_7.call hb8; have b6_8 := b6_7.call hb8; have b8_8 := b8_7.call hb8; have b9_8 := b9_7.call hb8; have tw_8 := tw_7.below hb8; have tx_8 := tx_7.below hb8; have tg_8 := tg_7.below hb8; have hs8 := hb8.size; obtain ⟨p2, _⟩ := b2_8.c1; obtain ⟨p8, _⟩ := b8_8.c1)
    go_wp2_with fail
    refine hK.out _ _ ?hSn1_3 (fun hHeld => ?hRn1_3)
    case hSn1_3 => ((try dsimp only); go_keep)
    clear hK K
    try simp only [Act.put, List.getElem_toArray, List.getElem_cons_zero, List.getElem_cons_succ, List.setIfInBounds_toArray, List.set_cons_zero, List.set_cons_succ]
    refine wpAnyH_take (i := 4) (oi := _) (v := ?vn1_4) rfl (by kernel_rfl) (by kernel_rfl) (by kernel_rfl) (fun _ _ _ h => h) (Or.inl ⟨by rfl, ?hyn1_4⟩) (by assumption) ?hRn1_4
    case hyn1_4 => (intro w hSw; (try dsimp only at hSw); go_simp; (try with_reducible rfl))
    try simp only [Act.put, List.getElem_toArray, List.getElem_cons_zero, List.getElem_cons_succ, List.setIfInBounds_toArray, List.set_cons_zero, List.set_cons_succ]
    refine wpAnyH_done (by kernel_rfl) ?_ _
    clear b2_6 b6_6 b8_6 b9_6 tw_6 tx_6 tg_6 b2_7 b6_7 b8_7 b9_7 tw_7 tx_7 tg_7 hf7 hb7 hb8 q2 q6 q8 q9 z2 z6 z8 z9 r2 r8 p2 p8
    obtain ⟨q2, _⟩ := b2_8.c1
    obtain ⟨q6, _⟩ := b6_8.c1
    obtain ⟨q8, _⟩ := b8_8.c1
    obtain ⟨q9, _⟩ := b9_8.c1
    have z2 := b2_8.lt
    have z6 := b6_8.lt
    have z8 := b8_8.lt
    have z9 := b9_8.lt
    go_wp2_with fail
    refine (markSurreal_any x A4 c4 bx 1 _ tx_8 ndx (by omega) (by omega)).mono ?_
    rintro e9 w9 ⟨rfl, x9, hl9, hm9, tx9, hO9⟩
    have hB9 : Below w.heap.size w w9 := hB8.trans (hO9.toBelow (fun j hj => by have := gex j hj; omega) hB8.size)
    have b2_9 := b2_8.only hO9 (fun h => by have := gex _ h; omega)
    have b6_9 := b6_8.only hO9 (fun h => by have := gex _ h; omega)
    have b9_9 := b9_8.only hO9 (fun h => by have := ltx _ h; omega)
    have tw_9 := tw_8.only hO9 (fun j hj h => by have := ltw _ hj; have := gex _ h; omega)
    have tg_9 := tg_8.only hO9 (fun j hj h => by have := geg _ hj; have := ltx _ h; omega)
    have hs9 := hO9.size
    have hmk0 : ¬ (1 + 2 * (x.total : Int)) < 0 := by omega
    clear b2_8 b6_8 b8_8 b9_8 tw_8 tx_8 tg_8 hO9 hm9 tx9 hl9 q2 q6 q8 q9 z2 z6 z8 z9
    obtain ⟨q2, _⟩ := b2_9.c1
    obtain ⟨q6, _⟩ := b6_9.c1
    obtain ⟨q9, _⟩ := b9_9.c1
    have z2 := b2_9.lt
    have z6 := b6_9.lt
    have z9 := b9_9.lt
    go_wp2_with fail
    refine (eqSurreal_any (oo.getD .nil) (oo.getD .nil) (fun _ => False) (fun _ => False) A5 A3 c5 c3 _ (tg_9.toS (fun _ _ h => h)) (tw_9.toS (fun _ _ h => h))).mono ?_
    rintro e10 w10 ⟨rfl, hb10⟩
    rw [eqB_self]
    have hB10 : Below w.heap.size w w10 := hB9.trans (hb10.mono hB9.size)
    have b2_10 := b2_9.call hb10
    have b6_10 := b6_9.call hb10
    have b9_10 := b9_9.call hb10
    have tw_10 := tw_9.below hb10
    have tg_10 := tg_9.below hb10
    have hs10 := hb10.size
    clear b2_9 b6_9 b9_9 tw_9 tg_9 hb10 q2 q6 q9 z2 z6 z9
    obtain ⟨q2, _⟩ := b2_10.c1
    obtain ⟨q6, _⟩ := b6_10.c1
    obtain ⟨q9, _⟩ := b9_10.c1
    have z2 := b2_10.lt
    have z6 := b6_10.lt
    have z9 := b9_10.lt
    have hgt := total_good gg
    go_wp2_with fail
    refine (markSurreal_any (oo.getD .nil) A5 c5 bg 1 _ tg_10 ndg (by omega) (by omega)).mono ?_
    rintro e11 w11 ⟨rfl, g11, hl11, hm11, tg_11, hO11⟩
    generalize hmm : (1 + 2 * ((oo.getD .nil).total : Int)) = mm at *
    have hmm0 : 1 ≤ mm := by omega
    have hmm1 : mm ≤ 121 := by omega
    clear hmm hgt gg
    have hB11 : Below w.heap.size w w11 := hB10.trans (hO11.toBelow (fun j hj => by have := geg j hj; omega) hB10.size)
    have b2_11 := b2_10.only hO11 (fun h => by have := geg _ h; omega)
    have b6_11 := b6_10.only hO11 (fun h => by have := geg _ h; omega)
    have b9_11 := b9_10.only hO11 (fun h => by have := ltg _ h; omega)
    have tw_11 := tw_10.only hO11 (fun j hj h => by have := ltw _ hj; have := geg _ h; omega)
    have hs11 := hO11.size
    clear b2_10 b6_10 b9_10 tw_10 tg_10 hO11 q2 q6 q9 z2 z6 z9
    have HM11 := Lib.hid hm11
    clear hm11
    have HL11 := Lib.hid hl11
    clear hl11
    obtain ⟨q2, _⟩ := b2_11.c1
    obtain ⟨q6, _⟩ := b6_11.c1
    obtain ⟨q9, _⟩ := b9_11.c1
    have z2 := b2_11.lt
    have z6 := b6_11.lt
    have z9 := b9_11.lt
    go_wp2_with fail
    rw [← HL11.out]
    refine (heldSurreal_any g11 (fun _ => False) A5 c5 1 mm _ (tg_11.toS (fun _ _ h => h)) HM11.out (by omega) (by omega)).mono ?_
    rintro e12 w12 ⟨rfl, hb12⟩
    rw [HL11.out]
    have hB12 : Below w.heap.size w w12 := hB11.trans (hb12.mono hB11.size)
    have b2_12 := b2_11.call hb12
    have b6_12 := b6_11.call hb12
    have b9_12 := b9_11.call hb12
    have tw_12 := tw_11.below hb12
    have tg_12 := tg_11.below hb12
    have hs12 := hb12.size
    clear b2_11 b6_11 b9_11 tw_11 tg_11 hb12 q2 q6 q9 z2 z6 z9
    obtain ⟨q2, _⟩ := b2_12.c1
    obtain ⟨q6, _⟩ := b6_12.c1
    obtain ⟨q9, _⟩ := b9_12.c1
    have z2 := b2_12.lt
    have z6 := b6_12.lt
    have z9 := b9_12.lt
    go_wp2_with fail
    refine (toSurreal_any x A c _ (sx.below hB12) htot).mono ?_
    rintro e13 w13 ⟨A13, c13, rfl, hf13, hb13⟩
    have hB13 : Below w.heap.size w w13 := hB12.trans (hb13.mono hB12.size)
    have b2_13 := b2_12.call hb13
    have b6_13 := b6_12.call hb13
    have b9_13 := b9_12.call hb13
    have tw_13 := tw_12.below hb13
    have tg_13 := tg_12.below hb13
    clear b2_12 b6_12 b9_12 tw_12 tg_12 hb13 q2 q6 q9 z2 z6 z9
    obtain ⟨q2, _⟩ := b2_13.c1
    obtain ⟨q6, _⟩ := b6_13.c1
    obtain ⟨q9, _⟩ := b9_13.c1
    have z2 := b2_13.lt
    have z6 := b6_13.lt
    have z9 := b9_13.lt
    go_wp2_with fail
    refine (LogTerms_any x n (fun _ => False) A13 c13 _ (hf13.toS (fun _ h => h.elim)) in_).mono ?_
    rintro e14 w14 ⟨A14, c14, rfl, hf14, hb14⟩
    have hB14 : Below w.heap.size w w14 := hB13.trans (hb14.mono hB13.size)
    rw [HOO.out]
    rw [HOO.out] at hf14
    have b2_14 := b2_13.call hb14
    have b6_14 := b6_13.call hb14
    have b9_14 := b9_13.call hb14
    have tw_14 := tw_13.below hb14
    have tg_14 := tg_13.below hb14
    clear b2_13 b6_13 b9_13 tw_13 tg_13 hb14 hf13 q2 q6 q9 z2 z6 z9
    obtain ⟨q2, _⟩ := b2_14.c1
    obtain ⟨q6, _⟩ := b6_14.c1
    obtain ⟨q9, _⟩ := b9_14.c1
    have z2 := b2_14.lt
    have z6 := b6_14.lt
    have z9 := b9_14.lt
    go_wp2_with fail
    refine (eqSurreal_any (oo.getD .nil) (oo.getD .nil) (fun _ => False) (fun _ => False) A14 A3 c14 c3 _ ((hf14.toS (fun _ h => h.elim)).below (by go_grown)) ((tw_14.toS (fun _ _ h => h)).below (by go_grown))).mono ?_
    rintro e15 w15 ⟨rfl, hb15⟩
    rw [eqB_self]
    have hB15 : Below w.heap.size w w15 := hB14.trans (Below.call (w := w14) (by go_grown) (by have := hB14.size; go_size) hb15)
    have b9_15 := Blk.thru b9_14 (by go_grown) hb15
    have tg_15 := STree.thru tg_14 (by go_grown) hb15
    clear b2_14 b6_14 b9_14 tw_14 tg_14 hb15 hf14 q2 q6 q9 z2 z6 z9
    obtain ⟨q9, _⟩ := b9_15.c1
    go_wp2_with fail
    rw [← HL11.out]
    refine (heldSurreal_any g11 (fun _ => False) A5 c5 1 mm _ (tg_15.toS (fun _ _ h => h)) HM11.out (by omega) (by omega)).mono ?_
    rintro e16 w16 ⟨rfl, hb16⟩
    go_wp2
    go_ret
    exact ⟨rfl, hB15.trans (hb16.mono hB15.size)⟩
end Go.Proofs.Ytnkghpdhmdgnmaa
