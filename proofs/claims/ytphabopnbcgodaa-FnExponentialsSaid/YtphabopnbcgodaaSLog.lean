/-
  Walks, the reference's side: LogTerms.
-/
import Derived.Test.YtphabopnbcgodaaSLogFn
namespace Go.Proofs.Ytphabopnbcgodaa
open Go.RowKit
set_option linter.unusedSimpArgs false
set_option linter.unusedVariables false

theorem slogGo_stop (z : Sur) (n : Int) (k : Nat) (i : Int) (bad : Bool) (out p : Sur) (h : ¬ i ≤ n) : slogGo z n k i bad out p = (bad, out) := by
  cases k with
  | zero => rfl
  | succ k => simp only [slogGo]; rw [if_neg h]
theorem slogGo_step (z : Sur) (n : Int) (i : Nat) (bad : Bool) (out p : Sur) (h : (i : Int) ≤ n) (hi : i ≤ 13) : slogGo z n (14 - i) i bad out p =
    slogGo z n (14 - (i + 1)) ((i + 1 : Nat) : Int) (slogB3 z bad out p i) (slogOut z bad out p i) (slogP z bad p) := by
  rw [show 14 - i = (14 - (i + 1)) + 1 from by omega]
  simp only [slogGo]
  rw [if_pos h]
  rfl
theorem slogOut_nil (z : Sur) (bad : Bool) (out p : Sur) (i : Int) (h : slogB3 z bad out p i = true) : slogOut z bad out p i = .nil := by
  unfold slogOut keepS
  unfold slogB3 at h
  rw [if_pos h]

set_option maxHeartbeats 4000000 in
set_option maxRecDepth 100000 in
theorem sLogTerms_any (x : Sur) (n : Int) (X : Nat → Prop) (A : Option Addr) (c : Nat) (w : World) (sx : SSl X w x A c) :
    Calls Try.prog 24 #[.agg #[.slice A x.len c], .int .i64 n] w (RetFreshB w (slogTerms x n)) := by
  have sx := sx.more (Y := fun _ => False) (fun _ h => h.elim)
  have k0 := ((Blk.new w 26 #[.slice A x.len c]).alloc (.cells #[.slice none 0 0] 26))
  have k1 := (Blk.new' (g := w.heap.size + 1) (w.alloc (.cells #[.slice A x.len c] 26)) 26 #[.slice none 0 0] (by simp))
  have hB0 : Below w.heap.size w ((w.alloc (.cells #[.slice A x.len c] 26)).alloc (.cells #[.slice none 0 0] 26)) := by go_grown
  cases hg : sGood x
  · have H := Lib.hid (show slogTerms x n = none by simp only [slogTerms, hg]; rfl)
    go_enter Try.func24, Try.ntmps24
    go_wp2_with fail
    refine (suGood_any x _ _ _ _ (sx.below hB0)).mono ?_
    rintro e1 w1 ⟨rfl, hb1⟩
    have hB1 := Below.call hB0 (by go_size) hb1
    obtain ⟨q2, qf2⟩ := (k1.call hb1).c1
    rw [hg]
    go_wp2
    refine bodyPost_ret (v := .tuple #[.agg #[.slice none 0 0], .bool false]) (by simp [results, Try.results24, go_sem, q2]) rfl ?_
    rw [H.out]
    exact ⟨none, 0, rfl, SFresh.nil _ _, hB1.setCell (by simp) _⟩
  · cases hn : stepsB n
    · have H := Lib.hid (show slogTerms x n = none by simp only [slogTerms, hg, hn]; rfl)
      go_enter Try.func24, Try.ntmps24
      go_wp2_with fail
      refine (suGood_any x _ _ _ _ (sx.below hB0)).mono ?_
      rintro e1 w1 ⟨rfl, hb1⟩
      have hB1 := Below.call hB0 (by go_size) hb1
      obtain ⟨q2, qf2⟩ := (k1.call hb1).c1
      rw [hg]
      go_wp2_with fail
      refine (seSteps_any n _).mono ?_
      rintro e2 w2 ⟨rfl, rfl⟩
      rw [hn]
      go_wp2
      refine bodyPost_ret (v := .tuple #[.agg #[.slice none 0 0], .bool false]) (by simp [results, Try.results24, go_sem, q2]) rfl ?_
      rw [H.out]
      exact ⟨none, 0, rfl, SFresh.nil _ _, hB1.setCell (by simp) _⟩
    · obtain ⟨hn0, hn1⟩ := stepsB_true hn
      have gx := Lib.hid hg
      have hT0 : slogTerms x n = if nearOk x = true then (if (slogGo ((nearS x).getD .nil) n 13 1 false .nil (termP .nil 1 1)).1 = true then none else some (slogGo ((nearS x).getD .nil) n 13 1 false .nil (termP .nil 1 1)).2) else none := by simp only [slogTerms, hg, hn]; rfl
      have H0 := Lib.hid hT0
      clear hT0
      have gz : sGood ((nearS x).getD .nil) = true := by
        rcases h : nearS x with _ | z
        · exact sGood_nil
        · exact sumS_good h
      have GZ := Lib.hid gz
      clear gz
      go_enter Try.func24, Try.ntmps24
      go_wp2_with fail
      refine (suGood_any x _ _ _ _ (sx.below hB0)).mono ?_
      rintro e1 w1 ⟨rfl, hb1⟩
      have hB1 := Below.call hB0 (by go_size) hb1
      have l0 := k0.call hb1
      have l1 := k1.call hb1
      obtain ⟨q0, _⟩ := l0.c1
      rw [hg]
      go_wp2_with fail
      refine (seSteps_any n _).mono ?_
      rintro e2 w2 ⟨rfl, rfl⟩
      rw [hn]
      clear hg hn
      go_wp2_with fail
      refine (seNear_any x _ _ _ _ (sx.below hB1) gx.out).mono ?_
      rintro e2 w2 ⟨Az, cz, rfl, hfz, hb2⟩
      have hB2 : Below w.heap.size w w2 := hB1.trans (hb2.mono hB1.size)
      have r1 := l1.call hb2
      have z1 := r1.lt
      obtain ⟨q1, qf1⟩ := r1.c1
      cases hok : nearOk x
      · have H := Lib.hid (H0.out.trans (if_neg (by simp [hok])))
        clear hok
        go_wp2
        refine bodyPost_ret (v := .tuple #[.agg #[.slice none 0 0], .bool false]) (by simp [results, Try.results24, go_sem, q1, z1]) rfl ?_
        rw [H.out]
        exact ⟨none, 0, rfl, SFresh.nil _ _, by go_grown⟩
      · have H := Lib.hid (H0.out.trans (if_pos hok))
        clear hok H0
        generalize (nearS x).getD .nil = z at *
        have gz := GZ.out
        clear k0 k1 l0 l1 hb1 q0 hb2
        go_wp2_with fail
        refine (suInt_any 1 (fun k => k = w2.heap.size + 1) _ (fun k hk => by subst hk; go_size) ⟨by decide, by decide⟩).mono ?_
        rintro e4 w4 ⟨A4, c4, rfl, hs4, hb4⟩
        have hB4 : Below w.heap.size w w4 := hB2.trans (Below.call (w := w2) (by go_grown) (by have := hB2.size; go_size) hb4)
        have h24 := hb4.size
        simp only [World.size_alloc] at h24
        have hs2 := hB2.size
        have m1 := Blk.thru r1 (by go_grown) hb4
        have m6 := Blk.thru (Blk.new w2 26 #[.slice Az z.len cz]) (by go_grown) hb4
        have m8 := Blk.call (Blk.new' (g := w2.heap.size + 1) (w2.alloc (.cells #[.slice Az z.len cz] 26)) 73 #[.bool false] (by simp)) hb4
        have sz1 : SSl (fun k => k = w2.heap.size + 1 ∨ k = w4.heap.size ∨ k = w4.heap.size + 1) w4 z Az cz := ((hfz.toS (X := fun _ => False) (fun k hk => hk.elim)).more (Y := (fun k => k = w2.heap.size + 1 ∨ k = w4.heap.size ∨ k = w4.heap.size + 1)) (fun k hk hlt => by rcases hk with rfl | rfl | rfl <;> omega)).past (by go_grown) hb4
        have sp1 : SSl (fun k => k = w2.heap.size + 1 ∨ k = w4.heap.size ∨ k = w4.heap.size + 1) w4 (termP .nil 1 1) A4 c4 := hs4.more (fun k hk hlt => by rcases hk with h | h | h; exact h; omega; omega)
        have gone : sGood (termP .nil 1 1) = true := sGood_real (by decide)
        have GONE := Lib.hid gone
        clear r1 q1 qf1 hb4 hfz hs4 gone
        go_wp2
        go_loopw [11] (fun s wr => ∃ (i : Nat) (bad : Bool) (Ao : Option Addr) (co : Nat) (out : Sur) (Ap : Option Addr) (cp : Nat) (p : Sur), s = .int .i64 i ∧ 1 ≤ i ∧ (i : Int) ≤ n + 1 ∧
            Blk wr (w2.heap.size + 1) 73 #[.bool bad] ∧ Blk wr w4.heap.size 26 #[.slice Ao out.len co] ∧ Blk wr w2.heap.size 26 #[.slice Az z.len cz] ∧ Blk wr (w4.heap.size + 1) 26 #[.slice Ap p.len cp] ∧ Blk wr (w.heap.size + 1) 26 #[.slice none 0 0] ∧
            SSl (fun k => k = w2.heap.size + 1 ∨ k = w4.heap.size ∨ k = w4.heap.size + 1) wr z Az cz ∧ SSl (fun k => k = w2.heap.size + 1 ∨ k = w4.heap.size ∨ k = w4.heap.size + 1) wr p Ap cp ∧ SFresh (w4.heap.size + 2) wr out Ao co ∧ Hid (sGood p = true) ∧ Hid (sGood out = true) ∧ Hid (bad = true → out = .nil) ∧
            Hid (slogGo z n 13 1 false .nil (termP .nil 1 1) = slogGo z n (14 - i) i bad out p) ∧ Below w.heap.size w wr) (fun s _ => 20 - (intOf s).toNat)
        case atStart => exact ⟨1, false, none, 0, .nil, A4, c4, termP .nil 1 1, rfl, by omega, by omega, (m8.alloc _).alloc _, (Blk.new _ _ _).alloc _, (m6.alloc _).alloc _, Blk.new' _ _ _ (by simp), (m1.alloc _).alloc _, sz1.below (by go_grown), sp1.below (by go_grown), SFresh.nil _ _, GONE, Lib.hid sGood_nil, Lib.hid (fun _ => rfl), rfl, by go_grown⟩
        case round =>
          obtain ⟨i, bad, Ao, co, out, Ap, cp, p, rfl, hi1, hin, m8, m9, m6, m10, mr, sz, sp, so, GP, GO, HNB, HS, hB⟩ := hrel
          clear m1 sz1 sp1
          obtain ⟨u8, uf8⟩ := m8.c1
          obtain ⟨u9, uf9⟩ := m9.c1
          obtain ⟨u6, _⟩ := m6.c1
          obtain ⟨u10, uf10⟩ := m10.c1
          obtain ⟨ur, urf⟩ := mr.c1
          have y8 := m8.lt
          have y9 := m9.lt
          have y10 := m10.lt
          have y6 := m6.lt
          have yr := mr.lt
          by_cases hgi : (i : Int) ≤ n
          · have HN := Lib.hid (HS.out.trans (slogGo_step z n i bad out p hgi (by omega)))
            have hi0' : (0 : Int) ≤ (i : Int) := by omega
            have HFR := Lib.hid (sgn_ok (i := i) (by omega) (by omega))
            clear H HS
            go_wp2_with fail
            refine (kmul_any p z bad (w2.heap.size + 1) _ _ _ _ _ _ _ sp sz GP.out gz u8 uf8).mono ?_
            rintro e5 w5 ⟨A5, c5, rfl, hf5, hb5⟩
            have hs5 : wr.heap.size ≤ w5.heap.size := (by have := hb5.size; rw [World.size_setCell] at this; exact this)
            have hB5 : Below w.heap.size w w5 := (hB.setCell (p := ⟨w2.heap.size + 1, 0, none⟩) (by dsimp only; omega) _).trans (hb5.mono (by go_size))
            have l8 := (m8.q0 hb5).far (p := ⟨w4.heap.size + 1, 0, none⟩) (by dsimp only; omega) (.slice A5 (keepS bad (prodS p z)).len c5)
            have l9 := (m9.q (by omega) hb5).far (p := ⟨w4.heap.size + 1, 0, none⟩) (by dsimp only; omega) (.slice A5 (keepS bad (prodS p z)).len c5)
            have l6 := (m6.q (by omega) hb5).far (p := ⟨w4.heap.size + 1, 0, none⟩) (by dsimp only; omega) (.slice A5 (keepS bad (prodS p z)).len c5)
            have l10 := (m10.q (by omega) hb5).set_ 0 (.slice A5 (keepS bad (prodS p z)).len c5)
            have lr := (mr.q (by omega) hb5).far (p := ⟨w4.heap.size + 1, 0, none⟩) (by dsimp only; omega) (.slice A5 (keepS bad (prodS p z)).len c5)
            have lz := (sz.q (.inl rfl) hb5).far (p := ⟨w4.heap.size + 1, 0, none⟩) (.inr (.inr rfl)) (.slice A5 (keepS bad (prodS p z)).len c5)
            have lp : SSl (fun k => k = w2.heap.size + 1 ∨ k = w4.heap.size ∨ k = w4.heap.size + 1) _ (keepS bad (prodS p z)) A5 c5 := (hf5.toS (fun k hk => by rcases hk with rfl | rfl | rfl <;> omega)).far (p := ⟨w4.heap.size + 1, 0, none⟩) (.inr (.inr rfl)) (.slice A5 (keepS bad (prodS p z)).len c5)
            have lo := (so.q (by omega) hb5).setCell (p := ⟨w4.heap.size + 1, 0, none⟩) (by dsimp only; omega) (.slice A5 (keepS bad (prodS p z)).len c5)
            have hB6 := hB5.setCell (p := ⟨w4.heap.size + 1, 0, none⟩) (by dsimp only; omega) (.slice A5 (keepS bad (prodS p z)).len c5)
            have v10 := (m10.q (by omega) hb5).c1
            obtain ⟨v10, vf10⟩ := v10
            obtain ⟨t, ht⟩ : ∃ t : Int, t = (i : Int).tmod 2 := ⟨_, rfl⟩
            have ht0 : 0 ≤ t ∧ t ≤ 1 := by rw [ht, Int.tmod_eq_emod_of_nonneg hi0']; omega
            obtain ⟨ht1, ht2⟩ := ht0
            have hsg : sgnI i = if (t == 0) = true then -1 else 1 := by unfold sgnI; rw [ht]
            have HSG := Lib.hid hsg
            have HT := Lib.hid ht.symm
            clear ht hsg hb5 hf5 m8 m9 m6 m10 mr sz sp so u8 uf8 u9 uf9 u6 u10 uf10 ur urf y8 y9 y10 y6 yr
            have hw1 : IntKind.i64.wrap t = t := IntWalk.i64_in _ (by omega)
            have hs6 : w4.heap.size + 2 ≤ w5.heap.size := by have := l10.lt; simp only [World.size_setCell] at this; omega
            have HW := Lib.hid (⟨hw1, HT.out⟩ : _ ∧ _)
            clear hw1
            obtain ⟨hw1, ht⟩ := HW.out
            have v9 := l9.c1
            go_upto_if 47 with fail
            clear hw1 ht
            go_cut [11] (fun s11 wx => s11 = .int .i64 i ∧ Blk wx (w2.heap.size + 1) 73 #[.bool (slogB1 z bad p)] ∧ Blk wx w4.heap.size 26 #[.slice Ao out.len co] ∧ Blk wx w2.heap.size 26 #[.slice Az z.len cz] ∧ Blk wx (w4.heap.size + 1) 26 #[.slice A5 (slogP z bad p).len c5] ∧ Blk wx (w.heap.size + 1) 26 #[.slice none 0 0] ∧
                SSl (fun k => k = w2.heap.size + 1 ∨ k = w4.heap.size ∨ k = w4.heap.size + 1) wx z Az cz ∧ SSl (fun k => k = w2.heap.size + 1 ∨ k = w4.heap.size ∨ k = w4.heap.size + 1) wx (slogP z bad p) A5 c5 ∧ SFresh (w4.heap.size + 2) wx out Ao co ∧ Blk wx w5.heap.size 29 #[.int .i64 (sgnI i), .int .i64 i] ∧ Below w.heap.size w wx)
            case first =>
              have kf := Blk.new' (g := w5.heap.size) (w5.setCell ⟨w4.heap.size + 1, 0, none⟩ (.slice A5 (keepS bad (prodS p z)).len c5)) 29 #[.int .i64 1, .int .i64 i] (by simp)
              obtain ⟨c0, c1, cf0, cf1⟩ := kf.c2
              by_cases h0 : t = 0
              · have e0 : (t == 0) = true := by simpa using h0
                have hsg := Lib.hid (HSG.out.trans (if_pos e0))
                clear h0
                go_wp2
                go_meet
                rw [hsg.out]
                exact ⟨rfl, l8.alloc _, l9.alloc _, l6.alloc _, l10.alloc _, lr.alloc _, lz.below (by go_grown), lp.below (by go_grown), lo.below (by go_grown), Blk.new' _ _ _ (by simp), hB6.alloc hB6.size _⟩
              · have e0 : (t == 0) = false := by simpa using h0
                have hsg := Lib.hid (HSG.out.trans (if_neg (by simp [e0])))
                clear h0
                go_wp2
                go_meet
                rw [hsg.out]
                exact ⟨rfl, l8.alloc _, l9.alloc _, l6.alloc _, l10.alloc _, lr.alloc _, lz.below (by go_grown), lp.below (by go_grown), lo.below (by go_grown), kf, hB6.alloc hB6.size _⟩
            case rest =>
              obtain ⟨rfl, l8, l9, l6, l10, lr, lz, lp, lo, l12, hB'⟩ := hcut
              have GP1 := slogP_good z bad p
              have GO1 := GO.out
              have hfr := HFR.out
              obtain ⟨u8, uf8⟩ := l8.c1
              obtain ⟨u9, uf9⟩ := l9.c1
              obtain ⟨u10, _⟩ := l10.c1
              obtain ⟨u12, u12', _, _⟩ := l12.c2
              have y8 := l8.lt
              have y9 := l9.lt
              have y10 := l10.lt
              have y12 := l12.lt
              have y6 := l6.lt
              have yr := lr.lt
              have hne1 : ¬ w4.heap.size + 1 = w4.heap.size := by omega
              have hne2 : ¬ w5.heap.size = w4.heap.size := by omega
              have hne3 : ¬ w4.heap.size = w5.heap.size := by omega
              go_wp2_with fail
              refine wp_region_held_drew (S := (fun w' => w'.cell? ⟨w4.heap.size + 1, 0, none⟩ = some (.slice A5 (slogP z bad p).len c5) ∧ w'.cell? ⟨w5.heap.size, 0, none⟩ = some (.int .i64 (sgnI i)) ∧ w'.cell? ⟨w5.heap.size, 1, none⟩ = some (.int .i64 i))) (by kernel_rfl) ?hSn1_ (fun hHeld => ?hRn1_)
              case hSn1_ => (go_keep)
              refine wpAnyH_take (i := 0) (oi := _) (v := ?vn1_0) rfl (by kernel_rfl) (by kernel_rfl) (by kernel_rfl) (fun _ _ _ h => h) (Or.inl ⟨by rfl, ?hyn1_0⟩) (by assumption) ?hRn1_0
              case hyn1_0 => (intro w hSw; (try dsimp only at hSw); go_simp; (try with_reducible rfl))
              try simp only [Act.put, List.getElem_toArray, List.getElem_cons_zero, List.getElem_cons_succ, List.setIfInBounds_toArray, List.set_cons_zero, List.set_cons_succ]
              refine wpAnyH_take (i := 2) (oi := _) (v := ?vn1_2) rfl (by kernel_rfl) (by kernel_rfl) (by kernel_rfl) (fun _ _ _ h => h) (Or.inl ⟨by rfl, ?hyn1_2⟩) (by assumption) ?hRn1_2
              case hyn1_2 => (intro w hSw; (try dsimp only at hSw); go_simp; (try with_reducible rfl))
              try simp only [Act.put, List.getElem_toArray, List.getElem_cons_zero, List.getElem_cons_succ, List.setIfInBounds_toArray, List.set_cons_zero, List.set_cons_succ]
              refine wpAnyH_take (i := 3) (oi := _) (v := ?vn1_3) rfl (by kernel_rfl) (by kernel_rfl) (by kernel_rfl) (fun _ _ _ h => h) (Or.inl ⟨by rfl, ?hyn1_3⟩) (by assumption) ?hRn1_3
              case hyn1_3 => (intro w hSw; (try dsimp only at hSw); go_simp; (try with_reducible rfl))
              try simp only [Act.put, List.getElem_toArray, List.getElem_cons_zero, List.getElem_cons_succ, List.setIfInBounds_toArray, List.set_cons_zero, List.set_cons_succ]
              refine wpAnyH_take (i := 4) (oi := _) (v := ?vn1_4) rfl (by kernel_rfl) (by kernel_rfl) (by kernel_rfl) (fun _ _ _ h => h) (Or.inl ⟨by rfl, ?hyn1_4⟩) (by assumption) ?hRn1_4
              case hyn1_4 => (intro w hSw; (try dsimp only at hSw); go_simp; (try with_reducible rfl))
              try simp only [Act.put, List.getElem_toArray, List.getElem_cons_zero, List.getElem_cons_succ, List.setIfInBounds_toArray, List.set_cons_zero, List.set_cons_succ]
              refine wpAnyH_ready (rs := [1, 5]) (by kernel_rfl) (by simp) ?_
              refine AllReadyH.cons (o := _) rfl (fun K hK => ?bAn1) (AllReadyH.cons (o := _) rfl (fun K hK => ?bBn1) AllReadyH.nil)
              case' bAn1 =>
                go_simp
                refine hK.out _ _ ?hSn1a_1 (fun hHeld => ?hRn1a_1)
                case hSn1a_1 => ((try dsimp only); go_keep)
                clear hK K
                try simp only [Act.put, List.getElem_toArray, List.getElem_cons_zero, List.getElem_cons_succ, List.setIfInBounds_toArray, List.set_cons_zero, List.set_cons_succ]
                refine wpAnyH_ready (rs := [5]) (by kernel_rfl) (by simp) ?_
                refine AllReadyH.cons (o := _) rfl (fun K hK => ?_) AllReadyH.nil
                go_simp
                (go_at_call 57; refine (kscale_any (slogP z bad p) (sgnI i) i (slogB1 z bad p) (w2.heap.size + 1) _ _ _ _ lp.drew GP1 hfr l8.drew.c1.1 l8.drew.c1.2).mono ?_; rintro e6 w6 ⟨A6, c6, rfl, hf6, hb6⟩; have x8 := l8.drew.q0 hb6; have x9 := l9.drew.q (by omega) hb6; have x6 := l6.drew.q (by omega) hb6; have x10 := l10.drew.q (by omega) hb6; have xr := lr.drew.q (by omega) hb6; have x12 := l12.drew.q (by omega) hb6; have xs6 : wc.heap.size ≤ w6.heap.size := (by have := hb6.size; rw [World.size_setCell] at this; exact this); have xz := lz.drew.q (.inl rfl) hb6; have xp := lp.drew.q (.inl rfl) hb6; have xo := lo.drew.q (by omega) hb6; obtain ⟨a9, af9⟩ := x9.c1; obtain ⟨a10, _⟩ := x10.c1; obtain ⟨a12, a12', _, _⟩ := x12.c2)
                go_wp2_with fail
                refine hK.out _ _ ?hSn1a_5 (fun hHeld => ?hRn1a_5)
                case hSn1a_5 => ((try dsimp only); go_keep)
                clear hK K
                try simp only [Act.put, List.getElem_toArray, List.getElem_cons_zero, List.getElem_cons_succ, List.setIfInBounds_toArray, List.set_cons_zero, List.set_cons_succ]
                refine wpAnyH_ready (rs := [6]) (by kernel_rfl) (by simp) ?_
                refine AllReadyH.cons (o := _) rfl (fun K hK => ?_) AllReadyH.nil
                go_simp
                (go_at_call 59; refine (kadd_any out (slogT z bad p i) (slogB2 z bad p i) (w2.heap.size + 1) (fun _ => False) (fun _ => False) _ _ _ _ _ (xo.toS (fun k hk => hk.elim)) (hf6.toS (fun k hk => hk.elim)) GO1 (slogT_good z bad p i) x8.c1.1 x8.c1.2).mono ?_; rintro e7 w7 ⟨A7, c7, rfl, hf7, hb7⟩; have t8 := x8.q0 hb7; have t9 := x9.q (by omega) hb7; have t6 := x6.q (by omega) hb7; have t10 := x10.q (by omega) hb7; have tr := xr.q (by omega) hb7; have t12 := x12.q (by omega) hb7; have ts7 : w6.heap.size ≤ w7.heap.size := (by have := hb7.size; rw [World.size_setCell] at this; exact this); have hB6' : Below w.heap.size w w6 := (hB'.drew.setCell (p := ⟨w2.heap.size + 1, 0, none⟩) (by dsimp only; omega) _).trans (hb6.mono hB'.size); have hB7 : Below w.heap.size w w7 := (hB6'.setCell (p := ⟨w2.heap.size + 1, 0, none⟩) (by dsimp only; omega) _).trans (hb7.mono hB6'.size); have tz := xz.q (.inl rfl) hb7; have tp := xp.q (.inl rfl) hb7; obtain ⟨b9, bf9⟩ := t9.c1; obtain ⟨b10, _⟩ := t10.c1; obtain ⟨b12, b12', _, _⟩ := t12.c2)
                go_wp2_with fail
                refine hK.out _ _ ?hSn1a_6 (fun hHeld => ?hRn1a_6)
                case hSn1a_6 => ((try dsimp only); go_keep)
                clear hK K
                try simp only [Act.put, List.getElem_toArray, List.getElem_cons_zero, List.getElem_cons_succ, List.setIfInBounds_toArray, List.set_cons_zero, List.set_cons_succ]
                refine wpAnyH_ready (rs := [7]) (by kernel_rfl) (by simp) ?_
                refine AllReadyH.cons (o := _) rfl (fun K hK => ?_) AllReadyH.nil
                go_simp
                refine hK.out _ _ ?hSn1a_7 (fun hHeld => ?hRn1a_7)
                case hSn1a_7 => ((try dsimp only); go_keep)
                clear hK K
                try simp only [Act.put, List.getElem_toArray, List.getElem_cons_zero, List.getElem_cons_succ, List.setIfInBounds_toArray, List.set_cons_zero, List.set_cons_succ]
                refine wpAnyH_done (by kernel_rfl) ?_ _
              case' bBn1 =>
                go_simp
                (go_at_call 57; refine (kscale_any (slogP z bad p) (sgnI i) i (slogB1 z bad p) (w2.heap.size + 1) _ _ _ _ lp.drew GP1 hfr l8.drew.c1.1 l8.drew.c1.2).mono ?_; rintro e6 w6 ⟨A6, c6, rfl, hf6, hb6⟩; have x8 := l8.drew.q0 hb6; have x9 := l9.drew.q (by omega) hb6; have x6 := l6.drew.q (by omega) hb6; have x10 := l10.drew.q (by omega) hb6; have xr := lr.drew.q (by omega) hb6; have x12 := l12.drew.q (by omega) hb6; have xs6 : wc.heap.size ≤ w6.heap.size := (by have := hb6.size; rw [World.size_setCell] at this; exact this); have xz := lz.drew.q (.inl rfl) hb6; have xp := lp.drew.q (.inl rfl) hb6; have xo := lo.drew.q (by omega) hb6; obtain ⟨a9, af9⟩ := x9.c1; obtain ⟨a10, _⟩ := x10.c1; obtain ⟨a12, a12', _, _⟩ := x12.c2)
                go_wp2_with fail
                refine hK.out _ _ ?hSn1b_5 (fun hHeld => ?hRn1b_5)
                case hSn1b_5 => ((try dsimp only); go_keep)
                clear hK K
                try simp only [Act.put, List.getElem_toArray, List.getElem_cons_zero, List.getElem_cons_succ, List.setIfInBounds_toArray, List.set_cons_zero, List.set_cons_succ]
                refine wpAnyH_ready (rs := [1]) (by kernel_rfl) (by simp) ?_
                refine AllReadyH.cons (o := _) rfl (fun K hK => ?_) AllReadyH.nil
                go_simp
                refine hK.out _ _ ?hSn1b_1 (fun hHeld => ?hRn1b_1)
                case hSn1b_1 => ((try dsimp only); go_keep)
                clear hK K
                try simp only [Act.put, List.getElem_toArray, List.getElem_cons_zero, List.getElem_cons_succ, List.setIfInBounds_toArray, List.set_cons_zero, List.set_cons_succ]
                refine wpAnyH_ready (rs := [6]) (by kernel_rfl) (by simp) ?_
                refine AllReadyH.cons (o := _) rfl (fun K hK => ?_) AllReadyH.nil
                go_simp
                (go_at_call 59; refine (kadd_any out (slogT z bad p i) (slogB2 z bad p i) (w2.heap.size + 1) (fun _ => False) (fun _ => False) _ _ _ _ _ (xo.toS (fun k hk => hk.elim)) (hf6.toS (fun k hk => hk.elim)) GO1 (slogT_good z bad p i) x8.c1.1 x8.c1.2).mono ?_; rintro e7 w7 ⟨A7, c7, rfl, hf7, hb7⟩; have t8 := x8.q0 hb7; have t9 := x9.q (by omega) hb7; have t6 := x6.q (by omega) hb7; have t10 := x10.q (by omega) hb7; have tr := xr.q (by omega) hb7; have t12 := x12.q (by omega) hb7; have ts7 : w6.heap.size ≤ w7.heap.size := (by have := hb7.size; rw [World.size_setCell] at this; exact this); have hB6' : Below w.heap.size w w6 := (hB'.drew.setCell (p := ⟨w2.heap.size + 1, 0, none⟩) (by dsimp only; omega) _).trans (hb6.mono hB'.size); have hB7 : Below w.heap.size w w7 := (hB6'.setCell (p := ⟨w2.heap.size + 1, 0, none⟩) (by dsimp only; omega) _).trans (hb7.mono hB6'.size); have tz := xz.q (.inl rfl) hb7; have tp := xp.q (.inl rfl) hb7; obtain ⟨b9, bf9⟩ := t9.c1; obtain ⟨b10, _⟩ := t10.c1; obtain ⟨b12, b12', _, _⟩ := t12.c2)
                go_wp2_with fail
                refine hK.out _ _ ?hSn1b_6 (fun hHeld => ?hRn1b_6)
                case hSn1b_6 => ((try dsimp only); go_keep)
                clear hK K
                try simp only [Act.put, List.getElem_toArray, List.getElem_cons_zero, List.getElem_cons_succ, List.setIfInBounds_toArray, List.set_cons_zero, List.set_cons_succ]
                refine wpAnyH_ready (rs := [7]) (by kernel_rfl) (by simp) ?_
                refine AllReadyH.cons (o := _) rfl (fun K hK => ?_) AllReadyH.nil
                go_simp
                refine hK.out _ _ ?hSn1b_7 (fun hHeld => ?hRn1b_7)
                case hSn1b_7 => ((try dsimp only); go_keep)
                clear hK K
                try simp only [Act.put, List.getElem_toArray, List.getElem_cons_zero, List.getElem_cons_succ, List.setIfInBounds_toArray, List.set_cons_zero, List.set_cons_succ]
                refine wpAnyH_done (by kernel_rfl) ?_ _
              all_goals
                go_wp2
                have hcw := hB'.size
                have hi1 : (i : Int) + 1 = ((i + 1 : Nat) : Int) := by omega
                exact ⟨⟨i + 1, _, A7, c7, _, A5, c5, slogP z bad p, by go_num, by omega, by omega, t8.far (by dsimp only; omega) _, t9.set_ 0 _, t6.far (by dsimp only; omega) _, t10.far (by dsimp only; omega) _, tr.far (by dsimp only; omega) _, tz.far (.inr (.inl rfl)) _, tp.far (.inr (.inl rfl)) _, (hf7.mono (by omega)).setCell (by dsimp only; omega) _, Lib.hid GP1, Lib.hid (slogOut_good z bad out p i), Lib.hid (slogOut_nil z bad out p i), HN, hB7.setCell (by dsimp only; omega) _⟩, by simp [intOf]; omega⟩
          · have HE := Lib.hid (HS.out.trans (slogGo_stop z n _ _ _ _ _ hgi))
            have hne1 : ¬ w4.heap.size = w.heap.size + 1 := by omega
            have hne2 : ¬ w2.heap.size = w.heap.size := by omega
            have hne3 : ¬ w.heap.size + 1 = w4.heap.size := by omega
            have hne4 : ¬ w.heap.size = w2.heap.size := by omega
            go_wp2_with fail
            refine wp_region_held_drew (S := (fun w' => w'.cell? ⟨w4.heap.size, 0, none⟩ = some (.slice Ao out.len co) ∧ w'.cell? ⟨w2.heap.size + 1, 0, none⟩ = some (.bool bad))) (by kernel_rfl) ?hSn2_ (fun hHeld => ?hRn2_)
            case hSn2_ => (go_keep)
            refine wpAnyH_take (i := 0) (oi := _) (v := ?vn2_0) rfl (by kernel_rfl) (by kernel_rfl) (by kernel_rfl) (fun _ _ _ h => h) (Or.inl ⟨by rfl, ?hyn2_0⟩) (by assumption) ?hRn2_0
            case hyn2_0 => (intro w hSw; (try dsimp only at hSw); go_simp; (try with_reducible rfl))
            try simp only [Act.put, List.getElem_toArray, List.getElem_cons_zero, List.getElem_cons_succ, List.setIfInBounds_toArray, List.set_cons_zero, List.set_cons_succ]
            refine wpAnyH_take (i := 1) (oi := _) (v := ?vn2_1) rfl (by kernel_rfl) (by kernel_rfl) (by kernel_rfl) (fun _ _ _ h => h) (Or.inl ⟨by rfl, ?hyn2_1⟩) (by assumption) ?hRn2_1
            case hyn2_1 => (intro w hSw; (try dsimp only at hSw); go_simp; (try with_reducible rfl))
            try simp only [Act.put, List.getElem_toArray, List.getElem_cons_zero, List.getElem_cons_succ, List.setIfInBounds_toArray, List.set_cons_zero, List.set_cons_succ]
            refine wpAnyH_take (i := 2) (oi := _) (v := ?vn2_2) rfl (by kernel_rfl) (by kernel_rfl) (by kernel_rfl) (fun _ _ _ h => h) (Or.inl ⟨by rfl, ?hyn2_2⟩) (by assumption) ?hRn2_2
            case hyn2_2 => (intro w hSw; (try dsimp only at hSw); go_simp; (try with_reducible rfl))
            try simp only [Act.put, List.getElem_toArray, List.getElem_cons_zero, List.getElem_cons_succ, List.setIfInBounds_toArray, List.set_cons_zero, List.set_cons_succ]
            refine wpAnyH_take (i := 3) (oi := _) (v := ?vn2_3) rfl (by kernel_rfl) (by kernel_rfl) (by kernel_rfl) (fun _ _ _ h => h) (Or.inl ⟨by rfl, ?hyn2_3⟩) (by assumption) ?hRn2_3
            case hyn2_3 => (intro w hSw; (try dsimp only at hSw); go_simp; (try with_reducible rfl))
            try simp only [Act.put, List.getElem_toArray, List.getElem_cons_zero, List.getElem_cons_succ, List.setIfInBounds_toArray, List.set_cons_zero, List.set_cons_succ]
            refine wpAnyH_take (i := 4) (oi := _) (v := ?vn2_4) rfl (by kernel_rfl) (by kernel_rfl) (by kernel_rfl) (fun _ _ _ h => h) (Or.inl ⟨by rfl, ?hyn2_4⟩) (by assumption) ?hRn2_4
            case hyn2_4 => (intro w hSw; (try dsimp only at hSw); go_simp; (try with_reducible rfl))
            try simp only [Act.put, List.getElem_toArray, List.getElem_cons_zero, List.getElem_cons_succ, List.setIfInBounds_toArray, List.set_cons_zero, List.set_cons_succ]
            refine wpAnyH_take (i := 5) (oi := _) (v := ?vn2_5) rfl (by kernel_rfl) (by kernel_rfl) (by kernel_rfl) (fun _ _ _ h => h) (Or.inl ⟨by rfl, ?hyn2_5⟩) (by assumption) ?hRn2_5
            case hyn2_5 => (intro w hSw; (try dsimp only at hSw); go_simp; (try with_reducible rfl))
            try simp only [Act.put, List.getElem_toArray, List.getElem_cons_zero, List.getElem_cons_succ, List.setIfInBounds_toArray, List.set_cons_zero, List.set_cons_succ]
            refine wpAnyH_ready (rs := [6]) (by kernel_rfl) (by simp) ?_
            refine AllReadyH.cons (o := _) rfl (fun K hK => ?_) AllReadyH.nil
            go_simp
            refine hK.out _ _ ?hSn2_6 (fun hHeld => ?hRn2_6)
            case hSn2_6 => ((try dsimp only); go_keep)
            clear hK K
            try simp only [Act.put, List.getElem_toArray, List.getElem_cons_zero, List.getElem_cons_succ, List.setIfInBounds_toArray, List.set_cons_zero, List.set_cons_succ]
            refine wpAnyH_take (i := 7) (oi := _) (v := ?vn2_7) rfl (by kernel_rfl) (by kernel_rfl) (by kernel_rfl) (fun _ _ _ h => h) (Or.inl ⟨by rfl, ?hyn2_7⟩) (by assumption) ?hRn2_7
            case hyn2_7 => (intro w hSw; (try dsimp only at hSw); go_simp; (try with_reducible rfl))
            try simp only [Act.put, List.getElem_toArray, List.getElem_cons_zero, List.getElem_cons_succ, List.setIfInBounds_toArray, List.set_cons_zero, List.set_cons_succ]
            refine wpAnyH_done (by kernel_rfl) ?_ _
            go_wp2
            refine bodyPost_ret (v := .tuple #[.agg #[.slice Ao out.len co], .bool (!bad)]) (by simp [results, Try.results24, go_sem, ur]) rfl ?_
            rw [H.out, HE.out]
            cases bad
            · exact ⟨Ao, co, rfl, ((so.drew.setCell (p := ⟨w.heap.size + 1, 0, none⟩) (by dsimp only; omega) _).mono (by omega)), hB.drew.setCell (by simp) _⟩
            · have hnil := HNB.out rfl
              subst hnil
              exact ⟨Ao, co, rfl, ((so.drew.setCell (p := ⟨w.heap.size + 1, 0, none⟩) (by dsimp only; omega) _).mono (by omega)), hB.drew.setCell (by simp) _⟩
end Go.Proofs.Ytphabopnbcgodaa
