/-
  Walks: LogTerms.
-/
import Derived.Test.YtphabopnbcgodaaWMaker2
import Derived.Deep.DeepCutAuto
import Derived.Deep.RegionHeld3
namespace Go.Proofs.Ytphabopnbcgodaa
open Go.RowKit
set_option linter.unusedSimpArgs false
set_option linter.unusedVariables false

theorem Blk.q0 {w w2 : World} {mb : Nat} {t : TypeId} {u v : Value} (h : Blk w mb t #[u]) (hb : Below w.heap.size (w.setCell ⟨mb, 0, none⟩ v) w2) : Blk w2 mb t #[v] := (h.set_ 0 v).below hb h.lt

theorem SSl.drew {X : Nat → Prop} {w : World} {e : Sur} {A : Option Addr} {c : Nat} (h : SSl X w e A c) : SSl X w.drew e A c := h.below (by go_grown)
theorem SFresh.drew {B : Nat} {w : World} {e : Sur} {A : Option Addr} {c : Nat} (h : SFresh B w e A c) : SFresh B w.drew e A c := h.below (by go_grown)
/-- the power at a step -/
def logPow (z p : Sur) (i : Int) : Option Sur := if 1 < i then mulS p z else some p
def logSc (p : Sur) (i : Int) : Option Sur := scaleS p (2 * i.tmod 2 - 1) i
/-- the steps of a logarithm, as the program makes them -/
def logGo (z : Sur) (n : Int) : Nat → Int → Bool → Sur → Sur → Bool × Sur
  | 0, _, bad, out, _ => (bad, out)
  | k + 1, i, bad, out, p =>
    if i ≤ n ∧ bad = false then
      logGo z n k (i + 1) (((bad || !(logPow z p i).isSome) || !(logSc ((logPow z p i).getD .nil) i).isSome) || !(addS out ((logSc ((logPow z p i).getD .nil) i).getD .nil)).isSome)
        ((addS out ((logSc ((logPow z p i).getD .nil) i).getD .nil)).getD .nil) ((logPow z p i).getD .nil)
    else (bad, out)
def logT (x : Sur) (n : Int) : Option Sur :=
  if (sGood x && stepsB n) = true then
    let z := (lessOne x).getD .nil
    let r := logGo z n 13 1 (nearBad false x) .nil z
    if r.1 = true then none else some r.2
  else none
theorem logGo_stop (z : Sur) (n : Int) (k : Nat) (i : Int) (bad : Bool) (out p : Sur) (h : ¬ (i ≤ n ∧ bad = false)) : logGo z n k i bad out p = (bad, out) := by
  cases k with
  | zero => rfl
  | succ k => simp only [logGo]; rw [if_neg h]
theorem logGo_step (z : Sur) (n : Int) (i : Nat) (out p : Sur) (h : (i : Int) ≤ n) (hi : i ≤ 13) : logGo z n (14 - i) i false out p =
    logGo z n (14 - (i + 1)) ((i + 1 : Nat) : Int) (((false || !(logPow z p i).isSome) || !(logSc ((logPow z p i).getD .nil) i).isSome) || !(addS out ((logSc ((logPow z p i).getD .nil) i).getD .nil)).isSome)
        ((addS out ((logSc ((logPow z p i).getD .nil) i).getD .nil)).getD .nil) ((logPow z p i).getD .nil) := by
  rw [show 14 - i = (14 - (i + 1)) + 1 from by omega]
  simp only [logGo]
  rw [if_pos (by simp [h])]
  rfl
theorem stepsB_true {n : Int} (h : stepsB n = true) : 0 ≤ n ∧ n ≤ 12 := inB_true.1 h

set_option maxHeartbeats 4000000 in
theorem LogTerms_any (x : Sur) (n : Int) (X : Nat → Prop) (A : Option Addr) (c : Nat) (w : World) (sx : SSl X w x A c) (in_ : I64 n) :
    Calls Try.prog 23 #[.agg #[.slice A x.len c], .int .i64 n] w (RetFreshB w (logT x n)) := by
  have sx := sx.more (Y := fun _ => False) (fun _ h => h.elim)
  have k0 := ((Blk.new w 26 #[.slice A x.len c]).alloc (.cells #[.slice none 0 0] 26))
  have k1 := (Blk.new' (g := w.heap.size + 1) (w.alloc (.cells #[.slice A x.len c] 26)) 26 #[.slice none 0 0] (by simp))
  have hB0 : Below w.heap.size w ((w.alloc (.cells #[.slice A x.len c] 26)).alloc (.cells #[.slice none 0 0] 26)) := by go_grown
  cases hg : sGood x
  · have H := Lib.hid (show logT x n = none by simp only [logT, hg]; rfl)
    go_enter Try.func23, Try.ntmps23
    go_wp2_with fail
    refine (IsSurreal_any x _ _ _ _ (sx.below hB0)).mono ?_
    rintro e1 w1 ⟨rfl, hb1⟩
    have hB1 := Below.call hB0 (by go_size) hb1
    obtain ⟨q2, qf2⟩ := (k1.call hb1).c1
    rw [hg]
    go_wp2
    refine bodyPost_ret (v := .tuple #[.agg #[.slice none 0 0], .bool false]) (by simp [results, Try.results23, go_sem, q2]) rfl ?_
    rw [H.out]
    exact ⟨none, 0, rfl, SFresh.nil _ _, hB1.setCell (by simp) _⟩
  · cases hn : stepsB n
    · have H := Lib.hid (show logT x n = none by simp only [logT, hg, hn]; rfl)
      go_enter Try.func23, Try.ntmps23
      go_wp2_with fail
      refine (IsSurreal_any x _ _ _ _ (sx.below hB0)).mono ?_
      rintro e1 w1 ⟨rfl, hb1⟩
      have hB1 := Below.call hB0 (by go_size) hb1
      obtain ⟨q2, qf2⟩ := (k1.call hb1).c1
      rw [hg]
      go_wp2_with fail
      refine (stepsOk_any n _).mono ?_
      rintro e2 w2 ⟨rfl, rfl⟩
      rw [hn]
      go_wp2
      refine bodyPost_ret (v := .tuple #[.agg #[.slice none 0 0], .bool false]) (by simp [results, Try.results23, go_sem, q2]) rfl ?_
      rw [H.out]
      exact ⟨none, 0, rfl, SFresh.nil _ _, hB1.setCell (by simp) _⟩
    · have H := Lib.hid (show logT x n = if (logGo ((lessOne x).getD .nil) n 13 1 (nearBad false x) .nil ((lessOne x).getD .nil)).1 = true then none else some (logGo ((lessOne x).getD .nil) n 13 1 (nearBad false x) .nil ((lessOne x).getD .nil)).2 by simp only [logT, hg, hn]; rfl)
      obtain ⟨hn0, hn1⟩ := stepsB_true hn
      go_enter Try.func23, Try.ntmps23
      go_wp2_with fail
      refine (IsSurreal_any x _ _ _ _ (sx.below hB0)).mono ?_
      rintro e1 w1 ⟨rfl, hb1⟩
      have hB1 := Below.call hB0 (by go_size) hb1
      have l0 := k0.call hb1
      have l1 := k1.call hb1
      obtain ⟨q0, _⟩ := l0.c1
      obtain ⟨q2, qf2⟩ := l1.c1
      rw [hg]
      go_wp2_with fail
      refine (stepsOk_any n _).mono ?_
      rintro e2 w2 ⟨rfl, rfl⟩
      rw [hn]
      clear hg hn
      have z1 := l1.lt
      have z0 := l0.lt
      have z0' : w.heap.size < w1.heap.size + 1 := by omega
      have z1' : w.heap.size + 1 < w1.heap.size + 1 := by omega
      go_wp2_with fail
      have km := (Blk.new w1 68 #[.bool false]).alloc (.cells #[.slice none 0 0] 26)
      have ko := Blk.new' (g := w1.heap.size + 1) (w1.alloc (.cells #[.bool false] 68)) 26 #[.slice none 0 0] (by simp)
      have kr := (l1.alloc (.cells #[.bool false] 68)).alloc (.cells #[.slice none 0 0] 26)
      refine (nearOne_any x false w1.heap.size _ _ _ _ (sx.below (by go_grown)) km.c1.1 km.c1.2).mono ?_
      rintro e3 w3 ⟨Az, cz, rfl, hfz, hb3⟩
      have m1 := km.q0 hb3
      have o1 := ko.q (by omega) hb3
      have r1 := kr.q (by omega) hb3
      have hB3 : Below w.heap.size w w3 := (((hB1.alloc hB1.size _).alloc (by go_size) _).setCell (p := ⟨w1.heap.size, 0, none⟩) hB1.size (.bool (nearBad false x))).trans (hb3.mono (by go_size))
      clear km ko kr l0 l1 hb3 k0 k1 q0 q2 qf2
      generalize (lessOne x).getD .nil = z at *
      generalize nearBad false x = nb at *
      have hs3 := hB3.size
      have o1l := o1.lt
      have hz1s := hB1.size
      have sz1 : SSl (fun k => k = w1.heap.size ∨ k = w1.heap.size + 1 ∨ k = w3.heap.size + 1) w3 z Az cz := (hfz.toS (X := fun k => k = w1.heap.size ∨ k = w1.heap.size + 1) (fun k hk => by rcases hk with rfl | rfl <;> go_size)).more (fun k hk hlt => by rcases hk with h | h | h; exact .inl h; exact .inr h; omega)
      have zz := z1
      clear z1 z0 z0' z1'
      go_wp2
      go_loopw [10] (fun s wr => ∃ (i : Nat) (bad : Bool) (Ao : Option Addr) (co : Nat) (out : Sur) (Ap : Option Addr) (cp : Nat) (p : Sur), s = .int .i64 i ∧ 1 ≤ i ∧ (i : Int) ≤ n + 1 ∧
          Blk wr w1.heap.size 68 #[.bool bad] ∧ Blk wr (w1.heap.size + 1) 26 #[.slice Ao out.len co] ∧ Blk wr w3.heap.size 26 #[.slice Az z.len cz] ∧ Blk wr (w3.heap.size + 1) 26 #[.slice Ap p.len cp] ∧ Blk wr (w.heap.size + 1) 26 #[.slice none 0 0] ∧
          SSl (fun k => k = w1.heap.size ∨ k = w1.heap.size + 1 ∨ k = w3.heap.size + 1) wr z Az cz ∧ SSl (fun k => k = w1.heap.size ∨ k = w1.heap.size + 1 ∨ k = w3.heap.size + 1) wr p Ap cp ∧ SFresh (w3.heap.size + 2) wr out Ao co ∧
          Hid (logGo z n 13 1 nb .nil z = logGo z n (14 - i) i bad out p) ∧ Below w.heap.size w wr) (fun s _ => 20 - (intOf s).toNat)
      case atStart => exact ⟨1, nb, none, 0, .nil, Az, cz, z, rfl, by omega, by omega, (m1.alloc _).alloc _, (o1.alloc _).alloc _, (Blk.new _ _ _).alloc _, Blk.new' _ _ _ (by simp), (r1.alloc _).alloc _, sz1.below (by go_grown), sz1.below (by go_grown), SFresh.nil _ _, rfl, by go_grown⟩
      case round =>
        obtain ⟨i, bad, Ao, co, out, Ap, cp, p, rfl, hi1, hin, m0, n7, n8, n9, nr, sz, sp, so, HS, hB⟩ := hrel
        clear m1 o1 r1 sz1 hfz
        obtain ⟨u6, uf6⟩ := m0.c1
        obtain ⟨u7, uf7⟩ := n7.c1
        obtain ⟨u8, _⟩ := n8.c1
        obtain ⟨u9, uf9⟩ := n9.c1
        obtain ⟨ur, urf⟩ := nr.c1
        have y9 := n9.lt
        have y8 := n8.lt
        have y7 := n7.lt
        have y6 := m0.lt
        have yr := nr.lt
        by_cases hgo : (i : Int) ≤ n ∧ bad = false
        · obtain ⟨hgi, rfl⟩ := hgo
          have HN := Lib.hid (HS.out.trans (logGo_step z n i out p hgi (by omega)))
          have hi0' : (0 : Int) ≤ (i : Int) := by omega
          clear H HS
          obtain ⟨t, ht⟩ : ∃ t : Int, t = (i : Int).tmod 2 := ⟨_, rfl⟩
          have ht0 : 0 ≤ t ∧ t ≤ 1 := by rw [ht, Int.tmod_eq_emod_of_nonneg hi0']; omega
          obtain ⟨ht1, ht2⟩ := ht0
          have HT := Lib.hid ht.symm
          clear ht
          go_upto_if 36 with fail
          go_cut [10] (fun s10 wx => s10 = .int .i64 i ∧ ∃ (A1 : Option Addr) (c1 : Nat), Blk wx w1.heap.size 68 #[.bool (false || !(logPow z p i).isSome)] ∧ Blk wx (w1.heap.size + 1) 26 #[.slice Ao out.len co] ∧ Blk wx w3.heap.size 26 #[.slice Az z.len cz] ∧ Blk wx (w3.heap.size + 1) 26 #[.slice A1 ((logPow z p i).getD .nil).len c1] ∧ Blk wx (w.heap.size + 1) 26 #[.slice none 0 0] ∧
              SSl (fun k => k = w1.heap.size ∨ k = w1.heap.size + 1 ∨ k = w3.heap.size + 1) wx z Az cz ∧ SSl (fun k => k = w1.heap.size ∨ k = w1.heap.size + 1 ∨ k = w3.heap.size + 1) wx ((logPow z p i).getD .nil) A1 c1 ∧ SFresh (w3.heap.size + 2) wx out Ao co ∧ Below w.heap.size w wx)
          case first =>
            by_cases h1 : (1 : Int) < (i : Int)
            · have hp : logPow z p i = mulS p z := if_pos h1
              have HP := Lib.hid hp
              clear hp
              go_wp2_with fail
              refine (mmul_any p z false w1.heap.size _ _ _ _ _ _ _ sp sz u6 uf6).mono ?_
              rintro e4 w4 ⟨A4, c4, rfl, hf4, hb4⟩
              have l6 := m0.q0 hb4
              have l7 := n7.q (by omega) hb4
              have l8 := n8.q (by omega) hb4
              have l9 := n9.q (by omega) hb4
              have lr := nr.q (by omega) hb4
              have hB4 : Below w.heap.size w w4 := (hB.setCell (p := ⟨w1.heap.size, 0, none⟩) hz1s _).trans (hb4.mono (by go_size))
              have hs4 := hb4.size
              simp only [World.size_setCell] at hs4
              obtain ⟨v9, vf9⟩ := l9.c1
              go_wp2
              go_meet
              rw [HP.out]
              exact ⟨rfl, A4, c4, l6.far (by dsimp only; omega) _, l7.far (by dsimp only; omega) _, l8.far (by dsimp only; omega) _, l9.set_ 0 _, lr.far (by dsimp only; omega) _, (sz.q (.inl rfl) hb4).far (.inr (.inr rfl)) _, (hf4.toS (fun k hk => by rcases hk with rfl | rfl | rfl <;> omega)).far (.inr (.inr rfl)) _, (so.q (by omega) hb4).setCell (by dsimp only; omega) _, hB4.setCell (by dsimp only; omega) _⟩
            · have hp : logPow z p i = some p := if_neg h1
              have HP := Lib.hid hp
              clear hp
              go_wp2
              go_meet
              rw [HP.out]
              exact ⟨rfl, Ap, cp, m0, n7, n8, n9, nr, sz, sp, so, hB⟩
          case rest =>
            obtain ⟨rfl, A1, c1, l6, l7, l8, l9, lr, sz', sp', so', hB'⟩ := hcut
            generalize (logPow z p i).getD .nil = p1 at *
            generalize (false || !(logPow z p i).isSome) = b1 at *
            clear m0 n7 n8 n9 nr sz sp so u6 uf6 u7 uf7 u8 u9 uf9 ur urf y9 y8 y7 y6 yr hB
            obtain ⟨v6, vf6⟩ := l6.c1
            obtain ⟨v7, vf7⟩ := l7.c1
            obtain ⟨v9, _⟩ := l9.c1
            have y9 := l9.lt
            have y8 := l8.lt
            have y7 := l7.lt
            have y6 := l6.lt
            have yr := lr.lt
            have hne1 : ¬ w3.heap.size = w1.heap.size := by omega
            have hne2 : ¬ w1.heap.size = w3.heap.size := by omega
            have ht := HT.out
            have hw1 : IntKind.i64.wrap t = t := IntWalk.i64_in _ (by omega)
            have hw2 : IntKind.i64.wrap (2 * t) = 2 * t := IntWalk.i64_in _ (by omega)
            have hw3 : IntKind.i64.wrap (2 * t - 1) = 2 * t - 1 := IntWalk.i64_in _ (by omega)
            have HW := Lib.hid (⟨ht, hw1, hw2, hw3⟩ : _ ∧ _ ∧ _ ∧ _)
            clear ht hw1 hw2 hw3
            go_wp2_with fail
            obtain ⟨ht, hw1, hw2, hw3⟩ := HW.out
            refine wp_region_held_drew (S := (fun w' => w'.cell? ⟨w3.heap.size + 1, 0, none⟩ = some (.slice A1 p1.len c1))) (by kernel_rfl) ?hSn1_ (fun hHeld => ?hRn1_)
            case hSn1_ => (go_keep)
            refine wpAnyH_take (i := 1) (oi := _) (v := ?vn1_1) rfl (by kernel_rfl) (by kernel_rfl) (by kernel_rfl) (fun _ _ _ h => h) (Or.inl ⟨by rfl, ?hyn1_1⟩) (by assumption) ?hRn1_1
            case hyn1_1 => (intro w hSw; (try dsimp only at hSw); go_simp; (try with_reducible rfl))
            try simp only [Act.put, List.getElem_toArray, List.getElem_cons_zero, List.getElem_cons_succ, List.setIfInBounds_toArray, List.set_cons_zero, List.set_cons_succ]
            refine wpAnyH_take (i := 2) (oi := _) (v := ?vn1_2) rfl (by kernel_rfl) (by kernel_rfl) (by kernel_rfl) (fun _ _ _ h => h) (Or.inl ⟨by rfl, ?hyn1_2⟩) (by assumption) ?hRn1_2
            case hyn1_2 => (intro w hSw; (try dsimp only at hSw); go_simp; (try with_reducible rfl))
            try simp only [Act.put, List.getElem_toArray, List.getElem_cons_zero, List.getElem_cons_succ, List.setIfInBounds_toArray, List.set_cons_zero, List.set_cons_succ]
            refine wpAnyH_take (i := 3) (oi := _) (v := ?vn1_3) rfl (by kernel_rfl) (by kernel_rfl) (by kernel_rfl) (fun _ _ _ h => h) (Or.inl ⟨by rfl, ?hyn1_3⟩) (by assumption) ?hRn1_3
            case hyn1_3 => (intro w hSw; (try dsimp only at hSw); go_simp; (try with_reducible rfl))
            try simp only [Act.put, List.getElem_toArray, List.getElem_cons_zero, List.getElem_cons_succ, List.setIfInBounds_toArray, List.set_cons_zero, List.set_cons_succ]
            refine wpAnyH_take (i := 4) (oi := _) (v := ?vn1_4) rfl (by kernel_rfl) (by kernel_rfl) (by kernel_rfl) (fun _ _ _ h => h) (Or.inl ⟨by rfl, ?hyn1_4⟩) (by assumption) ?hRn1_4
            case hyn1_4 => (intro w hSw; (try dsimp only at hSw); go_simp; (try with_reducible rfl))
            try simp only [Act.put, List.getElem_toArray, List.getElem_cons_zero, List.getElem_cons_succ, List.setIfInBounds_toArray, List.set_cons_zero, List.set_cons_succ]
            refine wpAnyH_take (i := 5) (oi := _) (v := ?vn1_5) rfl (by kernel_rfl) (by kernel_rfl) (by kernel_rfl) (fun _ _ _ h => h) (Or.inl ⟨by rfl, ?hyn1_5⟩) (by assumption) ?hRn1_5
            case hyn1_5 => (intro w hSw; (try dsimp only at hSw); go_simp; (try with_reducible rfl))
            try simp only [Act.put, List.getElem_toArray, List.getElem_cons_zero, List.getElem_cons_succ, List.setIfInBounds_toArray, List.set_cons_zero, List.set_cons_succ]
            refine wpAnyH_take (i := 6) (oi := _) (v := ?vn1_6) rfl (by kernel_rfl) (by kernel_rfl) (by kernel_rfl) (fun _ _ _ h => h) (Or.inl ⟨by rfl, ?hyn1_6⟩) (by assumption) ?hRn1_6
            case hyn1_6 => (intro w hSw; (try dsimp only at hSw); go_simp; (try with_reducible rfl))
            try simp only [Act.put, List.getElem_toArray, List.getElem_cons_zero, List.getElem_cons_succ, List.setIfInBounds_toArray, List.set_cons_zero, List.set_cons_succ]
            refine wpAnyH_take (i := 7) (oi := _) (v := ?vn1_7) rfl (by kernel_rfl) (by kernel_rfl) (by kernel_rfl) (fun _ _ _ h => h) (Or.inl ⟨by rfl, ?hyn1_7⟩) (by assumption) ?hRn1_7
            case hyn1_7 => (intro w hSw; (try dsimp only at hSw); go_simp; (try with_reducible rfl))
            try simp only [Act.put, List.getElem_toArray, List.getElem_cons_zero, List.getElem_cons_succ, List.setIfInBounds_toArray, List.set_cons_zero, List.set_cons_succ]
            refine wpAnyH_ready (rs := [0, 8]) (by kernel_rfl) (by simp) ?_
            refine AllReadyH.cons (o := _) rfl (fun K hK => ?bAn1) (AllReadyH.cons (o := _) rfl (fun K hK => ?bBn1) AllReadyH.nil)
            case' bAn1 =>
              go_simp
              refine hK.out _ _ ?hSn1a_0 (fun hHeld => ?hRn1a_0)
              case hSn1a_0 => ((try dsimp only); go_keep)
              clear hK K
              try simp only [Act.put, List.getElem_toArray, List.getElem_cons_zero, List.getElem_cons_succ, List.setIfInBounds_toArray, List.set_cons_zero, List.set_cons_succ]
              refine wpAnyH_ready (rs := [8]) (by kernel_rfl) (by simp) ?_
              refine AllReadyH.cons (o := _) rfl (fun K hK => ?_) AllReadyH.nil
              go_simp
              (go_at_call 50; clear ht hw1 hw2 hw3; refine (mscale_any p1 (2 * t - 1) i b1 w1.heap.size _ _ _ _ sp'.drew l6.drew.c1.1 l6.drew.c1.2).mono ?_; rintro e4 w4 ⟨A4, c4, rfl, hf4, hb4⟩; have x6 := l6.drew.q0 hb4; have x7 := l7.drew.q (by omega) hb4; have x8 := l8.drew.q (by omega) hb4; have x9 := l9.drew.q (by omega) hb4; have xr := lr.drew.q (by omega) hb4; have xs4 : wc.heap.size ≤ w4.heap.size := (by have := hb4.size; rw [World.size_setCell] at this; exact this); have xz := sz'.drew.q (.inl rfl) hb4; have xp := sp'.drew.q (.inl rfl) hb4; have xo := so'.drew.q (by omega) hb4; obtain ⟨a7, af7⟩ := x7.c1; obtain ⟨a9, _⟩ := x9.c1)
              go_wp2_with fail
              refine hK.out _ _ ?hSn1a_8 (fun hHeld => ?hRn1a_8)
              case hSn1a_8 => ((try dsimp only); go_keep)
              clear hK K
              try simp only [Act.put, List.getElem_toArray, List.getElem_cons_zero, List.getElem_cons_succ, List.setIfInBounds_toArray, List.set_cons_zero, List.set_cons_succ]
              refine wpAnyH_ready (rs := [9]) (by kernel_rfl) (by simp) ?_
              refine AllReadyH.cons (o := _) rfl (fun K hK => ?_) AllReadyH.nil
              go_simp
              (go_at_call 52; refine (madd_any out ((scaleS p1 (2 * t - 1) i).getD .nil) _ w1.heap.size (fun _ => False) (fun _ => False) _ _ _ _ _ (xo.toS (fun k hk => hk.elim)) (hf4.toS (fun k hk => hk.elim)) x6.c1.1 x6.c1.2).mono ?_; rintro e5 w5 ⟨A5, c5, rfl, hf5, hb5⟩; have t6 := x6.q0 hb5; have t7 := x7.q (by omega) hb5; have t8 := x8.q (by omega) hb5; have t9 := x9.q (by omega) hb5; have tr := xr.q (by omega) hb5; have ts5 : w4.heap.size ≤ w5.heap.size := (by have := hb5.size; rw [World.size_setCell] at this; exact this); have hB4 : Below w.heap.size w w4 := (hB'.drew.setCell (p := ⟨w1.heap.size, 0, none⟩) hz1s _).trans (hb4.mono hB'.size); have hB5 : Below w.heap.size w w5 := (hB4.setCell (p := ⟨w1.heap.size, 0, none⟩) hz1s _).trans (hb5.mono hB4.size); have tz := xz.q (.inl rfl) hb5; have tp := xp.q (.inl rfl) hb5; obtain ⟨b7, bf7⟩ := t7.c1; obtain ⟨b9, _⟩ := t9.c1)
              go_wp2_with fail
              refine hK.out _ _ ?hSn1a_9 (fun hHeld => ?hRn1a_9)
              case hSn1a_9 => ((try dsimp only); go_keep)
              clear hK K
              try simp only [Act.put, List.getElem_toArray, List.getElem_cons_zero, List.getElem_cons_succ, List.setIfInBounds_toArray, List.set_cons_zero, List.set_cons_succ]
              refine wpAnyH_ready (rs := [10]) (by kernel_rfl) (by simp) ?_
              refine AllReadyH.cons (o := _) rfl (fun K hK => ?_) AllReadyH.nil
              go_simp
              refine hK.out _ _ ?hSn1a_10 (fun hHeld => ?hRn1a_10)
              case hSn1a_10 => ((try dsimp only); go_keep)
              clear hK K
              try simp only [Act.put, List.getElem_toArray, List.getElem_cons_zero, List.getElem_cons_succ, List.setIfInBounds_toArray, List.set_cons_zero, List.set_cons_succ]
              refine wpAnyH_done (by kernel_rfl) ?_ _
            case' bBn1 =>
              go_simp
              (go_at_call 50; clear ht hw1 hw2 hw3; refine (mscale_any p1 (2 * t - 1) i b1 w1.heap.size _ _ _ _ sp'.drew l6.drew.c1.1 l6.drew.c1.2).mono ?_; rintro e4 w4 ⟨A4, c4, rfl, hf4, hb4⟩; have x6 := l6.drew.q0 hb4; have x7 := l7.drew.q (by omega) hb4; have x8 := l8.drew.q (by omega) hb4; have x9 := l9.drew.q (by omega) hb4; have xr := lr.drew.q (by omega) hb4; have xs4 : wc.heap.size ≤ w4.heap.size := (by have := hb4.size; rw [World.size_setCell] at this; exact this); have xz := sz'.drew.q (.inl rfl) hb4; have xp := sp'.drew.q (.inl rfl) hb4; have xo := so'.drew.q (by omega) hb4; obtain ⟨a7, af7⟩ := x7.c1; obtain ⟨a9, _⟩ := x9.c1)
              go_wp2_with fail
              refine hK.out _ _ ?hSn1b_8 (fun hHeld => ?hRn1b_8)
              case hSn1b_8 => ((try dsimp only); go_keep)
              clear hK K
              try simp only [Act.put, List.getElem_toArray, List.getElem_cons_zero, List.getElem_cons_succ, List.setIfInBounds_toArray, List.set_cons_zero, List.set_cons_succ]
              refine wpAnyH_ready (rs := [0]) (by kernel_rfl) (by simp) ?_
              refine AllReadyH.cons (o := _) rfl (fun K hK => ?_) AllReadyH.nil
              go_simp
              refine hK.out _ _ ?hSn1b_0 (fun hHeld => ?hRn1b_0)
              case hSn1b_0 => ((try dsimp only); go_keep)
              clear hK K
              try simp only [Act.put, List.getElem_toArray, List.getElem_cons_zero, List.getElem_cons_succ, List.setIfInBounds_toArray, List.set_cons_zero, List.set_cons_succ]
              refine wpAnyH_ready (rs := [9]) (by kernel_rfl) (by simp) ?_
              refine AllReadyH.cons (o := _) rfl (fun K hK => ?_) AllReadyH.nil
              go_simp
              (go_at_call 52; refine (madd_any out ((scaleS p1 (2 * t - 1) i).getD .nil) _ w1.heap.size (fun _ => False) (fun _ => False) _ _ _ _ _ (xo.toS (fun k hk => hk.elim)) (hf4.toS (fun k hk => hk.elim)) x6.c1.1 x6.c1.2).mono ?_; rintro e5 w5 ⟨A5, c5, rfl, hf5, hb5⟩; have t6 := x6.q0 hb5; have t7 := x7.q (by omega) hb5; have t8 := x8.q (by omega) hb5; have t9 := x9.q (by omega) hb5; have tr := xr.q (by omega) hb5; have ts5 : w4.heap.size ≤ w5.heap.size := (by have := hb5.size; rw [World.size_setCell] at this; exact this); have hB4 : Below w.heap.size w w4 := (hB'.drew.setCell (p := ⟨w1.heap.size, 0, none⟩) hz1s _).trans (hb4.mono hB'.size); have hB5 : Below w.heap.size w w5 := (hB4.setCell (p := ⟨w1.heap.size, 0, none⟩) hz1s _).trans (hb5.mono hB4.size); have tz := xz.q (.inl rfl) hb5; have tp := xp.q (.inl rfl) hb5; obtain ⟨b7, bf7⟩ := t7.c1; obtain ⟨b9, _⟩ := t9.c1)
              go_wp2_with fail
              refine hK.out _ _ ?hSn1b_9 (fun hHeld => ?hRn1b_9)
              case hSn1b_9 => ((try dsimp only); go_keep)
              clear hK K
              try simp only [Act.put, List.getElem_toArray, List.getElem_cons_zero, List.getElem_cons_succ, List.setIfInBounds_toArray, List.set_cons_zero, List.set_cons_succ]
              refine wpAnyH_ready (rs := [10]) (by kernel_rfl) (by simp) ?_
              refine AllReadyH.cons (o := _) rfl (fun K hK => ?_) AllReadyH.nil
              go_simp
              refine hK.out _ _ ?hSn1b_10 (fun hHeld => ?hRn1b_10)
              case hSn1b_10 => ((try dsimp only); go_keep)
              clear hK K
              try simp only [Act.put, List.getElem_toArray, List.getElem_cons_zero, List.getElem_cons_succ, List.setIfInBounds_toArray, List.set_cons_zero, List.set_cons_succ]
              refine wpAnyH_done (by kernel_rfl) ?_ _
            all_goals
              go_wp2
              have hi1 : (i : Int) + 1 = ((i + 1 : Nat) : Int) := by omega
              exact ⟨⟨i + 1, _, A5, c5, _, A1, c1, p1, by go_num, by omega, by omega, t6.far (by dsimp only; omega) _, t7.set_ 0 _, t8.far (by dsimp only; omega) _, t9.far (by dsimp only; omega) _, tr.far (by dsimp only; omega) _, tz.far (.inr (.inl rfl)) _, tp.far (.inr (.inl rfl)) _, (hf5.mono (by omega)).setCell (by dsimp only; omega) _, by rw [HN.out, ← HT.out]; rfl, hB5.setCell (by dsimp only; omega) _⟩, by simp [intOf]; omega⟩
        · have HE := Lib.hid (HS.out.trans (logGo_stop z n _ _ _ _ _ hgo))
          cases bad
          · have hni : ¬ (i : Int) ≤ n := fun h => hgo ⟨h, rfl⟩
            clear hgo
            go_wp2_with fail
            refine (mtold_any out false w1.heap.size _ _ _ u6 (w3.heap.size + 2) (by omega) so).mono ?_
            rintro e4 w4 ⟨A4, c4, rfl, hf4, hb4⟩
            obtain ⟨q5, qf5⟩ := (nr.call hb4).c1
            go_wp2
            refine bodyPost_ret (v := .tuple #[.agg #[.slice A4 out.len c4], .bool true]) (by simp [results, Try.results23, go_sem, q5]) rfl ?_
            rw [H.out, HE.out]
            exact ⟨A4, c4, rfl, (hf4.setCell (by simp; omega) _).mono (by omega), (hB.trans (hb4.mono hB.size)).setCell (by simp) _⟩
          · clear hgo
            by_cases hle : (i : Int) ≤ n
            all_goals
              go_wp2_with fail
              refine (mtold_any out true w1.heap.size _ _ _ u6 (w3.heap.size + 2) (by omega) so).mono ?_
              rintro e4 w4 ⟨A4, c4, rfl, hf4, hb4⟩
              obtain ⟨q5, qf5⟩ := (nr.call hb4).c1
              go_wp2
              refine bodyPost_ret (v := .tuple #[.agg #[.slice A4 0 c4], .bool false]) (by simp [results, Try.results23, go_sem, q5, Sur.len]) rfl ?_
              rw [H.out, HE.out]
              exact ⟨A4, c4, rfl, (hf4.setCell (by simp; omega) _).mono (by omega), (hB.trans (hb4.mono hB.size)).setCell (by simp) _⟩
end Go.Proofs.Ytphabopnbcgodaa
