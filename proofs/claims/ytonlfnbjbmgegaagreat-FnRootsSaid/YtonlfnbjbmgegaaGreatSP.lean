/-
  Walks, the reference's side: sums; the product of two terms.
  Walks, the reference's side: products.
  Walks, the reference's side: the negative; AddSurreals, ScaleSurreal.
-/
import Derived.Test.YtonlfnbjbmgegaaGreatSPut
import Derived.Test.YtonlfnbjbmgegaaGreatBG
namespace Go.Proofs.YtonlfnbjbmgegaaGreat
open Go.RowKit
set_option linter.unusedSimpArgs false
set_option linter.unusedVariables false

set_option maxHeartbeats 1600000 in
set_option maxRecDepth 100000 in
theorem suPlus_any (x y : Sur) (X : Nat → Prop) (A A' : Option Addr) (c c' : Nat) (w : World) (hX : ∀ k, X k → k < w.heap.size) (sx : SSl X w x A c) (sy : SSl X w y A' c') (hx : x.All FOk) (hy : y.All FOk) (hl : x.len + y.len ≤ 1099511627776) :
    Calls Tryz.prog 134 #[.agg #[.slice A x.len c], .agg #[.slice A' y.len c']] w (RetSh X w (plusP x y)) := by
  have ly := sy.cap
  have ly' := sy.le
  unfold maxLen at ly
  have k2 := ((Blk.new' (g := w.heap.size + 1 + 1) ((w.alloc (.cells #[.slice A x.len c] 26)).alloc (.cells #[.slice A' y.len c'] 26)) 26 #[.slice none 0 0] (by simp)).alloc (.cells #[.slice A x.len c] 26))
  have k3 := (Blk.new' (g := w.heap.size + 1 + 1 + 1) (((w.alloc (.cells #[.slice A x.len c] 26)).alloc (.cells #[.slice A' y.len c'] 26)).alloc (.cells #[.slice none 0 0] 26)) 26 #[.slice A x.len c] (by simp))
  have hB0 : Below w.heap.size w ((((w.alloc (.cells #[.slice A x.len c] 26)).alloc (.cells #[.slice A' y.len c'] 26)).alloc (.cells #[.slice none 0 0] 26)).alloc (.cells #[.slice A x.len c] 26)) := by go_grown
  have tx := (sx.loc 4).below hB0
  have ty := sy.loc 4
  clear sx sy
  go_enter Tryz.func134, Tryz.ntmps134
  go_wp2
  go_loopw [14] (fun s wr => ∃ (k : Nat) (Ao : Option Addr) (co : Nat) (out : Sur), s = .int .i64 k ∧ k ≤ y.len ∧ out.len ≤ x.len + k ∧ out.All FOk ∧
      Blk wr (w.heap.size + 1 + 1) 26 #[.slice none 0 0] ∧ Blk wr (w.heap.size + 1 + 1 + 1) 26 #[.slice Ao out.len co] ∧
      SSl (Loc X w.heap.size 4) wr out Ao co ∧ Hid (plusP x y = plusP out (y.drop k)) ∧ Below w.heap.size w wr) (fun s _ => y.len - (intOf s).toNat)
  case atStart => exact ⟨0, A, c, x, rfl, Nat.zero_le _, by omega, hx, k2, k3, tx, rfl, hB0⟩
  case round =>
    obtain ⟨k, Ao, co, out, rfl, hk, hol, hoa, m2, m3, so, HS, hB⟩ := hrel
    clear k2 k3 hB0 tx
    obtain ⟨p2, pf2⟩ := m2.c1
    obtain ⟨p3, pf3⟩ := m3.c1
    have z3 := m3.lt
    have z2 := m2.lt
    have hk0' : (0 : Int) ≤ (k : Int) := by omega
    by_cases h1 : k < y.len
    · obtain ⟨b, o, e, n, d, A1, d1, rfl, hyk, f0, f1, f2, se, in_, id_, hXb, hbl⟩ := (ty.below hB).at_ h1
      have hay := Sur.all_drop hy hyk
      have hst : plusP x y = (putP e n d out).bind fun z => plusP z (y.drop (k + 1)) := by rw [HS.out, hyk]; rfl
      have HST := Lib.hid hst
      clear hst hyk
      go_wp2_with fail
      refine (suPut_any out e n d (Loc X w.heap.size 4) _ _ _ _ _ (loc_lt hX (by go_size)) (so.below (by go_grown)) (se.below (by go_grown)) hoa hay.1 hay.2.1 (by omega)).mono ?_
      rintro e4 w4 ⟨A4, c4, rfl, hs4, hb4⟩
      have hB4 : Below w.heap.size w w4 := hB.trans (Below.call (w := wr) (by go_grown) (by go_size) hb4)
      obtain ⟨q2, qf2⟩ := (Blk.thru m2 (by go_grown) hb4).c1
      obtain ⟨q3, qf3⟩ := (Blk.thru m3 (by go_grown) hb4).c1
      have y3 := (Blk.thru m3 (by go_grown) hb4).lt
      rcases hp : putP e n d out with _ | z
      · have HF := Lib.hid (show plusP x y = none by rw [HST.out, hp]; rfl)
        simp only [Option.isSome_none]
        clear hp
        go_wp2
        refine bodyPost_ret (v := .tuple #[.agg #[.slice none 0 0], .bool false]) (by simp [results, Tryz.results134, go_sem, q2]) rfl ?_
        rw [HF.out]
        exact ⟨none, 0, rfl, SSl.nil _ _, (hB4.setCell (by simp; omega) _).setCell (by simp; omega) _⟩
      · obtain ⟨hza, hzl⟩ := putP_all hay.1 hay.2.1 hoa hp
        have HN := Lib.hid (show plusP x y = plusP z (y.drop (k + 1)) by rw [HST.out, hp]; rfl)
        rw [hp] at hs4
        simp only [Option.isSome_some, Option.getD_some] at hs4 ⊢
        clear hp
        go_wp2
        exact ⟨⟨k + 1, A4, c4, z, by go_num, by omega, by omega, hza, (Blk.thru m2 (by go_grown) hb4).far (by dsimp only; omega) _, (Blk.thru m3 (by go_grown) hb4).set_ 0 _, hs4.far (.inr ⟨by dsimp only; omega, by dsimp only; omega⟩) _, HN, hB4.setCell (by dsimp only; omega) _⟩, by simp [intOf]; omega⟩
    · have HF := Lib.hid (show plusP x y = some out by rw [HS.out, y.drop_of_ge k (by omega)]; rfl)
      go_wp2
      refine bodyPost_ret (v := .tuple #[.agg #[.slice Ao out.len co], .bool true]) (by simp [results, Tryz.results134, go_sem, p2]) rfl ?_
      rw [HF.out]
      exact ⟨Ao, co, rfl, so.setLoc (by dsimp only; omega) (by dsimp only; omega) _, hB.setCell (by dsimp only; omega) _⟩

set_option maxHeartbeats 800000 in
theorem suSum_any (x y : Sur) (X Y : Nat → Prop) (A A' : Option Addr) (c c' : Nat) (w : World) (sx : SSl X w x A c) (sy : SSl Y w y A' c') (hx : x.All FOk) (hy : y.All FOk) (hl : x.len + y.len ≤ 1099511627776) :
    Calls Tryz.prog 108 #[.agg #[.slice A x.len c], .agg #[.slice A' y.len c']] w (RetFreshB w (sumS x y)) := by
  have sx := sx.more (Y := fun _ => False) (fun _ h => h.elim)
  have sy := sy.more (Y := fun _ => False) (fun _ h => h.elim)
  have k0 := (((Blk.new w 26 #[.slice A x.len c]).alloc (.cells #[.slice A' y.len c'] 26)).alloc (.cells #[.slice none 0 0] 26))
  have k1 := ((Blk.new' (g := w.heap.size + 1) (w.alloc (.cells #[.slice A x.len c] 26)) 26 #[.slice A' y.len c'] (by simp)).alloc (.cells #[.slice none 0 0] 26))
  have k2 := (Blk.new' (g := w.heap.size + 1 + 1) ((w.alloc (.cells #[.slice A x.len c] 26)).alloc (.cells #[.slice A' y.len c'] 26)) 26 #[.slice none 0 0] (by simp))
  have hB0 : Below w.heap.size w (((w.alloc (.cells #[.slice A x.len c] 26)).alloc (.cells #[.slice A' y.len c'] 26)).alloc (.cells #[.slice none 0 0] 26)) := by go_grown
  go_enter Tryz.func108, Tryz.ntmps108
  go_wp2_with fail
  refine (suPlus_any x y (fun _ => False) _ _ _ _ _ (fun _ h => h.elim) (sx.below hB0) (sy.below hB0) hx hy hl).mono ?_
  rintro e1 w1 ⟨A1, c1, rfl, hs1, hb1⟩
  have hB1 := Below.call hB0 (by go_size) hb1
  have l2 := k2.call hb1
  obtain ⟨q2, qf2⟩ := l2.c1
  have z2 := l2.lt
  rcases hp : plusP x y with _ | z
  · have HF := Lib.hid (show sumS x y = none by unfold sumS; rw [hp]; rfl)
    simp only [Option.isSome_none]
    clear hp
    go_wp2
    refine bodyPost_ret (v := .tuple #[.agg #[.slice none 0 0], .bool false]) (by simp [results, Tryz.results108, go_sem, q2, z2]) rfl ?_
    rw [HF.out]
    exact ⟨none, 0, rfl, SFresh.nil _ _, by go_grown⟩
  · have HF := Lib.hid (show sumS x y = told z true by unfold sumS; rw [hp]; rfl)
    rw [hp] at hs1
    simp only [Option.isSome_some, Option.getD_some] at hs1 ⊢
    clear hp
    go_wp2_with fail
    refine (suIf_any z _ _ _ _ (hs1.below (by go_grown))).mono ?_
    rintro e2 w2 ⟨A2, c2, rfl, hf2, hb2⟩
    obtain ⟨r2, rf2⟩ := (Blk.thru l2 (by go_grown) hb2).c1
    have hB2 : Below w.heap.size w w2 := hB1.trans (Below.call (w := w1) (by go_grown) (by go_size) hb2)
    go_wp2
    refine bodyPost_ret (v := .tuple #[.agg #[.slice A2 ((told z true).getD .nil).len c2], .bool (told z true).isSome]) (by simp [results, Tryz.results108, go_sem, r2]) rfl ?_
    rw [HF.out]
    have hs := hB1.size
    exact ⟨A2, c2, rfl, (hf2.setCell (by simp; omega) _).mono (by simp; omega), hB2.setCell (by simp; omega) _⟩
end Go.Proofs.YtonlfnbjbmgegaaGreat

namespace Go.Proofs.YtonlfnbjbmgegaaGreat
open Go.RowKit
open List renaming getElem_toArray → zp1, getElem_cons_zero → zp2, getElem_cons_succ → zp3, setIfInBounds_toArray → zp4, set_cons_zero → zp5, set_cons_succ → zp6
set_option linter.unusedSimpArgs false
set_option linter.unusedVariables false

/-- a product of two terms -/
def RetTerm (w : World) (o : Option Sur) (p q : Int) (e : Ending) (w' : World) : Prop :=
  ∃ A c, e = .returned (.tuple #[.agg #[.slice A (o.getD .nil).len c, .int .i64 p, .int .i64 q], .bool (o.isSome && fracOk p q)]) ∧ SFresh w.heap.size w' (o.getD .nil) A c ∧ Below w.heap.size w w'

set_option maxHeartbeats 1600000 in
theorem suTimesTerm_any (e1 e2 : Sur) (n d n' d' : Int) (X Y : Nat → Prop) (A A' : Option Addr) (c c' : Nat) (w : World) (sx : SSl X w e1 A c) (sy : SSl Y w e2 A' c') (hx : e1.All FOk) (hy : e2.All FOk) (hn : FOk n d) (hn' : FOk n' d') (hl : e1.len + e2.len ≤ 1099511627776) :
    Calls Tryz.prog 72 #[.agg #[.slice A e1.len c, .int .i64 n, .int .i64 d], .agg #[.slice A' e2.len c', .int .i64 n', .int .i64 d']] w (RetTerm w (sumS e1 e2) (muN n d n' d') (muD n d n' d')) := by
  have k0 := (((Blk.new w 70 #[.slice A e1.len c, .int .i64 n, .int .i64 d]).alloc (.cells #[.slice A' e2.len c', .int .i64 n', .int .i64 d'] 70)).alloc (.cells #[.slice none 0 0, .int .i64 0, .int .i64 0] 70))
  have k1 := ((Blk.new' (g := w.heap.size + 1) (w.alloc (.cells #[.slice A e1.len c, .int .i64 n, .int .i64 d] 70)) 70 #[.slice A' e2.len c', .int .i64 n', .int .i64 d'] (by simp)).alloc (.cells #[.slice none 0 0, .int .i64 0, .int .i64 0] 70))
  have k2 := (Blk.new' (g := w.heap.size + 1 + 1) ((w.alloc (.cells #[.slice A e1.len c, .int .i64 n, .int .i64 d] 70)).alloc (.cells #[.slice A' e2.len c', .int .i64 n', .int .i64 d'] 70)) 70 #[.slice none 0 0, .int .i64 0, .int .i64 0] (by simp))
  have hB0 : Below w.heap.size w (((w.alloc (.cells #[.slice A e1.len c, .int .i64 n, .int .i64 d] 70)).alloc (.cells #[.slice A' e2.len c', .int .i64 n', .int .i64 d'] 70)).alloc (.cells #[.slice none 0 0, .int .i64 0, .int .i64 0] 70)) := by go_grown
  go_enter Tryz.func72, Tryz.ntmps72
  go_wp2_with fail
  refine (suSum_any e1 e2 _ _ _ _ _ _ _ (sx.below hB0) (sy.below hB0) hx hy hl).mono ?_
  rintro e3 w1 ⟨A1, c1, rfl, hf1, hb1⟩
  have hB1 := Below.call hB0 (by go_size) hb1
  have l0 := k0.call hb1
  have l1 := k1.call hb1
  have l2 := k2.call hb1
  obtain ⟨q0, q1, q2, _, _, _⟩ := l0.c3
  obtain ⟨r0, r1, r2, _, _, _⟩ := l1.c3
  have z2 := l2.lt
  have z1 := l1.lt
  have z0 := l0.lt
  go_wp2_with fail
  refine (shMul_any n d n' d' hn hn' _).mono ?_
  rintro e4 w2 ⟨rfl, hb2⟩
  generalize muN n d n' d' = p at *
  generalize muD n d n' d' = pq at *
  have hB2 : Below w.heap.size w w2 := hB1.trans (Below.call (w := w1) (by go_grown) (by go_size) hb2)
  have m2 := Blk.thru l2 (by go_grown) hb2
  have m6 := (Blk.new w1 26 #[.slice A1 ((sumS e1 e2).getD .nil).len c1]).call hb2
  have hf2 := (hf1.below (by go_grown : Below w1.heap.size w1 (w1.alloc (.cells #[.slice A1 ((sumS e1 e2).getD .nil).len c1] 26)))).below hb2
  clear l0 l1 l2 q0 q1 q2 r0 r1 r2 k0 k1 k2 hb1 hb2 hf1
  obtain ⟨t0, t1, t2, tf0, tf1, tf2⟩ := m2.c3
  obtain ⟨u0, _⟩ := m6.c1
  have y6 := m6.lt
  have y2 := m2.lt
  have hne1 : ¬ w1.heap.size = w.heap.size + 1 + 1 := by omega
  have hne2 : ¬ w2.heap.size = w.heap.size + 1 + 1 := by omega
  have hne3 : ¬ w.heap.size + 1 + 1 = w1.heap.size := by omega
  have hne4 : ¬ w.heap.size + 1 + 1 = w2.heap.size := by omega
  have hne5 : ¬ w1.heap.size = w2.heap.size := by omega
  have hs2 := hB1.size
  have k8 := Blk.new w2 68 #[.int .i64 p, .int .i64 pq]
  cases ho : (sumS e1 e2).isSome
  · have HO := Lib.hid ho
    clear ho
    go_wp2_with fail
    obtain ⟨kc0, kc1, _, _⟩ := (Blk.new' (g := w2.heap.size) (((w2.setCell ⟨w.heap.size + 1 + 1, 0, none⟩ (.slice A1 ((sumS e1 e2).getD .nil).len c1)).setCell ⟨w.heap.size + 1 + 1, 1, none⟩ (.int .i64 p)).setCell ⟨w.heap.size + 1 + 1, 2, none⟩ (.int .i64 pq)) 68 #[.int .i64 p, .int .i64 pq] (by simp)).c2
    refine wp_region_held_drew (S := (fun w' => w'.cell? ⟨w1.heap.size, 0, none⟩ = some (.slice A1 ((sumS e1 e2).getD .nil).len c1) ∧ w'.cell? ⟨w2.heap.size, 0, none⟩ = some (.int .i64 p) ∧ w'.cell? ⟨w2.heap.size, 1, none⟩ = some (.int .i64 pq))) (by kernel_rfl) ?hSn1_ (fun hHeld => ?hRn1_)
    case hSn1_ => (go_keep)
    refine wpAnyH_take (i := 0) (v := ?vn1_0) rfl (by kernel_rfl) (by kernel_rfl) (by kernel_rfl) (fun _ _ _ h => h) (Or.inl ⟨by rfl, ?hyn1_0⟩) (by assumption) ?hRn1_0
    case hyn1_0 => (intro w hSw; (try dsimp only at hSw); go_simp; (try with_reducible rfl))
    try simp only [Act.put, zp1, zp2, zp3, zp4, zp5, zp6]
    refine wpAnyH_take (i := 1) (v := ?vn1_1) rfl (by kernel_rfl) (by kernel_rfl) (by kernel_rfl) (fun _ _ _ h => h) (Or.inl ⟨by rfl, ?hyn1_1⟩) (by assumption) ?hRn1_1
    case hyn1_1 => (intro w hSw; (try dsimp only at hSw); go_simp; (try with_reducible rfl))
    try simp only [Act.put, zp1, zp2, zp3, zp4, zp5, zp6]
    refine wpAnyH_take (i := 2) (v := ?vn1_2) rfl (by kernel_rfl) (by kernel_rfl) (by kernel_rfl) (fun _ _ _ h => h) (Or.inl ⟨by rfl, ?hyn1_2⟩) (by assumption) ?hRn1_2
    case hyn1_2 => (intro w hSw; (try dsimp only at hSw); go_simp; (try with_reducible rfl))
    try simp only [Act.put, zp1, zp2, zp3, zp4, zp5, zp6]
    refine wpAnyH_take (i := 3) (v := ?vn1_3) rfl (by kernel_rfl) (by kernel_rfl) (by kernel_rfl) (fun _ _ _ h => h) (Or.inl ⟨by rfl, ?hyn1_3⟩) (by assumption) ?hRn1_3
    case hyn1_3 => (intro w hSw; (try dsimp only at hSw); go_simp; (try with_reducible rfl))
    try simp only [Act.put, zp1, zp2, zp3, zp4, zp5, zp6]
    refine wpAnyH_take (i := 4) (v := ?vn1_4) rfl (by kernel_rfl) (by kernel_rfl) (by kernel_rfl) (fun _ _ _ h => h) (Or.inl ⟨by rfl, ?hyn1_4⟩) (by assumption) ?hRn1_4
    case hyn1_4 => (intro w hSw; (try dsimp only at hSw); go_simp; (try with_reducible rfl))
    try simp only [Act.put, zp1, zp2, zp3, zp4, zp5, zp6]
    refine wpAnyH_take (i := 5) (v := undef) rfl (by kernel_rfl) (by kernel_rfl) (by kernel_rfl) (fun _ _ _ h => h) (Or.inr ⟨by rfl, rfl⟩) (by assumption) ?_
    try simp only [Act.put, zp1, zp2, zp3, zp4, zp5, zp6]
    refine wpAnyH_take (i := 6) (v := undef) rfl (by kernel_rfl) (by kernel_rfl) (by kernel_rfl) (fun _ _ _ h => h) (Or.inr ⟨by rfl, rfl⟩) (by assumption) ?_
    try simp only [Act.put, zp1, zp2, zp3, zp4, zp5, zp6]
    refine wpAnyH_take (i := 7) (v := ?vn1_7) rfl (by kernel_rfl) (by kernel_rfl) (by kernel_rfl) (fun _ _ _ h => h) (Or.inl ⟨by rfl, ?hyn1_7⟩) (by assumption) ?hRn1_7
    case hyn1_7 => (intro w hSw; (try dsimp only at hSw); go_simp; (try with_reducible rfl))
    try simp only [Act.put, zp1, zp2, zp3, zp4, zp5, zp6]
    refine wpAnyH_ready (rs := [8]) (by kernel_rfl) (by simp) ?_
    refine AllReadyH.cons rfl (fun K hK => ?_) AllReadyH.nil
    go_simp
    refine hK.out _ _ ?hSn1_8 (fun hHeld => ?hRn1_8)
    case hSn1_8 => ((try dsimp only); go_keep)
    clear hK K
    try simp only [Act.put, zp1, zp2, zp3, zp4, zp5, zp6]
    refine wpAnyH_take (i := 9) (v := ?vn1_9) rfl (by kernel_rfl) (by kernel_rfl) (by kernel_rfl) (fun _ _ _ h => h) (Or.inl ⟨by rfl, ?hyn1_9⟩) (by assumption) ?hRn1_9
    case hyn1_9 => (intro w hSw; (try dsimp only at hSw); go_simp; (try with_reducible rfl))
    try simp only [Act.put, zp1, zp2, zp3, zp4, zp5, zp6]
    refine wpAnyH_done (by kernel_rfl) ?_ _
    go_wp2
    refine bodyPost_ret (v := .tuple #[.agg #[.slice A1 ((sumS e1 e2).getD .nil).len c1, .int .i64 p, .int .i64 pq], .bool false]) (by simp [results, Tryz.results72, go_sem, t0, t1, t2, y2]) rfl ?_
    exact ⟨A1, c1, by rw [HO.out]; rfl, ((((hf2.setCell (p := ⟨w.heap.size + 1 + 1, 0, none⟩) (by go_size) (.slice A1 ((sumS e1 e2).getD .nil).len c1)).setCell (p := ⟨w.heap.size + 1 + 1, 1, none⟩) (by go_size) (.int .i64 p)).setCell (p := ⟨w.heap.size + 1 + 1, 2, none⟩) (by go_size) (.int .i64 pq)).below (by go_grown)).mono (by go_size), by go_grown⟩
  · have HO := Lib.hid ho
    clear ho
    go_wp2_with fail
    refine wp_region_held_drew (S := (fun w' => w'.cell? ⟨w1.heap.size, 0, none⟩ = some (.slice A1 ((sumS e1 e2).getD .nil).len c1) ∧ w'.cell? ⟨w2.heap.size, 0, none⟩ = some (.int .i64 p) ∧ w'.cell? ⟨w2.heap.size, 1, none⟩ = some (.int .i64 pq))) (by kernel_rfl) ?hSn2_ (fun hHeld => ?hRn2_)
    case hSn2_ => (go_keep)
    refine wpAnyH_take (i := 0) (v := ?vn2_0) rfl (by kernel_rfl) (by kernel_rfl) (by kernel_rfl) (fun _ _ _ h => h) (Or.inl ⟨by rfl, ?hyn2_0⟩) (by assumption) ?hRn2_0
    case hyn2_0 => (intro w hSw; (try dsimp only at hSw); go_simp; (try with_reducible rfl))
    try simp only [Act.put, zp1, zp2, zp3, zp4, zp5, zp6]
    refine wpAnyH_take (i := 1) (v := ?vn2_1) rfl (by kernel_rfl) (by kernel_rfl) (by kernel_rfl) (fun _ _ _ h => h) (Or.inl ⟨by rfl, ?hyn2_1⟩) (by assumption) ?hRn2_1
    case hyn2_1 => (intro w hSw; (try dsimp only at hSw); go_simp; (try with_reducible rfl))
    try simp only [Act.put, zp1, zp2, zp3, zp4, zp5, zp6]
    refine wpAnyH_take (i := 2) (v := ?vn2_2) rfl (by kernel_rfl) (by kernel_rfl) (by kernel_rfl) (fun _ _ _ h => h) (Or.inl ⟨by rfl, ?hyn2_2⟩) (by assumption) ?hRn2_2
    case hyn2_2 => (intro w hSw; (try dsimp only at hSw); go_simp; (try with_reducible rfl))
    try simp only [Act.put, zp1, zp2, zp3, zp4, zp5, zp6]
    refine wpAnyH_take (i := 3) (v := ?vn2_3) rfl (by kernel_rfl) (by kernel_rfl) (by kernel_rfl) (fun _ _ _ h => h) (Or.inl ⟨by rfl, ?hyn2_3⟩) (by assumption) ?hRn2_3
    case hyn2_3 => (intro w hSw; (try dsimp only at hSw); go_simp; (try with_reducible rfl))
    try simp only [Act.put, zp1, zp2, zp3, zp4, zp5, zp6]
    refine wpAnyH_take (i := 4) (v := ?vn2_4) rfl (by kernel_rfl) (by kernel_rfl) (by kernel_rfl) (fun _ _ _ h => h) (Or.inl ⟨by rfl, ?hyn2_4⟩) (by assumption) ?hRn2_4
    case hyn2_4 => (intro w hSw; (try dsimp only at hSw); go_simp; (try with_reducible rfl))
    try simp only [Act.put, zp1, zp2, zp3, zp4, zp5, zp6]
    refine wpAnyH_take (i := 5) (v := ?vn2_5) rfl (by kernel_rfl) (by kernel_rfl) (by kernel_rfl) (fun _ _ _ h => h) (Or.inl ⟨by rfl, ?hyn2_5⟩) (by assumption) ?hRn2_5
    case hyn2_5 => (intro w hSw; (try dsimp only at hSw); go_simp; (try with_reducible rfl))
    try simp only [Act.put, zp1, zp2, zp3, zp4, zp5, zp6]
    refine wpAnyH_ready (rs := [6]) (by kernel_rfl) (by simp) ?_
    refine AllReadyH.cons rfl (fun K hK => ?_) AllReadyH.nil
    go_simp
    (go_at_call 115; refine (shGood_any p pq _).mono ?_; rintro e5 w3 ⟨rfl, hb3⟩; have hB3 : Below w.heap.size w w3 := hB2.trans (Below.call (w := w2) (by go_grown) (by go_size) hb3); have n2 := Blk.thru m2 (by go_grown) hb3; have n6 := Blk.thru m6 (by go_grown) hb3; have n8 := Blk.thru k8 (by go_grown) hb3; have hf3 := (hf2.below (by go_grown : Below w2.heap.size w2 ((w2.alloc (.cells #[.int .i64 p, .int .i64 pq] 68)).drew))).below hb3; obtain ⟨v0, v1, v2, vf0, vf1, vf2⟩ := n2.c3; obtain ⟨v6, _⟩ := n6.c1; obtain ⟨v8, v8', _, _⟩ := n8.c2)
    go_wp2_with fail
    refine hK.out _ _ ?hSn2_6 (fun hHeld => ?hRn2_6)
    case hSn2_6 => ((try dsimp only); go_keep)
    clear hK K
    try simp only [Act.put, zp1, zp2, zp3, zp4, zp5, zp6]
    refine wpAnyH_take (i := 7) (v := ?vn2_7) rfl (by kernel_rfl) (by kernel_rfl) (by kernel_rfl) (fun _ _ _ h => h) (Or.inl ⟨by rfl, ?hyn2_7⟩) (by assumption) ?hRn2_7
    case hyn2_7 => (intro w hSw; (try dsimp only at hSw); go_simp; (try with_reducible rfl))
    try simp only [Act.put, zp1, zp2, zp3, zp4, zp5, zp6]
    refine wpAnyH_ready (rs := [8]) (by kernel_rfl) (by simp) ?_
    refine AllReadyH.cons rfl (fun K hK => ?_) AllReadyH.nil
    go_simp
    refine hK.out _ _ ?hSn2_8 (fun hHeld => ?hRn2_8)
    case hSn2_8 => ((try dsimp only); go_keep)
    clear hK K
    try simp only [Act.put, zp1, zp2, zp3, zp4, zp5, zp6]
    refine wpAnyH_take (i := 9) (v := ?vn2_9) rfl (by kernel_rfl) (by kernel_rfl) (by kernel_rfl) (fun _ _ _ h => h) (Or.inl ⟨by rfl, ?hyn2_9⟩) (by assumption) ?hRn2_9
    case hyn2_9 => (intro w hSw; (try dsimp only at hSw); go_simp; (try with_reducible rfl))
    try simp only [Act.put, zp1, zp2, zp3, zp4, zp5, zp6]
    refine wpAnyH_done (by kernel_rfl) ?_ _
    go_wp2
    refine bodyPost_ret (v := .tuple #[.agg #[.slice A1 ((sumS e1 e2).getD .nil).len c1, .int .i64 p, .int .i64 pq], .bool (fracOk p pq)]) (by simp [results, Tryz.results72, go_sem, v0, v1, v2]) rfl ?_
    exact ⟨A1, c1, by rw [HO.out]; rfl, (((hf3.setCell (p := ⟨w.heap.size + 1 + 1, 0, none⟩) (by go_size) _).setCell (p := ⟨w.heap.size + 1 + 1, 1, none⟩) (by go_size) _).setCell (p := ⟨w.heap.size + 1 + 1, 2, none⟩) (by go_size) _).mono (by go_size), ((hB3.setCell (by go_size) _).setCell (by go_size) _).setCell (by go_size) _⟩

/-- a step of the inner loop -/
theorem prodIn_step {e y : Sur} {n d : Int} {k : Nat} {out e' : Sur} {n' d' : Int} (hy : y.drop k = .cons e' n' d' (y.drop (k + 1))) :
    (((sumS e e').isSome && fracOk (muN n d n' d') (muD n d n' d')) = false → prodIn e n d (y.drop k) out = none) ∧
    (∀ z, sumS e e' = some z → fracOk (muN n d n' d') (muD n d n' d') = true → (putP z (muN n d n' d') (muD n d n' d') out = none → prodIn e n d (y.drop k) out = none) ∧
      ∀ nx, putP z (muN n d n' d') (muD n d n' d') out = some nx → prodIn e n d (y.drop k) out = prodIn e n d (y.drop (k + 1)) nx) := by
  rw [hy, prodIn]
  refine ⟨fun h => ?_, fun z h1 h2 => ?_⟩
  · cases hs : sumS e e' with
    | none => rfl
    | some z =>
      rw [hs] at h
      simp only [Option.isSome_some, Bool.true_and] at h
      simp only [h]; rfl
  · rw [h1]
    simp only [if_pos h2]
    exact ⟨fun h => by rw [h]; rfl, fun nx h => by rw [h]; rfl⟩
/-- the outer loop: what was made of the first terms -/
def ProdAt (x y : Sur) (i : Nat) (out : Sur) : Prop := prodOut y x .nil = prodOut y (x.drop i) out
theorem ProdAt.next {x y : Sur} {i : Nat} {out nx e : Sur} {n d : Int} (h : ProdAt x y i out) (hx : x.drop i = .cons e n d (x.drop (i + 1))) (hn : prodIn e n d y out = some nx) : ProdAt x y (i + 1) nx := by
  unfold ProdAt at *
  rw [h, hx, prodOut, hn]; rfl
theorem ProdAt.fail {x y : Sur} {i : Nat} {out e : Sur} {n d : Int} (h : ProdAt x y i out) (hx : x.drop i = .cons e n d (x.drop (i + 1))) (hn : prodIn e n d y out = none) : prodS x y = none := by
  unfold ProdAt at h
  unfold prodS
  rw [h, hx, prodOut, hn]; rfl
theorem ProdAt.done {x y : Sur} {i : Nat} {out : Sur} (h : ProdAt x y i out) (hi : x.len ≤ i) : prodS x y = told out true := by
  unfold ProdAt at h
  unfold prodS
  rw [h, x.drop_of_ge i hi]; rfl
theorem sumS_good {x y z : Sur} (h : sumS x y = some z) : sGood z = true := by
  unfold sumS at h
  obtain ⟨u, _, hu⟩ := Option.bind_eq_some_iff.1 h
  obtain ⟨rfl, _, hg⟩ := told_eq hu
  exact hg

set_option maxHeartbeats 3200000 in
set_option maxRecDepth 100000 in
theorem suProduct_any (x y : Sur) (X Y : Nat → Prop) (A A' : Option Addr) (c c' : Nat) (w : World) (sx : SSl X w x A c) (sy : SSl Y w y A' c') (gx : sGood x = true) (gy : sGood y = true) :
    Calls Tryz.prog 26 #[.agg #[.slice A x.len c], .agg #[.slice A' y.len c']] w (RetFreshB w (prodS x y)) := by
  have sx := sx.more (Y := fun _ => False) (fun _ h => h.elim)
  have sy := sy.more (Y := fun _ => False) (fun _ h => h.elim)
  have lx := sx.cap
  have lx' := sx.le
  have ly := sy.cap
  have ly' := sy.le
  unfold maxLen at lx ly
  have hgx := sGood_len gx
  have hgy := sGood_len gy
  have k0 := ((((Blk.new w 26 #[.slice A x.len c]).alloc (.cells #[.slice A' y.len c'] 26)).alloc (.cells #[.slice none 0 0] 26)).alloc (.cells #[.slice none 0 0] 26))
  have k1 := (((Blk.new' (g := w.heap.size + 1) (w.alloc (.cells #[.slice A x.len c] 26)) 26 #[.slice A' y.len c'] (by simp)).alloc (.cells #[.slice none 0 0] 26)).alloc (.cells #[.slice none 0 0] 26))
  have k2 := ((Blk.new' (g := w.heap.size + 1 + 1) ((w.alloc (.cells #[.slice A x.len c] 26)).alloc (.cells #[.slice A' y.len c'] 26)) 26 #[.slice none 0 0] (by simp)).alloc (.cells #[.slice none 0 0] 26))
  have k3 := (Blk.new' (g := w.heap.size + 1 + 1 + 1) (((w.alloc (.cells #[.slice A x.len c] 26)).alloc (.cells #[.slice A' y.len c'] 26)).alloc (.cells #[.slice none 0 0] 26)) 26 #[.slice none 0 0] (by simp))
  have hB0 : Below w.heap.size w ((((w.alloc (.cells #[.slice A x.len c] 26)).alloc (.cells #[.slice A' y.len c'] 26)).alloc (.cells #[.slice none 0 0] 26)).alloc (.cells #[.slice none 0 0] 26)) := by go_grown
  have tx := sx.low
  have ty := sy.low
  clear gx gy sx sy
  go_enter Tryz.func26, Tryz.ntmps26
  go_wp2
  go_loopw [19] (fun s wr => ∃ (i : Nat) (Ao : Option Addr) (co : Nat) (out : Sur), s = .int .i64 i ∧ i ≤ x.len ∧ out.len ≤ 60 * i ∧ out.All FOk ∧
      Blk wr (w.heap.size + 1) 26 #[.slice A' y.len c'] ∧ Blk wr (w.heap.size + 1 + 1) 26 #[.slice none 0 0] ∧ Blk wr (w.heap.size + 1 + 1 + 1) 26 #[.slice Ao out.len co] ∧
      SSl (fun k => k = w.heap.size + 1 + 1 ∨ k = w.heap.size + 1 + 1 + 1) wr out Ao co ∧ Hid (ProdAt x y i out) ∧ Below w.heap.size w wr) (fun s _ => x.len - (intOf s).toNat)
  case atStart => exact ⟨0, none, 0, .nil, rfl, Nat.zero_le _, by simp [Sur.len], trivial, k1, k2, k3, SSl.nil _ _, rfl, hB0⟩
  case round =>
    obtain ⟨i, Ao, co, out, rfl, hi, hol, hoa, m1, m2, m3, so, HS, hB⟩ := hrel
    clear k0 k1 k2 k3 hB0
    obtain ⟨p1, _⟩ := m1.c1
    obtain ⟨p2, pf2⟩ := m2.c1
    obtain ⟨p3, pf3⟩ := m3.c1
    have y3 := m3.lt
    have y2 := m2.lt
    have y1 := m1.lt
    have hi0' : (0 : Int) ≤ (i : Int) := by omega
    by_cases h1 : i < x.len
    · obtain ⟨b, o, e, n, d, A1, d1, rfl, hxk, f0, f1, f2, se, in_, id_, hXb, hbl⟩ := (tx.lowTo (Below.refl _ _) hB).at_ h1
      have hne := Sur.nodes_drop hxk
      have hel := e.len_lt_nodes
      have hax := Sur.all_drop hgx.2.2 hxk
      have HXK := Lib.hid hxk
      clear hxk
      go_wp2
      obtain ⟨wo, rfl⟩ : ∃ wo : World, wo = wr := ⟨_, rfl⟩
      have hzo : w.heap.size + 1 + 1 + 1 < wo.heap.size := y3
      have kt := Blk.new wo 70 #[.slice A1 e.len d1, .int .i64 n, .int .i64 d]
      go_loopw [26] (fun s wr => ∃ (k : Nat) (Ap : Option Addr) (cp : Nat) (ou : Sur), s = .int .i64 k ∧ k ≤ y.len ∧ ou.len ≤ 60 * i + k ∧ ou.All FOk ∧
          Blk wr (w.heap.size + 1) 26 #[.slice A' y.len c'] ∧ Blk wr (w.heap.size + 1 + 1) 26 #[.slice none 0 0] ∧ Blk wr (w.heap.size + 1 + 1 + 1) 26 #[.slice Ap ou.len cp] ∧
          Blk wr wo.heap.size 70 #[.slice A1 e.len d1, .int .i64 n, .int .i64 d] ∧
          SSl (fun k => k = w.heap.size + 1 + 1 ∨ k = w.heap.size + 1 + 1 + 1) wr ou Ap cp ∧ Hid (prodIn e n d y out = prodIn e n d (y.drop k) ou) ∧ Below w.heap.size w wr) (fun s _ => y.len - (intOf s).toNat)
      case atStart => exact ⟨0, Ao, co, out, rfl, Nat.zero_le _, by omega, hoa, m1.alloc _, m2.alloc _, m3.alloc _, kt, so.below (by go_grown), rfl, hB.alloc hB.size _⟩
      case round =>
        obtain ⟨k, Ap, cp, ou, rfl, hk, hpl, hpa, n1, n2, n3, n4, sp, HI, hC⟩ := hrel
        clear m1 m2 m3 p1 p2 pf2 p3 pf3 y3 y2 y1 so kt f0 f1 f2 hoa
        obtain ⟨p1, _⟩ := n1.c1
        obtain ⟨p2, pf2⟩ := n2.c1
        obtain ⟨p3, pf3⟩ := n3.c1
        obtain ⟨p4, p5, p6, _, _, _⟩ := n4.c3
        have y4 := n4.lt
        have y3 := n3.lt
        have y2 := n2.lt
        have y1 := n1.lt
        have hk0' : (0 : Int) ≤ (k : Int) := by omega
        have hse := se.lowTo hB hC
        by_cases h2 : k < y.len
        · obtain ⟨b', o', e', n', d', A2, d2, rfl, hyk, g0, g1, g2, se', in', id', hXb', hbl'⟩ := (ty.lowTo (Below.refl _ _) hC).at_ h2
          have hne' := Sur.nodes_drop hyk
          have hel' := e'.len_lt_nodes
          have hay := Sur.all_drop hgy.2.2 hyk
          have HST := Lib.hid (prodIn_step (e := e) (n := n) (d := d) (out := ou) hyk)
          clear hyk
          go_wp2_with fail
          refine (suTimesTerm_any e e' n d n' d' _ _ _ _ _ _ _ (hse.below (by go_grown)) (se'.below (by go_grown)) hax.1 hay.1 hax.2.1 hay.2.1 (by omega)).mono ?_
          rintro e2 w2 ⟨Az, cz, rfl, hz, hb2⟩
          have hC2 : Below w.heap.size w w2 := hC.trans (Below.call (w := wr) (by go_grown) (by go_size) hb2)
          have r1 := Blk.thru n1 (by go_grown) hb2
          have r2 := Blk.thru n2 (by go_grown) hb2
          have r3 := Blk.thru n3 (by go_grown) hb2
          have r4 := Blk.thru n4 (by go_grown) hb2
          have sp2 := sp.past (by go_grown) hb2
          obtain ⟨q1, _⟩ := r1.c1
          obtain ⟨q2, qf2⟩ := r2.c1
          obtain ⟨q3, qf3⟩ := r3.c1
          have x3 := r3.lt
          have x2 := r2.lt
          cases ho : ((sumS e e').isSome && fracOk (muN n d n' d') (muD n d n' d'))
          · have HF := Lib.hid (HS.out.fail HXK.out (HI.out.trans (HST.out.1 ho)))
            clear ho
            go_wp2
            refine bodyPost_ret (v := .tuple #[.agg #[.slice none 0 0], .bool false]) (by simp [results, Tryz.results26, go_sem, q2, x2]) rfl ?_
            rw [HF.out]
            exact ⟨none, 0, rfl, SFresh.nil _ _, by go_grown⟩
          · simp only [Bool.and_eq_true] at ho
            obtain ⟨zz, ha⟩ := Option.isSome_iff_exists.1 ho.1
            have hfp := ho.2
            have hzg := sGood_len (sumS_good ha)
            have HST2 := Lib.hid (HST.out.2 zz ha hfp)
            rw [ha] at hz
            simp only [ha, Option.getD_some] at hz ⊢
            clear ho HST ha
            generalize muN n d n' d' = p at *
            generalize muD n d n' d' = pq at *
            have szz : SSl (fun k => k = w.heap.size + 1 + 1 ∨ k = w.heap.size + 1 + 1 + 1) w2 zz Az cz := hz.toS (fun k hk => by rcases hk with rfl | rfl <;> go_size)
            go_wp2_with fail
            refine (suPut_any ou zz p pq (fun k => k = w.heap.size + 1 + 1 ∨ k = w.heap.size + 1 + 1 + 1) _ _ _ _ _ (fun k hk => by rcases hk with rfl | rfl <;> go_size) (sp2.below (by go_grown)) (szz.below (by go_grown)) hpa hzg.2.2 hfp (by omega)).mono ?_
            rintro e3 w3 ⟨A3, c3, rfl, hs3, hb3⟩
            have hC3 : Below w.heap.size w w3 := hC2.trans (Below.call (w := w2) (by go_grown) (by go_size) hb3)
            have s1 := Blk.thru r1 (by go_grown) hb3
            have s2 := Blk.thru r2 (by go_grown) hb3
            have s3 := Blk.thru r3 (by go_grown) hb3
            have s4 := Blk.thru r4 (by go_grown) hb3
            obtain ⟨t2, tf2⟩ := s2.c1
            obtain ⟨t3, tf3⟩ := s3.c1
            have z3 := s3.lt
            have z2 := s2.lt
            rcases hs : putP zz p pq ou with _ | nx
            · have HF := Lib.hid (HS.out.fail HXK.out (HI.out.trans (HST2.out.1 hs)))
              clear hs
              simp only [Option.isSome_none]
              go_wp2
              refine bodyPost_ret (v := .tuple #[.agg #[.slice none 0 0], .bool false]) (by simp [results, Tryz.results26, go_sem, t2, z2]) rfl ?_
              rw [HF.out]
              exact ⟨none, 0, rfl, SFresh.nil _ _, by go_grown⟩
            · have HI2 := Lib.hid (HI.out.trans (HST2.out.2 nx hs))
              obtain ⟨hna, hnl⟩ := putP_all hzg.2.2 hfp hpa hs
              rw [hs] at hs3
              simp only [Option.getD_some, Option.isSome_some] at hs3 ⊢
              clear hs
              go_wp2
              have hC4 := hC3.setCell (p := ⟨w.heap.size + 1 + 1 + 1, 0, none⟩) (by dsimp only; omega) (.slice A3 nx.len c3)
              exact ⟨⟨k + 1, A3, c3, nx, by go_num, by omega, by omega, hna, (s1.far (by dsimp only; omega) _).alloc _, (s2.far (by dsimp only; omega) _).alloc _, (s3.set_ 0 _).alloc _, (s4.far (by dsimp only; omega) _).alloc _, (hs3.far (p := ⟨w.heap.size + 1 + 1 + 1, 0, none⟩) (.inr rfl) _).below (by go_grown), HI2, hC4.alloc hC4.size _⟩, by simp [intOf]; omega⟩
        · have HN := Lib.hid (HS.out.next HXK.out (HI.out.trans (by rw [y.drop_of_ge k (by omega)]; rfl)))
          go_wp2
          exact ⟨⟨i + 1, Ap, cp, ou, by go_num, by omega, by omega, hpa, n1, n2, n3, sp, HN, hC⟩, by simp [intOf]; omega⟩
    · have HF := Lib.hid (HS.out.done (by omega))
      go_wp2_with fail
      refine (suIf_any out _ _ _ _ so).mono ?_
      rintro e2 w2 ⟨A2, c2, rfl, hf2, hb2⟩
      obtain ⟨q2, qf2⟩ := (m2.call hb2).c1
      go_wp2
      refine bodyPost_ret (v := .tuple #[.agg #[.slice A2 ((told out true).getD .nil).len c2], .bool (told out true).isSome]) (by simp [results, Tryz.results26, go_sem, q2]) rfl ?_
      rw [HF.out]
      exact ⟨A2, c2, rfl, (hf2.setCell (by simp; omega) _).mono (by omega), (hB.trans (hb2.mono hB.size)).setCell (by simp; omega) _⟩
end Go.Proofs.YtonlfnbjbmgegaaGreat

namespace Go.Proofs.YtonlfnbjbmgegaaGreat
open Go.RowKit
open List renaming getElem_toArray → zp1, getElem_cons_zero → zp2, getElem_cons_succ → zp3, setIfInBounds_toArray → zp4, set_cons_zero → zp5, set_cons_succ → zp6
set_option linter.unusedSimpArgs false
set_option linter.unusedVariables false

theorem xdis_low3 {X : Nat → Prop} {v : Value} {w lo hi : World} (hX : ∀ k, X k → k < w.heap.size) [a : OwR v lo hi] [b : LeB w lo] : XDis X v := ⟨fun g hg h => by have := hX g h; have := (a.h g hg).1; have := b.h; omega⟩
attribute [local go_sem high] has_cell has_frozen
set_option synthInstance.maxHeartbeats 2000000 in
set_option synthInstance.maxSize 4000 in
set_option maxHeartbeats 3200000 in
set_option maxRecDepth 100000 in
theorem suNeg_any (x : Sur) (X : Nat → Prop) (A : Option Addr) (c : Nat) (w : World) (hX : ∀ k, X k → k < w.heap.size) (sx : SSl X w x A c) (hl : x.len ≤ 1099511627776) :
    Calls Tryz.prog 132 #[.agg #[.slice A x.len c]] w (RetS X w (negP x)) := by
  have lx := sx.cap
  have lx' := sx.le
  unfold maxLen at lx
  haveI ix := Tr.arg sx
  clear sx
  go_enter Tryz.func132, Tryz.ntmps132
  go_wp2_with (first | ((with_reducible refine at_dst (N := 1) rfl ?_); refine ev_box (cs := #[.slice A x.len c]) (t := 26) rfl ?hr1 ?_; (case hr1 => first | (go_simp; done) | (go_simp; rfl)); intro g1 v1 _ _ _ _) | ((with_reducible refine at_dst (N := 2) rfl ?_); refine ev_box (cs := #[.slice none 0 0]) (t := 26) rfl ?hr2 ?_; (case hr2 => first | (go_simp; done) | (go_simp; rfl)); intro g2 v2 _ _ _ _) | ((with_reducible refine at_dst (N := 3) rfl ?_); refine ev_box (cs := #[.slice none 0 0]) (t := 26) rfl ?hr3 ?_; (case hr3 => first | (go_simp; done) | (go_simp; rfl)); intro g3 v3 _ _ _ _))
  go_loopw [10] (fun s wr => ∃ (i : Nat) (v : Value) (xs : List Value), s = .int .i64 i ∧ i ≤ x.len ∧ Has wr g3 (.cells #[v] 26 (0, 0)) ∧ Own wr v v3 70 3 (negP (x.take i)).len xs ∧ TR wr (XV w X) (negP (x.take i)) xs ∧ Kp v3 (XE g3) wr ∧ Tr wr A (XV w X) x c) (fun s _ => x.len - (intOf s).toNat)
  case atStart => exact ⟨0, .slice none 0 0, [], rfl, Nat.zero_le _, inferInstance, Own.nil _ _ _ _, TR.nil _ _, kp _ _ _, inferInstance⟩
  case round =>
    obtain ⟨i, v, xs, rfl, hi, _, _, _, _, ix4⟩ := hrel
    clear ix
    haveI := Own.rg wr v
    have hi0' : (0 : Int) ≤ (i : Int) := by omega
    have hln : (negP (x.take i)).len ≤ 1099511627776 := by rw [negP_len, Sur.len_take x i hi]; omega
    by_cases h1 : i < x.len
    · obtain ⟨b, o, e, n, d, A1, d1, rfl, hxk, f0, f1, f2, se, in_, id_, hXb, hbl⟩ := ix4.h.at_ h1
      haveI : Tr wr A1 _ e d1 := ⟨se⟩
      have hT : negP (x.take (i + 1)) = (negP (x.take i)).app (.cons e (negI n) d .nil) := by rw [x.take_succ i e n d _ hxk, negP_app]; rfl
      have HT := Lib.hid hT
      clear hT hxk se
      have h1' : (i : Int) < (x.len : Int) := by omega
      go_wp2_with (first | ((with_reducible refine at_dst (N := 5) rfl ?_); refine ev_box (cs := #[.slice none 0 0, .int .i64 0, .int .i64 0]) (t := 70) rfl ?hr5 ?_; (case hr5 => first | (go_simp; done) | (go_simp; rfl)); intro g5 v5 _ _ _ _))
      refine wp_region_held_drew (S := (fun w' => w'.cell? ⟨g5, 0, none⟩ = some (.slice A1 e.len d1) ∧ w'.cell? ⟨g5, 1, none⟩ = some (.int .i64 n) ∧ w'.cell? ⟨g5, 2, none⟩ = some (.int .i64 d))) (by kernel_rfl) ?hSn1_ (fun hHeld => ?hRn1_)
      case hSn1_ => (exact has3)
      refine wpAnyH_take (i := 0) (v := ?vn1_1) rfl (by kernel_rfl) (by kernel_rfl) (by kernel_rfl) (fun _ _ _ h => h) (Or.inl ⟨by rfl, ?hyn1_1⟩) (by assumption) ?hRn1_1
      case hyn1_1 => (intro w hSw; (try dsimp only at hSw); go_simp; (try with_reducible rfl))
      try simp only [Act.put, zp1, zp2, zp3, zp4, zp5, zp6]
      refine wpAnyH_take (i := 2) (v := ?vn1_2) rfl (by kernel_rfl) (by kernel_rfl) (by kernel_rfl) (fun _ _ _ h => h) (Or.inl ⟨by rfl, ?hyn1_2⟩) (by assumption) ?hRn1_2
      case hyn1_2 => (intro w hSw; (try dsimp only at hSw); go_simp; (try with_reducible rfl))
      try simp only [Act.put, zp1, zp2, zp3, zp4, zp5, zp6]
      refine wpAnyH_take (i := 3) (v := ?vn1_3) rfl (by kernel_rfl) (by kernel_rfl) (by kernel_rfl) (fun _ _ _ h => h) (Or.inl ⟨by rfl, ?hyn1_3⟩) (by assumption) ?hRn1_3
      case hyn1_3 => (intro w hSw; (try dsimp only at hSw); go_simp; (try with_reducible rfl))
      try simp only [Act.put, zp1, zp2, zp3, zp4, zp5, zp6]
      refine wpAnyH_take (i := 4) (v := ?vn1_4) rfl (by kernel_rfl) (by kernel_rfl) (by kernel_rfl) (fun _ _ _ h => h) (Or.inl ⟨by rfl, ?hyn1_4⟩) (by assumption) ?hRn1_4
      case hyn1_4 => (intro w hSw; (try dsimp only at hSw); go_simp; (try with_reducible rfl))
      try simp only [Act.put, zp1, zp2, zp3, zp4, zp5, zp6]
      refine wpAnyH_take (i := 5) (v := ?vn1_5) rfl (by kernel_rfl) (by kernel_rfl) (by kernel_rfl) (fun _ _ _ h => h) (Or.inl ⟨by rfl, ?hyn1_5⟩) (by assumption) ?hRn1_5
      case hyn1_5 => (intro w hSw; (try dsimp only at hSw); go_simp; (try with_reducible rfl))
      try simp only [Act.put, zp1, zp2, zp3, zp4, zp5, zp6]
      refine wpAnyH_ready (rs := [1, 6]) (by kernel_rfl) (by simp) ?_
      refine AllReadyH.cons rfl (fun K hK => ?bn1_6) (AllReadyH.cons rfl (fun K hK => ?bn1_7) (AllReadyH.nil))
      case' bn1_6 =>
        go_simp
        refine hK.out _ _ ?hSn1_8 (fun hHeld => ?hRn1_8)
        case hSn1_8 => ((try dsimp only); exact has3)
        clear hK K
        try simp only [Act.put, zp1, zp2, zp3, zp4, zp5, zp6]
        refine wpAnyH_ready (rs := [6]) (by kernel_rfl) (by simp) ?_
        refine AllReadyH.cons rfl (fun K hK => ?_) AllReadyH.nil
        go_simp
        (go_at_call 146; refine (shNeg_any _ _ _).mono ?_; rintro e20 w20 ⟨rfl, hb⟩; haveI : Bel _ w20 := ⟨hb⟩; clear hb)
        go_wp2_with fail
        refine hK.out _ _ ?hSn1_9 (fun hHeld => ?hRn1_9)
        case hSn1_9 => ((try dsimp only); exact has3)
        clear hK K
        try simp only [Act.put, zp1, zp2, zp3, zp4, zp5, zp6]
        refine wpAnyH_take (i := 7) (v := ?vn1_10) rfl (by kernel_rfl) (by kernel_rfl) (by kernel_rfl) (fun _ _ _ h => h) (Or.inl ⟨by rfl, ?hyn1_10⟩) (by assumption) ?hRn1_10
        case hyn1_10 => (intro w hSw; (try dsimp only at hSw); go_simp; (try with_reducible rfl))
        try simp only [Act.put, zp1, zp2, zp3, zp4, zp5, zp6]
        refine wpAnyH_ready (rs := [8]) (by kernel_rfl) (by simp) ?_
        refine AllReadyH.cons rfl (fun K hK => ?_) AllReadyH.nil
        go_simp
        refine hK.out _ _ ?hSn1_11 (fun hHeld => ?hRn1_11)
        case hSn1_11 => ((try dsimp only); exact has3)
        clear hK K
        try simp only [Act.put, zp1, zp2, zp3, zp4, zp5, zp6]
        refine wpAnyH_ready (rs := [9]) (by kernel_rfl) (by simp) ?_
        refine AllReadyH.cons rfl (fun K hK => ?_) AllReadyH.nil
        (refine ap_step (v := v) (cs := [.slice A1 e.len d1, .int .i64 (negI n), .int .i64 d]) (by rfl) _ _ _ (by rfl) (by rfl) (by rfl) (by rfl) (by simp [Value.oneCell']) (by omega) ?_; intro gg cap wa _ _ _ _ _)
        refine hK.out _ _ ?hSn1_12 (fun hHeld => ?hRn1_12)
        case hSn1_12 => ((try dsimp only); exact has3)
        clear hK K
        try simp only [Act.put, zp1, zp2, zp3, zp4, zp5, zp6]
        refine wpAnyH_take (i := 10) (v := ?vn1_13) rfl (by kernel_rfl) (by kernel_rfl) (by kernel_rfl) (fun _ _ _ h => h) (Or.inl ⟨by rfl, ?hyn1_13⟩) (by assumption) ?hRn1_13
        case hyn1_13 => (intro w hSw; (try dsimp only at hSw); go_simp; (try with_reducible rfl))
        try simp only [Act.put, zp1, zp2, zp3, zp4, zp5, zp6]
        refine wpAnyH_ready (rs := [11]) (by kernel_rfl) (by simp) ?_
        refine AllReadyH.cons rfl (fun K hK => ?_) AllReadyH.nil
        go_simp
        refine hK.out _ _ ?hSn1_14 (fun hHeld => ?hRn1_14)
        case hSn1_14 => ((try dsimp only); exact has3)
        clear hK K
        try simp only [Act.put, zp1, zp2, zp3, zp4, zp5, zp6]
        refine wpAnyH_done (by kernel_rfl) ?_ _
      case' bn1_7 =>
        go_simp
        (go_at_call 146; refine (shNeg_any _ _ _).mono ?_; rintro e20 w20 ⟨rfl, hb⟩; haveI : Bel _ w20 := ⟨hb⟩; clear hb)
        go_wp2_with fail
        refine hK.out _ _ ?hSn1_15 (fun hHeld => ?hRn1_15)
        case hSn1_15 => ((try dsimp only); exact has3)
        clear hK K
        try simp only [Act.put, zp1, zp2, zp3, zp4, zp5, zp6]
        refine wpAnyH_take (i := 7) (v := ?vn1_16) rfl (by kernel_rfl) (by kernel_rfl) (by kernel_rfl) (fun _ _ _ h => h) (Or.inl ⟨by rfl, ?hyn1_16⟩) (by assumption) ?hRn1_16
        case hyn1_16 => (intro w hSw; (try dsimp only at hSw); go_simp; (try with_reducible rfl))
        try simp only [Act.put, zp1, zp2, zp3, zp4, zp5, zp6]
        refine wpAnyH_ready (rs := [1, 8]) (by kernel_rfl) (by simp) ?_
        refine AllReadyH.cons rfl (fun K hK => ?bn1_17) (AllReadyH.cons rfl (fun K hK => ?bn1_18) (AllReadyH.nil))
        case' bn1_17 =>
          go_simp
          refine hK.out _ _ ?hSn1_19 (fun hHeld => ?hRn1_19)
          case hSn1_19 => ((try dsimp only); exact has3)
          clear hK K
          try simp only [Act.put, zp1, zp2, zp3, zp4, zp5, zp6]
          refine wpAnyH_ready (rs := [8]) (by kernel_rfl) (by simp) ?_
          refine AllReadyH.cons rfl (fun K hK => ?_) AllReadyH.nil
          go_simp
          refine hK.out _ _ ?hSn1_20 (fun hHeld => ?hRn1_20)
          case hSn1_20 => ((try dsimp only); exact has3)
          clear hK K
          try simp only [Act.put, zp1, zp2, zp3, zp4, zp5, zp6]
          refine wpAnyH_ready (rs := [9]) (by kernel_rfl) (by simp) ?_
          refine AllReadyH.cons rfl (fun K hK => ?_) AllReadyH.nil
          (refine ap_step (v := v) (cs := [.slice A1 e.len d1, .int .i64 (negI n), .int .i64 d]) (by rfl) _ _ _ (by rfl) (by rfl) (by rfl) (by rfl) (by simp [Value.oneCell']) (by omega) ?_; intro gg cap wa _ _ _ _ _)
          refine hK.out _ _ ?hSn1_21 (fun hHeld => ?hRn1_21)
          case hSn1_21 => ((try dsimp only); exact has3)
          clear hK K
          try simp only [Act.put, zp1, zp2, zp3, zp4, zp5, zp6]
          refine wpAnyH_take (i := 10) (v := ?vn1_22) rfl (by kernel_rfl) (by kernel_rfl) (by kernel_rfl) (fun _ _ _ h => h) (Or.inl ⟨by rfl, ?hyn1_22⟩) (by assumption) ?hRn1_22
          case hyn1_22 => (intro w hSw; (try dsimp only at hSw); go_simp; (try with_reducible rfl))
          try simp only [Act.put, zp1, zp2, zp3, zp4, zp5, zp6]
          refine wpAnyH_ready (rs := [11]) (by kernel_rfl) (by simp) ?_
          refine AllReadyH.cons rfl (fun K hK => ?_) AllReadyH.nil
          go_simp
          refine hK.out _ _ ?hSn1_23 (fun hHeld => ?hRn1_23)
          case hSn1_23 => ((try dsimp only); exact has3)
          clear hK K
          try simp only [Act.put, zp1, zp2, zp3, zp4, zp5, zp6]
          refine wpAnyH_done (by kernel_rfl) ?_ _
        case' bn1_18 =>
          go_simp
          refine hK.out _ _ ?hSn1_24 (fun hHeld => ?hRn1_24)
          case hSn1_24 => ((try dsimp only); exact has3)
          clear hK K
          try simp only [Act.put, zp1, zp2, zp3, zp4, zp5, zp6]
          refine wpAnyH_ready (rs := [1]) (by kernel_rfl) (by simp) ?_
          refine AllReadyH.cons rfl (fun K hK => ?_) AllReadyH.nil
          go_simp
          refine hK.out _ _ ?hSn1_25 (fun hHeld => ?hRn1_25)
          case hSn1_25 => ((try dsimp only); exact has3)
          clear hK K
          try simp only [Act.put, zp1, zp2, zp3, zp4, zp5, zp6]
          refine wpAnyH_ready (rs := [9]) (by kernel_rfl) (by simp) ?_
          refine AllReadyH.cons rfl (fun K hK => ?_) AllReadyH.nil
          (refine ap_step (v := v) (cs := [.slice A1 e.len d1, .int .i64 (negI n), .int .i64 d]) (by rfl) _ _ _ (by rfl) (by rfl) (by rfl) (by rfl) (by simp [Value.oneCell']) (by omega) ?_; intro gg cap wa _ _ _ _ _)
          refine hK.out _ _ ?hSn1_26 (fun hHeld => ?hRn1_26)
          case hSn1_26 => ((try dsimp only); exact has3)
          clear hK K
          try simp only [Act.put, zp1, zp2, zp3, zp4, zp5, zp6]
          refine wpAnyH_take (i := 10) (v := ?vn1_27) rfl (by kernel_rfl) (by kernel_rfl) (by kernel_rfl) (fun _ _ _ h => h) (Or.inl ⟨by rfl, ?hyn1_27⟩) (by assumption) ?hRn1_27
          case hyn1_27 => (intro w hSw; (try dsimp only at hSw); go_simp; (try with_reducible rfl))
          try simp only [Act.put, zp1, zp2, zp3, zp4, zp5, zp6]
          refine wpAnyH_ready (rs := [11]) (by kernel_rfl) (by simp) ?_
          refine AllReadyH.cons rfl (fun K hK => ?_) AllReadyH.nil
          go_simp
          refine hK.out _ _ ?hSn1_28 (fun hHeld => ?hRn1_28)
          case hSn1_28 => ((try dsimp only); exact has3)
          clear hK K
          try simp only [Act.put, zp1, zp2, zp3, zp4, zp5, zp6]
          refine wpAnyH_done (by kernel_rfl) ?_ _
      all_goals
        go_wp2
        exact ⟨⟨i + 1, _, _, by go_num, by omega, inferInstance, by rw [HT.out]; exact Own.snoc inferInstance, by rw [HT.out]; exact TR.snoc (tr _ A1) (negI_I64 n) id_, kp _ _ _, inferInstance⟩, by simp [intOf]; omega⟩
    · obtain rfl : i = x.len := by omega
      obtain ⟨Av, cv, rfl⟩ := own_slice (inferInstance : Own wr v v3 _ 3 _ xs).h
      go_wp2
      refine bodyPost_ret (v := .agg #[.slice Av (negP (x.take x.len)).len cv]) (by simp [results, Tryz.results132, go_sem]) rfl ?_
      haveI : XDis X (.slice Av (negP (x.take x.len)).len cv) := xdis_low3 hX
      have hs := sl_own X (World.setCell wr ⟨g2, 0, none⟩ (.slice Av (negP (x.take x.len)).len cv)) Av cv (negP (x.take x.len))
      have hb := ext w (World.setCell wr ⟨g2, 0, none⟩ (.slice Av (negP (x.take x.len)).len cv))
      rw [x.take_len] at hs hb ⊢
      exact ⟨Av, cv, rfl, hs, hb⟩

theorem sGood_one {a b : Int} (h : fracOk a b = true) : sGood (termP .nil a b) = true := by
  unfold termP
  split
  · exact sGood_nil
  · rename_i ha
    simp [sGood, sOk, formT, Sur.nodes, prevOk, h, ha]
end Go.Proofs.YtonlfnbjbmgegaaGreat
