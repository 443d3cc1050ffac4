/-
  Walks, the reference's side: sums; the product of two terms.
-/
import Derived.Test.YtdcnmaklnciofaaSPut
namespace Go.Proofs.Ytdcnmaklnciofaa
open Go.RowKit
set_option linter.unusedSimpArgs false
set_option linter.unusedVariables false

set_option maxHeartbeats 1600000 in
set_option maxRecDepth 100000 in
theorem suPlus_any (x y : Sur) (X : Nat → Prop) (A A' : Option Addr) (c c' : Nat) (w : World) (hX : ∀ k, X k → k < w.heap.size) (sx : SSl X w x A c) (sy : SSl X w y A' c') (hx : x.All FOk) (hy : y.All FOk) (hl : x.len + y.len ≤ 1099511627776) :
    Calls Try.prog 42 #[.agg #[.slice A x.len c], .agg #[.slice A' y.len c']] w (RetSh X w (plusP x y)) := by
  have ly := sy.cap
  have ly' := sy.le
  unfold maxLen at ly
  have k2 := ((Blk.new' (g := w.heap.size + 1 + 1) ((w.alloc (.cells #[.slice A x.len c] 26)).alloc (.cells #[.slice A' y.len c'] 26)) 26 #[.slice none 0 0] (by simp)).alloc (.cells #[.slice A x.len c] 26))
  have k3 := (Blk.new' (g := w.heap.size + 1 + 1 + 1) (((w.alloc (.cells #[.slice A x.len c] 26)).alloc (.cells #[.slice A' y.len c'] 26)).alloc (.cells #[.slice none 0 0] 26)) 26 #[.slice A x.len c] (by simp))
  have hB0 : Below w.heap.size w ((((w.alloc (.cells #[.slice A x.len c] 26)).alloc (.cells #[.slice A' y.len c'] 26)).alloc (.cells #[.slice none 0 0] 26)).alloc (.cells #[.slice A x.len c] 26)) := by go_grown
  have tx := (sx.loc 4).below hB0
  have ty := sy.loc 4
  clear sx sy
  go_enter Try.func42, Try.ntmps42
  go_wp2
  go_loopw [14] (fun s wr => ∃ (k : Nat) (Ao : Option Addr) (co : Nat) (out : Sur), s = .int .i64 k ∧ k ≤ y.len ∧ out.len ≤ x.len + k ∧ out.All FOk ∧
      Blk wr (w.heap.size + 1 + 1) 26 #[.slice none 0 0] ∧ Blk wr (w.heap.size + 1 + 1 + 1) 26 #[.slice Ao out.len co] ∧
      SSl (Loc X w.heap.size 4) wr out Ao co ∧ Hid (plusP x y = plusP out (y.drop k)) ∧ Below w.heap.size w wr) (fun s _ => y.len - (intOf s).toNat)
  case atStart => exact ⟨0, A, c, x, rfl, Nat.zero_le _, by omega, hx, k2, k3, tx, rfl, hB0⟩
  case round =>
    obtain ⟨k, Ao, co, out, rfl, hk, hol, hoa, m2, m3, so, HS, hB⟩ := hrel
    clear k2 k3 hB0 tx
    obtain ⟨p2, pf2⟩ := m2.c1
    obtain ⟨p3, pf3⟩ := m3.c1
    have z3 := m3.lt
    have z2 := m2.lt
    have hk0' : (0 : Int) ≤ (k : Int) := by omega
    by_cases h1 : k < y.len
    · obtain ⟨b, o, e, n, d, A1, d1, rfl, hyk, f0, f1, f2, se, in_, id_, hXb, hbl⟩ := (ty.below hB).at_ h1
      have hay := Sur.all_drop hy hyk
      have hst : plusP x y = (putP e n d out).bind fun z => plusP z (y.drop (k + 1)) := by rw [HS.out, hyk]; rfl
      have HST := Lib.hid hst
      clear hst hyk
      go_wp2_with fail
      refine (suPut_any out e n d (Loc X w.heap.size 4) _ _ _ _ _ (loc_lt hX (by go_size)) (so.below (by go_grown)) (se.below (by go_grown)) hoa hay.1 hay.2.1 (by omega)).mono ?_
      rintro e4 w4 ⟨A4, c4, rfl, hs4, hb4⟩
      have hB4 : Below w.heap.size w w4 := hB.trans (Below.call (w := wr) (by go_grown) (by go_size) hb4)
      obtain ⟨q2, qf2⟩ := (Blk.thru m2 (by go_grown) hb4).c1
      obtain ⟨q3, qf3⟩ := (Blk.thru m3 (by go_grown) hb4).c1
      have y3 := (Blk.thru m3 (by go_grown) hb4).lt
      rcases hp : putP e n d out with _ | z
      · have HF := Lib.hid (show plusP x y = none by rw [HST.out, hp]; rfl)
        simp only [Option.isSome_none]
        clear hp
        go_wp2
        refine bodyPost_ret (v := .tuple #[.agg #[.slice none 0 0], .bool false]) (by simp [results, Try.results42, go_sem, q2]) rfl ?_
        rw [HF.out]
        exact ⟨none, 0, rfl, SSl.nil _ _, (hB4.setCell (by simp; omega) _).setCell (by simp; omega) _⟩
      · obtain ⟨hza, hzl⟩ := putP_all hay.1 hay.2.1 hoa hp
        have HN := Lib.hid (show plusP x y = plusP z (y.drop (k + 1)) by rw [HST.out, hp]; rfl)
        rw [hp] at hs4
        simp only [Option.isSome_some, Option.getD_some] at hs4 ⊢
        clear hp
        go_wp2
        exact ⟨⟨k + 1, A4, c4, z, by go_num, by omega, by omega, hza, (Blk.thru m2 (by go_grown) hb4).far (by dsimp only; omega) _, (Blk.thru m3 (by go_grown) hb4).set_ 0 _, hs4.far (.inr ⟨by dsimp only; omega, by dsimp only; omega⟩) _, HN, hB4.setCell (by dsimp only; omega) _⟩, by simp [intOf]; omega⟩
    · have HF := Lib.hid (show plusP x y = some out by rw [HS.out, y.drop_of_ge k (by omega)]; rfl)
      go_wp2
      refine bodyPost_ret (v := .tuple #[.agg #[.slice Ao out.len co], .bool true]) (by simp [results, Try.results42, go_sem, p2]) rfl ?_
      rw [HF.out]
      exact ⟨Ao, co, rfl, so.setLoc (by dsimp only; omega) (by dsimp only; omega) _, hB.setCell (by dsimp only; omega) _⟩

set_option maxHeartbeats 800000 in
theorem suSum_any (x y : Sur) (X Y : Nat → Prop) (A A' : Option Addr) (c c' : Nat) (w : World) (sx : SSl X w x A c) (sy : SSl Y w y A' c') (hx : x.All FOk) (hy : y.All FOk) (hl : x.len + y.len ≤ 1099511627776) :
    Calls Try.prog 48 #[.agg #[.slice A x.len c], .agg #[.slice A' y.len c']] w (RetFreshB w (sumS x y)) := by
  have sx := sx.more (Y := fun _ => False) (fun _ h => h.elim)
  have sy := sy.more (Y := fun _ => False) (fun _ h => h.elim)
  have k0 := (((Blk.new w 26 #[.slice A x.len c]).alloc (.cells #[.slice A' y.len c'] 26)).alloc (.cells #[.slice none 0 0] 26))
  have k1 := ((Blk.new' (g := w.heap.size + 1) (w.alloc (.cells #[.slice A x.len c] 26)) 26 #[.slice A' y.len c'] (by simp)).alloc (.cells #[.slice none 0 0] 26))
  have k2 := (Blk.new' (g := w.heap.size + 1 + 1) ((w.alloc (.cells #[.slice A x.len c] 26)).alloc (.cells #[.slice A' y.len c'] 26)) 26 #[.slice none 0 0] (by simp))
  have hB0 : Below w.heap.size w (((w.alloc (.cells #[.slice A x.len c] 26)).alloc (.cells #[.slice A' y.len c'] 26)).alloc (.cells #[.slice none 0 0] 26)) := by go_grown
  go_enter Try.func48, Try.ntmps48
  go_wp2_with fail
  refine (suPlus_any x y (fun _ => False) _ _ _ _ _ (fun _ h => h.elim) (sx.below hB0) (sy.below hB0) hx hy hl).mono ?_
  rintro e1 w1 ⟨A1, c1, rfl, hs1, hb1⟩
  have hB1 := Below.call hB0 (by go_size) hb1
  have l2 := k2.call hb1
  obtain ⟨q2, qf2⟩ := l2.c1
  have z2 := l2.lt
  rcases hp : plusP x y with _ | z
  · have HF := Lib.hid (show sumS x y = none by unfold sumS; rw [hp]; rfl)
    simp only [Option.isSome_none]
    clear hp
    go_wp2
    refine bodyPost_ret (v := .tuple #[.agg #[.slice none 0 0], .bool false]) (by simp [results, Try.results48, go_sem, q2, z2]) rfl ?_
    rw [HF.out]
    exact ⟨none, 0, rfl, SFresh.nil _ _, by go_grown⟩
  · have HF := Lib.hid (show sumS x y = told z true by unfold sumS; rw [hp]; rfl)
    rw [hp] at hs1
    simp only [Option.isSome_some, Option.getD_some] at hs1 ⊢
    clear hp
    go_wp2_with fail
    refine (suIf_any z _ _ _ _ (hs1.below (by go_grown))).mono ?_
    rintro e2 w2 ⟨A2, c2, rfl, hf2, hb2⟩
    obtain ⟨r2, rf2⟩ := (Blk.thru l2 (by go_grown) hb2).c1
    have hB2 : Below w.heap.size w w2 := hB1.trans (Below.call (w := w1) (by go_grown) (by go_size) hb2)
    go_wp2
    refine bodyPost_ret (v := .tuple #[.agg #[.slice A2 ((told z true).getD .nil).len c2], .bool (told z true).isSome]) (by simp [results, Try.results48, go_sem, r2]) rfl ?_
    rw [HF.out]
    have hs := hB1.size
    exact ⟨A2, c2, rfl, (hf2.setCell (by simp; omega) _).mono (by simp; omega), hB2.setCell (by simp; omega) _⟩
end Go.Proofs.Ytdcnmaklnciofaa
