/-
  Walks, the laws' side: are two numbers the same.
-/
import Derived.Test.YtonlfnbjbmgegaaGreatLTo
import Derived.Deep.RegionHeld3
namespace Go.Proofs.YtonlfnbjbmgegaaGreat
open Go.RowKit
open List renaming getElem_toArray → zp1, getElem_cons_zero → zp2, getElem_cons_succ → zp3, setIfInBounds_toArray → zp4, set_cons_zero → zp5, set_cons_succ → zp6
set_option linter.unusedSimpArgs false
set_option linter.unusedVariables false

def eqB : Sur → Sur → Bool
  | .nil, .nil => true
  | .cons e n d r, .cons e' n' d' r' => eqB e e' && ((n == n') && (d == d')) && eqB r r'
  | .nil, .cons _ _ _ _ => false
  | .cons _ _ _ _, .nil => false
theorem eqB_self : ∀ (x : Sur), eqB x x = true
  | .nil => rfl
  | .cons e n d r => by simp [eqB, eqB_self e, eqB_self r]
theorem eqB_len : ∀ {x y : Sur}, eqB x y = true → x.len = y.len
  | .nil, .nil, _ => rfl
  | .nil, .cons _ _ _ _, h => by cases h
  | .cons _ _ _ _, .nil, h => by cases h
  | .cons e n d r, .cons e' n' d' r', h => by
    simp only [eqB, Bool.and_eq_true] at h
    simp only [Sur.len, eqB_len h.2]

set_option maxHeartbeats 400000 in
theorem eqFraction_any (n d n' d' : Int) (w : World) :
    Calls Tryz.prog 136 #[.agg #[.int .i64 n, .int .i64 d], .agg #[.int .i64 n', .int .i64 d']] w fun e w' => e = .returned (.bool ((n == n') && (d == d'))) ∧ Below w.heap.size w w' := by
  cases h1 : (n == n')
  · go_enter Tryz.func136, Tryz.ntmps136
    have h1' : (n != n') = true := by simp [bne, h1]
    go_wp2
    go_ret
    exact ⟨rfl, by go_grown⟩
  · cases h2 : (d == d')
    · go_enter Tryz.func136, Tryz.ntmps136
      have h1' : (n != n') = false := by simp [bne, h1]
      have h2' : (d != d') = true := by simp [bne, h2]
      go_wp2
      go_ret
      exact ⟨rfl, by go_grown⟩
    · go_enter Tryz.func136, Tryz.ntmps136
      have h1' : (n != n') = false := by simp [bne, h1]
      have h2' : (d != d') = false := by simp [bne, h2]
      go_wp2
      go_ret
      exact ⟨rfl, by go_grown⟩

def RetB (w : World) (b : Bool) (e : Ending) (w' : World) : Prop := e = .returned (.bool b) ∧ Below w.heap.size w w'
set_option maxHeartbeats 400000 in
theorem eqSurreal_of (x y : Sur) (A A' : Option Addr) (c c' : Nat) (w : World) (h : ∀ W, Below w.heap.size w W → Calls Tryz.prog 65 #[.slice A x.len c, .slice A' y.len c'] W (RetB W (eqB x y))) :
    Calls Tryz.prog 20 #[.agg #[.slice A x.len c], .agg #[.slice A' y.len c']] w (RetB w (eqB x y)) := by
  have k0 := ((Blk.new w 26 #[.slice A x.len c]).alloc (.cells #[.slice A' y.len c'] 26))
  have k1 := (Blk.new' (g := w.heap.size + 1) (w.alloc (.cells #[.slice A x.len c] 26)) 26 #[.slice A' y.len c'] (by simp))
  have hB0 : Below w.heap.size w ((w.alloc (.cells #[.slice A x.len c] 26)).alloc (.cells #[.slice A' y.len c'] 26)) := by go_grown
  have HH := Lib.hid h
  clear h
  cases hb : eqB x y
  all_goals
    go_enter Tryz.func20, Tryz.ntmps20
    go_wp2_with fail
    refine (HH.out _ hB0).mono ?_
    rintro e1 w1 ⟨rfl, hb1⟩
    rw [hb]
    go_wp2
    go_ret
    exact ⟨rfl, Below.call hB0 (by go_size) hb1⟩
set_option maxHeartbeats 800000 in
theorem eqTerm_of (x y : Sur) (n d n' d' : Int) (A A' : Option Addr) (c c' : Nat) (w : World) (h : ∀ W, Below w.heap.size w W → Calls Tryz.prog 65 #[.slice A x.len c, .slice A' y.len c'] W (RetB W (eqB x y))) :
    Calls Tryz.prog 111 #[.agg #[.slice A x.len c, .int .i64 n, .int .i64 d], .agg #[.slice A' y.len c', .int .i64 n', .int .i64 d']] w (RetB w (eqB x y && ((n == n') && (d == d')))) := by
  have k0 := ((Blk.new w 70 #[.slice A x.len c, .int .i64 n, .int .i64 d]).alloc (.cells #[.slice A' y.len c', .int .i64 n', .int .i64 d'] 70))
  have k1 := (Blk.new' (g := w.heap.size + 1) (w.alloc (.cells #[.slice A x.len c, .int .i64 n, .int .i64 d] 70)) 70 #[.slice A' y.len c', .int .i64 n', .int .i64 d'] (by simp))
  have hB0 : Below w.heap.size w ((w.alloc (.cells #[.slice A x.len c, .int .i64 n, .int .i64 d] 70)).alloc (.cells #[.slice A' y.len c', .int .i64 n', .int .i64 d'] 70)) := by go_grown
  have HH := Lib.hid h
  clear h
  cases hb : eqB x y
  · go_enter Tryz.func111, Tryz.ntmps111
    go_wp2_with fail
    refine (eqSurreal_of x y A A' c c' _ (fun W hW => HH.out W (Below.call hB0 (by go_size) hW))).mono ?_
    rintro e1 w1 ⟨rfl, hb1⟩
    rw [hb]
    go_wp2
    go_ret
    exact ⟨rfl, Below.call hB0 (by go_size) hb1⟩
  · cases hf : ((n == n') && (d == d'))
    all_goals
      go_enter Tryz.func111, Tryz.ntmps111
      go_wp2_with fail
      refine (eqSurreal_of x y A A' c c' _ (fun W hW => HH.out W (Below.call hB0 (by go_size) hW))).mono ?_
      rintro e1 w1 ⟨rfl, hb1⟩
      have hB1 := Below.call hB0 (by go_size) hb1
      obtain ⟨p0, p1, p2, _, _, _⟩ := (k0.call hb1).c3
      obtain ⟨q0, q1, q2, _, _, _⟩ := (k1.call hb1).c3
      rw [hb]
      go_wp2_with fail
      refine (eqFraction_any n d n' d' _).mono ?_
      rintro e2 w2 ⟨rfl, hb2⟩
      rw [hf]
      go_wp2
      go_ret
      exact ⟨rfl, hB1.trans (hb2.mono hB1.size)⟩

set_option maxHeartbeats 1600000 in
set_option maxRecDepth 100000 in
theorem eqTermS_any (N : Nat) : ∀ (x y : Sur) (X Y : Nat → Prop) (A A' : Option Addr) (c c' : Nat) (w : World), x.nodes ≤ N → SSl X w x A c → SSl Y w y A' c' →
    Calls Tryz.prog 65 #[.slice A x.len c, .slice A' y.len c'] w (RetB w (eqB x y)) := by
  induction N with
  | zero => intro x y X Y A A' c c' w hN; have := x.len_lt_nodes; omega
  | succ N ih =>
    intro x y X Y A A' c c' w hN sx sy
    have IH := Lib.hid ih; clear ih
    have lx := sx.cap
    have lx' := sx.le
    have ly := sy.cap
    have ly' := sy.le
    unfold maxLen at lx ly
    by_cases hl : x.len = y.len
    · have hne : ((x.len : Int) != (y.len : Int)) = false := by simp [hl]
      have HL := Lib.hid hl
      clear hl
      go_enter Tryz.func65, Tryz.ntmps65
      go_wp2
      clear hne
      go_loopw [5] (fun s wr => ∃ k : Nat, s = .int .i64 k ∧ k ≤ x.len ∧ Hid (eqB x y = eqB (x.drop k) (y.drop k)) ∧ Below w.heap.size w wr) (fun s _ => x.len - (intOf s).toNat)
      case atStart => exact ⟨0, rfl, Nat.zero_le _, rfl, Below.refl _ _⟩
      case round =>
        obtain ⟨k, rfl, hk, HS, hB⟩ := hrel
        have hsB := hB.size
        have hk0' : (0 : Int) ≤ (k : Int) := by omega
        by_cases h1 : k < x.len
        · have h2 : k < y.len := by rw [← HL.out]; exact h1
          obtain ⟨b, o, e, n, d, A1, d1, rfl, hxk, f0, f1, f2, se, _, _, _, hbl⟩ := (sx.below hB).at_ h1
          obtain ⟨b', o', e', n', d', A2, d2, rfl, hyk, g0, g1, g2, se', _, _, _, hbl'⟩ := (sy.below hB).at_ h2
          have hne := Sur.nodes_drop hxk
          have hst : eqB x y = ((eqB e e' && ((n == n') && (d == d'))) && eqB (x.drop (k + 1)) (y.drop (k + 1))) := by rw [HS.out, hxk, hyk]; rfl
          have HST := Lib.hid hst
          clear hst hxk hyk
          have hk1' : (k : Int) < (x.len : Int) := by omega
          have hk2' : (k : Int) < (y.len : Int) := by omega
          cases hb : (eqB e e' && ((n == n') && (d == d')))
          · have HF := Lib.hid (show eqB x y = false by rw [HST.out, hb]; rfl)
            go_wp2_with fail
            refine wp_region_held_drew (S := (fun w' => w'.cell? ⟨b, o + k * 3, none⟩ = some (.slice A1 e.len d1) ∧ w'.cell? ⟨b, o + k * 3 + 1, none⟩ = some (.int .i64 n) ∧ w'.cell? ⟨b, o + k * 3 + 2, none⟩ = some (.int .i64 d) ∧ w'.cell? ⟨b', o' + k * 3, none⟩ = some (.slice A2 e'.len d2) ∧ w'.cell? ⟨b', o' + k * 3 + 1, none⟩ = some (.int .i64 n') ∧ w'.cell? ⟨b', o' + k * 3 + 2, none⟩ = some (.int .i64 d'))) (by kernel_rfl) ?hSn1_ (fun hHeld => ?hRn1_)
            case hSn1_ => (go_keep)
            refine wpAnyH_take (i := 0) (v := ?vn1_0) rfl (by kernel_rfl) (by kernel_rfl) (by kernel_rfl) (fun _ _ _ h => h) (Or.inl ⟨by rfl, ?hyn1_0⟩) (by assumption) ?hRn1_0
            case hyn1_0 => (intro w hSw; (try dsimp only at hSw); go_simp; (try with_reducible rfl))
            try simp only [Act.put, zp1, zp2, zp3, zp4, zp5, zp6]
            refine wpAnyH_take (i := 1) (v := ?vn1_1) rfl (by kernel_rfl) (by kernel_rfl) (by kernel_rfl) (fun _ _ _ h => h) (Or.inl ⟨by rfl, ?hyn1_1⟩) (by assumption) ?hRn1_1
            case hyn1_1 => (intro w hSw; (try dsimp only at hSw); go_simp; (try with_reducible rfl))
            try simp only [Act.put, zp1, zp2, zp3, zp4, zp5, zp6]
            refine wpAnyH_take (i := 2) (v := ?vn1_2) rfl (by kernel_rfl) (by kernel_rfl) (by kernel_rfl) (fun _ _ _ h => h) (Or.inl ⟨by rfl, ?hyn1_2⟩) (by assumption) ?hRn1_2
            case hyn1_2 => (intro w hSw; (try dsimp only at hSw); go_simp; (try with_reducible rfl))
            try simp only [Act.put, zp1, zp2, zp3, zp4, zp5, zp6]
            refine wpAnyH_take (i := 3) (v := ?vn1_3) rfl (by kernel_rfl) (by kernel_rfl) (by kernel_rfl) (fun _ _ _ h => h) (Or.inl ⟨by rfl, ?hyn1_3⟩) (by assumption) ?hRn1_3
            case hyn1_3 => (intro w hSw; (try dsimp only at hSw); go_simp; (try with_reducible rfl))
            try simp only [Act.put, zp1, zp2, zp3, zp4, zp5, zp6]
            refine wpAnyH_take (i := 4) (v := ?vn1_4) rfl (by kernel_rfl) (by kernel_rfl) (by kernel_rfl) (fun _ _ _ h => h) (Or.inl ⟨by rfl, ?hyn1_4⟩) (by assumption) ?hRn1_4
            case hyn1_4 => (intro w hSw; (try dsimp only at hSw); go_simp; (try with_reducible rfl))
            try simp only [Act.put, zp1, zp2, zp3, zp4, zp5, zp6]
            refine wpAnyH_take (i := 5) (v := ?vn1_5) rfl (by kernel_rfl) (by kernel_rfl) (by kernel_rfl) (fun _ _ _ h => h) (Or.inl ⟨by rfl, ?hyn1_5⟩) (by assumption) ?hRn1_5
            case hyn1_5 => (intro w hSw; (try dsimp only at hSw); go_simp; (try with_reducible rfl))
            try simp only [Act.put, zp1, zp2, zp3, zp4, zp5, zp6]
            refine wpAnyH_take (i := 6) (v := ?vn1_6) rfl (by kernel_rfl) (by kernel_rfl) (by kernel_rfl) (fun _ _ _ h => h) (Or.inl ⟨by rfl, ?hyn1_6⟩) (by assumption) ?hRn1_6
            case hyn1_6 => (intro w hSw; (try dsimp only at hSw); go_simp; (try with_reducible rfl))
            try simp only [Act.put, zp1, zp2, zp3, zp4, zp5, zp6]
            refine wpAnyH_take (i := 7) (v := ?vn1_7) rfl (by kernel_rfl) (by kernel_rfl) (by kernel_rfl) (fun _ _ _ h => h) (Or.inl ⟨by rfl, ?hyn1_7⟩) (by assumption) ?hRn1_7
            case hyn1_7 => (intro w hSw; (try dsimp only at hSw); go_simp; (try with_reducible rfl))
            try simp only [Act.put, zp1, zp2, zp3, zp4, zp5, zp6]
            refine wpAnyH_ready (rs := [8]) (by kernel_rfl) (by simp) ?_
            refine AllReadyH.cons rfl (fun K hK => ?_) AllReadyH.nil
            go_simp
            (go_at_call 111; refine (eqTerm_of e e' n d n' d' A1 A2 d1 d2 _ (fun W hW => IH.out e e' _ _ A1 A2 d1 d2 W (by omega) (se.past (by go_grown) hW) (se'.past (by go_grown) hW))).mono ?_; rintro e4 w4 ⟨rfl, hb4⟩; rw [hb]; have hB4 : Below w.heap.size w w4 := hB.trans (Below.call (w := wr) (by go_grown) (by go_size) hb4); have j0 := cell_call (by go_grown) hb4 f0; have j1 := cell_call (by go_grown) hb4 f1; have j2 := cell_call (by go_grown) hb4 f2; have j3 := cell_call (by go_grown) hb4 g0; have j4 := cell_call (by go_grown) hb4 g1; have j5 := cell_call (by go_grown) hb4 g2)
            go_wp2_with fail
            refine hK.out _ _ ?hSn1_8 (fun hHeld => ?hRn1_8)
            case hSn1_8 => ((try dsimp only); go_keep)
            clear hK K
            try simp only [Act.put, zp1, zp2, zp3, zp4, zp5, zp6]
            refine wpAnyH_take (i := 9) (v := ?vn1_9) rfl (by kernel_rfl) (by kernel_rfl) (by kernel_rfl) (fun _ _ _ h => h) (Or.inl ⟨by rfl, ?hyn1_9⟩) (by assumption) ?hRn1_9
            case hyn1_9 => (intro w hSw; (try dsimp only at hSw); go_simp; (try with_reducible rfl))
            try simp only [Act.put, zp1, zp2, zp3, zp4, zp5, zp6]
            refine wpAnyH_done (by kernel_rfl) ?_ _
            go_wp2
            go_ret
            exact ⟨by rw [HF.out]; rfl, hB4⟩
          · have HF := Lib.hid (show eqB x y = eqB (x.drop (k + 1)) (y.drop (k + 1)) by rw [HST.out, hb]; rfl)
            go_wp2_with fail
            refine wp_region_held_drew (S := (fun w' => w'.cell? ⟨b, o + k * 3, none⟩ = some (.slice A1 e.len d1) ∧ w'.cell? ⟨b, o + k * 3 + 1, none⟩ = some (.int .i64 n) ∧ w'.cell? ⟨b, o + k * 3 + 2, none⟩ = some (.int .i64 d) ∧ w'.cell? ⟨b', o' + k * 3, none⟩ = some (.slice A2 e'.len d2) ∧ w'.cell? ⟨b', o' + k * 3 + 1, none⟩ = some (.int .i64 n') ∧ w'.cell? ⟨b', o' + k * 3 + 2, none⟩ = some (.int .i64 d'))) (by kernel_rfl) ?hSn2_ (fun hHeld => ?hRn2_)
            case hSn2_ => (go_keep)
            refine wpAnyH_take (i := 0) (v := ?vn2_0) rfl (by kernel_rfl) (by kernel_rfl) (by kernel_rfl) (fun _ _ _ h => h) (Or.inl ⟨by rfl, ?hyn2_0⟩) (by assumption) ?hRn2_0
            case hyn2_0 => (intro w hSw; (try dsimp only at hSw); go_simp; (try with_reducible rfl))
            try simp only [Act.put, zp1, zp2, zp3, zp4, zp5, zp6]
            refine wpAnyH_take (i := 1) (v := ?vn2_1) rfl (by kernel_rfl) (by kernel_rfl) (by kernel_rfl) (fun _ _ _ h => h) (Or.inl ⟨by rfl, ?hyn2_1⟩) (by assumption) ?hRn2_1
            case hyn2_1 => (intro w hSw; (try dsimp only at hSw); go_simp; (try with_reducible rfl))
            try simp only [Act.put, zp1, zp2, zp3, zp4, zp5, zp6]
            refine wpAnyH_take (i := 2) (v := ?vn2_2) rfl (by kernel_rfl) (by kernel_rfl) (by kernel_rfl) (fun _ _ _ h => h) (Or.inl ⟨by rfl, ?hyn2_2⟩) (by assumption) ?hRn2_2
            case hyn2_2 => (intro w hSw; (try dsimp only at hSw); go_simp; (try with_reducible rfl))
            try simp only [Act.put, zp1, zp2, zp3, zp4, zp5, zp6]
            refine wpAnyH_take (i := 3) (v := ?vn2_3) rfl (by kernel_rfl) (by kernel_rfl) (by kernel_rfl) (fun _ _ _ h => h) (Or.inl ⟨by rfl, ?hyn2_3⟩) (by assumption) ?hRn2_3
            case hyn2_3 => (intro w hSw; (try dsimp only at hSw); go_simp; (try with_reducible rfl))
            try simp only [Act.put, zp1, zp2, zp3, zp4, zp5, zp6]
            refine wpAnyH_take (i := 4) (v := ?vn2_4) rfl (by kernel_rfl) (by kernel_rfl) (by kernel_rfl) (fun _ _ _ h => h) (Or.inl ⟨by rfl, ?hyn2_4⟩) (by assumption) ?hRn2_4
            case hyn2_4 => (intro w hSw; (try dsimp only at hSw); go_simp; (try with_reducible rfl))
            try simp only [Act.put, zp1, zp2, zp3, zp4, zp5, zp6]
            refine wpAnyH_take (i := 5) (v := ?vn2_5) rfl (by kernel_rfl) (by kernel_rfl) (by kernel_rfl) (fun _ _ _ h => h) (Or.inl ⟨by rfl, ?hyn2_5⟩) (by assumption) ?hRn2_5
            case hyn2_5 => (intro w hSw; (try dsimp only at hSw); go_simp; (try with_reducible rfl))
            try simp only [Act.put, zp1, zp2, zp3, zp4, zp5, zp6]
            refine wpAnyH_take (i := 6) (v := ?vn2_6) rfl (by kernel_rfl) (by kernel_rfl) (by kernel_rfl) (fun _ _ _ h => h) (Or.inl ⟨by rfl, ?hyn2_6⟩) (by assumption) ?hRn2_6
            case hyn2_6 => (intro w hSw; (try dsimp only at hSw); go_simp; (try with_reducible rfl))
            try simp only [Act.put, zp1, zp2, zp3, zp4, zp5, zp6]
            refine wpAnyH_take (i := 7) (v := ?vn2_7) rfl (by kernel_rfl) (by kernel_rfl) (by kernel_rfl) (fun _ _ _ h => h) (Or.inl ⟨by rfl, ?hyn2_7⟩) (by assumption) ?hRn2_7
            case hyn2_7 => (intro w hSw; (try dsimp only at hSw); go_simp; (try with_reducible rfl))
            try simp only [Act.put, zp1, zp2, zp3, zp4, zp5, zp6]
            refine wpAnyH_ready (rs := [8]) (by kernel_rfl) (by simp) ?_
            refine AllReadyH.cons rfl (fun K hK => ?_) AllReadyH.nil
            go_simp
            (go_at_call 111; refine (eqTerm_of e e' n d n' d' A1 A2 d1 d2 _ (fun W hW => IH.out e e' _ _ A1 A2 d1 d2 W (by omega) (se.past (by go_grown) hW) (se'.past (by go_grown) hW))).mono ?_; rintro e4 w4 ⟨rfl, hb4⟩; rw [hb]; have hB4 : Below w.heap.size w w4 := hB.trans (Below.call (w := wr) (by go_grown) (by go_size) hb4); have j0 := cell_call (by go_grown) hb4 f0; have j1 := cell_call (by go_grown) hb4 f1; have j2 := cell_call (by go_grown) hb4 f2; have j3 := cell_call (by go_grown) hb4 g0; have j4 := cell_call (by go_grown) hb4 g1; have j5 := cell_call (by go_grown) hb4 g2)
            go_wp2_with fail
            refine hK.out _ _ ?hSn2_8 (fun hHeld => ?hRn2_8)
            case hSn2_8 => ((try dsimp only); go_keep)
            clear hK K
            try simp only [Act.put, zp1, zp2, zp3, zp4, zp5, zp6]
            refine wpAnyH_take (i := 9) (v := ?vn2_9) rfl (by kernel_rfl) (by kernel_rfl) (by kernel_rfl) (fun _ _ _ h => h) (Or.inl ⟨by rfl, ?hyn2_9⟩) (by assumption) ?hRn2_9
            case hyn2_9 => (intro w hSw; (try dsimp only at hSw); go_simp; (try with_reducible rfl))
            try simp only [Act.put, zp1, zp2, zp3, zp4, zp5, zp6]
            refine wpAnyH_done (by kernel_rfl) ?_ _
            go_wp2
            exact ⟨⟨k + 1, by go_num, by omega, HF, hB4⟩, by simp [intOf]; omega⟩
        · have HF := Lib.hid (show eqB x y = true by rw [HS.out, x.drop_of_ge k (by omega), y.drop_of_ge k (by rw [← HL.out]; omega)]; rfl)
          go_wp2
          go_ret
          exact ⟨by rw [HF.out]; rfl, hB⟩
    · have hne : ((x.len : Int) != (y.len : Int)) = true := by simp; omega
      have HF := Lib.hid (show eqB x y = false by
        cases h : eqB x y
        · rfl
        · exact absurd (eqB_len h) hl)
      clear hl
      go_enter Tryz.func65, Tryz.ntmps65
      go_wp2
      go_ret
      exact ⟨by rw [HF.out]; rfl, Below.refl _ _⟩
theorem eqSurreal_any (x y : Sur) (X Y : Nat → Prop) (A A' : Option Addr) (c c' : Nat) (w : World) (sx : SSl X w x A c) (sy : SSl Y w y A' c') :
    Calls Tryz.prog 20 #[.agg #[.slice A x.len c], .agg #[.slice A' y.len c']] w (RetB w (eqB x y)) :=
  eqSurreal_of x y A A' c c' w (fun W hW => eqTermS_any _ x y X Y A A' c c' W (Nat.le_refl _) (sx.below hW) (sy.below hW))
end Go.Proofs.YtonlfnbjbmgegaaGreat
