/-
  Walks, the reference's side: which numbers are right.
-/
import Derived.Test.YtonlfnbjbmgegaaGreatSCmp
import Derived.Deep.RegionHeld3
namespace Go.Proofs.YtonlfnbjbmgegaaGreat
open Go.RowKit
open List renaming getElem_toArray → zp1, getElem_cons_zero → zp2, getElem_cons_succ → zp3, setIfInBounds_toArray → zp4, set_cons_zero → zp5, set_cons_succ → zp6
set_option linter.unusedSimpArgs false
set_option linter.unusedVariables false

theorem SSl.past {X : Nat → Prop} {w W w1 : World} {e : Sur} {A : Option Addr} {c : Nat} (h : SSl X w e A c) (hW : Below w.heap.size w W) (hb : Below W.heap.size W w1) : SSl X w1 e A c := h.below (hW.trans (hb.mono hW.size))

set_option maxHeartbeats 1600000 in
set_option maxRecDepth 100000 in
theorem suLeft_any (N : Nat) : ∀ (x : Sur) (X : Nat → Prop) (A : Option Addr) (c : Nat) (depth left : Int) (w : World), x.nodes ≤ N → SSl X w x A c → 0 ≤ depth → depth ≤ 6 → -1 ≤ left → left ≤ 100 →
    Calls Tryz.prog 90 #[.agg #[.slice A x.len c], .int .i64 depth, .int .i64 left] w fun e w' => e = .returned (.int .i64 (leftP depth left x)) ∧ Below w.heap.size w w' := by
  induction N with
  | zero => intro x X A c depth left w hN; have := x.len_lt_nodes; omega
  | succ N ih =>
    intro x X A c depth left w hN sx hd0 hd1 hl0 hl1
    have IH := Lib.hid ih; clear ih
    have lx := sx.cap
    have lx' := sx.le
    unfold maxLen at lx
    have k0 := (Blk.new w 26 #[.slice A x.len c])
    have hB0 : Below w.heap.size w (w.alloc (.cells #[.slice A x.len c] 26)) := by go_grown
    go_enter Tryz.func90, Tryz.ntmps90
    go_wp2
    go_loopw [2, 14] (fun s t wr => ∃ (k : Nat) (l : Int), s = .int .i64 l ∧ t = .int .i64 k ∧ k ≤ x.len ∧ -2 ≤ l ∧ l ≤ 100 ∧ Blk wr w.heap.size 26 #[.slice A x.len c] ∧ Hid (leftP depth left x = leftT depth l (x.drop k)) ∧ Below w.heap.size w wr) (fun _ t _ => x.len - (intOf t).toNat)
    case atStart => exact ⟨0, left - 1, rfl, rfl, Nat.zero_le _, by omega, by omega, k0, rfl, hB0⟩
    case round =>
      obtain ⟨k, l, rfl, rfl, hkx, hll, hlu, m0, HS, hB⟩ := hrel
      have sx1 := sx.below hB
      clear k0 hB0
      obtain ⟨p0, _⟩ := m0.c1
      have z0 := m0.lt
      have hk0' : (0 : Int) ≤ (k : Int) := by omega
      by_cases h1 : k < x.len
      · obtain ⟨b, o, e, n, d, A1, d1, rfl, hxk, f0, f1, f2, se, _, _, _, hbl⟩ := sx1.at_ h1
        have hne := Sur.nodes_drop hxk
        have hst : leftP depth left x = if l < 0 ∨ depth = 0 then -1 else leftT depth (leftP (depth - 1) (l - 1) e) (x.drop (k + 1)) := by rw [HS.out, hxk, leftT_cons]
        have HST := Lib.hid hst
        clear hst hxk
        by_cases hl : l < 0
        · have HF := Lib.hid (HST.out.trans (if_pos (.inl hl)))
          go_wp2
          go_ret
          exact ⟨by rw [HF.out]; rfl, by go_grown⟩
        · by_cases hd : depth = 0
          · have HF := Lib.hid (HST.out.trans (if_pos (.inr hd)))
            have e0 : (depth == 0) = true := by simpa using hd
            clear hd
            go_wp2
            go_ret
            exact ⟨by rw [HF.out]; rfl, by go_grown⟩
          · have HF := Lib.hid (HST.out.trans (if_neg (by omega)))
            have e0 : (depth == 0) = false := by simpa using hd
            have hbd := leftT_bd e (depth - 1) (l - 1 - 1) (by omega)
            have hbd : -2 ≤ leftP (depth - 1) (l - 1) e ∧ leftP (depth - 1) (l - 1) e ≤ 100 := by
              unfold leftP; omega
            have hdd : 0 ≤ depth - 1 := by omega
            clear hd
            go_wp2_with fail
            refine (IH.out e _ _ _ _ _ _ (by omega) (se.below (by go_grown)) hdd (by omega) (by omega) (by omega)).mono ?_
            rintro e1 w1 ⟨rfl, hb1⟩
            have l0 := Blk.thru m0 (by go_grown) hb1
            have hB1 : Below w.heap.size w w1 := hB.trans (Below.call (w := wr) (by go_grown) (by go_size) hb1)
            go_wp2
            exact ⟨⟨k + 1, _, rfl, by go_num, by omega, by omega, by omega, l0, HF, hB1⟩, by simp [intOf]; omega⟩
      · have hfin : leftP depth left x = l := by rw [HS.out, x.drop_of_ge k (by omega)]; rfl
        have HN := Lib.hid hfin
        clear hfin
        go_wp2
        go_ret
        exact ⟨by rw [HN.out]; rfl, hB⟩

/-- the exponent before place k, right in its numbers -/
def PrevF (x : Sur) (k : Nat) (prev : Option Sur) : Prop :=
  (k = 0 ∧ prev = none) ∨ ∃ k' e n d, k = k' + 1 ∧ x.drop k' = .cons e n d (x.drop k) ∧ prev = some e ∧ e.All FOk

theorem sform_cons (depth : Int) (prev : Option Sur) (e : Sur) (n d : Int) (r : Sur) :
    formT (6 - depth) prev (.cons e n d r) = (fracOk n d && (decide (n ≠ 0) && (sformP (depth - 1) e && (prevOk prev e && formT (6 - depth) (some e) r)))) := by
  simp only [formT, sformP]
  rw [show (6 - depth + 1) = 6 - (depth - 1) from by omega, show decide (6 - (depth - 1) ≤ 6) = decide (0 ≤ depth - 1) from by rw [decide_eq_decide]; omega]
  simp only [Bool.and_assoc]
theorem sformP_all {x : Sur} {depth : Int} (h : sformP depth x = true) : x.All FOk := by
  simp only [sformP, Bool.and_eq_true] at h
  exact formT_all h.2

set_option maxHeartbeats 1600000 in
set_option maxRecDepth 100000 in
theorem suForm_any (N : Nat) : ∀ (x : Sur) (X : Nat → Prop) (A : Option Addr) (c : Nat) (depth : Int) (w : World), x.nodes ≤ N → SSl X w x A c → -1 ≤ depth → depth ≤ 6 →
    Calls Tryz.prog 91 #[.agg #[.slice A x.len c], .int .i64 depth] w fun e w' => e = .returned (.bool (sformP depth x)) ∧ Below w.heap.size w w' := by
  induction N with
  | zero => intro x X A c depth w hN; have := x.len_lt_nodes; omega
  | succ N ih =>
    intro x X A c depth w hN sx hd0 hd1
    have IH := Lib.hid ih; clear ih
    have lx := sx.cap
    have lx' := sx.le
    unfold maxLen at lx
    have k0 := (Blk.new w 26 #[.slice A x.len c])
    have hB0 : Below w.heap.size w (w.alloc (.cells #[.slice A x.len c] 26)) := by go_grown
    by_cases hd : depth < 0
    · have HF := Lib.hid (show sformP depth x = false by simp [sformP, show ¬ 0 ≤ depth by omega])
      go_enter Tryz.func91, Tryz.ntmps91
      go_wp2
      go_ret
      exact ⟨by rw [HF.out]; rfl, hB0⟩
    · have HD := Lib.hid (show sformP depth x = formT (6 - depth) none x by simp [sformP, show 0 ≤ depth by omega])
      go_enter Tryz.func91, Tryz.ntmps91
      go_wp2
      go_loopw [12] (fun s wr => ∃ (k : Nat) (prev : Option Sur), s = .int .i64 k ∧ k ≤ x.len ∧ PrevF x k prev ∧ Blk wr w.heap.size 26 #[.slice A x.len c] ∧ Hid (sformP depth x = formT (6 - depth) prev (x.drop k)) ∧ Below w.heap.size w wr) (fun s _ => x.len - (intOf s).toNat)
      case atStart => exact ⟨0, none, rfl, Nat.zero_le _, .inl ⟨rfl, rfl⟩, k0, HD, hB0⟩
      case round =>
        obtain ⟨k, prev, rfl, hkx, hprev, m0, HS, hB⟩ := hrel
        have sx1 := sx.below hB
        clear k0 hB0
        obtain ⟨p0, _⟩ := m0.c1
        have z0 := m0.lt
        have hk0' : (0 : Int) ≤ (k : Int) := by omega
        by_cases h1 : k < x.len
        · obtain ⟨b, o, e, n, d, A1, d1, rfl, hxk, f0, f1, f2, se, _, _, _, hbl⟩ := sx1.at_ h1
          have hne := Sur.nodes_drop hxk
          have hst : sformP depth x = (fracOk n d && (decide (n ≠ 0) && (sformP (depth - 1) e && (prevOk prev e && formT (6 - depth) (some e) (x.drop (k + 1)))))) := by rw [HS.out, hxk, sform_cons]
          have HST := Lib.hid hst
          have HX := Lib.hid hxk
          clear hst hxk
          cases hf : fracOk n d
          · have HF := Lib.hid (show sformP depth x = false by rw [HST.out, hf]; simp)
            go_wp2_with fail
            refine wp_region_held_drew (S := (fun w' => w'.cell? ⟨w.heap.size, 0, none⟩ = some (.slice (some ⟨b, o, none⟩) x.len c) ∧ w'.cell? ⟨wr.heap.size, 0, none⟩ = some (.slice A1 e.len d1) ∧ w'.cell? ⟨wr.heap.size, 1, none⟩ = some (.int .i64 n) ∧ w'.cell? ⟨wr.heap.size, 2, none⟩ = some (.int .i64 d))) (by kernel_rfl) ?hSn1_ (fun hHeld => ?hRn1_)
            case hSn1_ => (go_keep)
            refine wpAnyH_take (i := 0) (v := ?vn1_0) rfl (by kernel_rfl) (by kernel_rfl) (by kernel_rfl) (fun _ _ _ h => h) (Or.inl ⟨by rfl, ?hyn1_0⟩) (by assumption) ?hRn1_0
            case hyn1_0 => (intro w hSw; (try dsimp only at hSw); go_simp; (try with_reducible rfl))
            try simp only [Act.put, zp1, zp2, zp3, zp4, zp5, zp6]
            refine wpAnyH_take (i := 1) (v := ?vn1_1) rfl (by kernel_rfl) (by kernel_rfl) (by kernel_rfl) (fun _ _ _ h => h) (Or.inl ⟨by rfl, ?hyn1_1⟩) (by assumption) ?hRn1_1
            case hyn1_1 => (intro w hSw; (try dsimp only at hSw); go_simp; (try with_reducible rfl))
            try simp only [Act.put, zp1, zp2, zp3, zp4, zp5, zp6]
            refine wpAnyH_ready (rs := [2]) (by kernel_rfl) (by simp) ?_
            refine AllReadyH.cons rfl (fun K hK => ?_) AllReadyH.nil
            go_simp
            (go_at_call 115; refine (shGood_any n d _).mono ?_; rintro e4 w4 ⟨rfl, hb4⟩; rw [hf]; have hB4 : Below w.heap.size w w4 := (hB.trans (Below.call (w := wr) (by go_grown) (by go_size) hb4)); have l0 := Blk.thru m0 (by go_grown) hb4; have l1 := Blk.thru (Blk.new wr 70 #[.slice A1 e.len d1, .int .i64 n, .int .i64 d]) (by go_grown) hb4; have sx4 := sx.below hB4; have se4 := se.past (by go_grown) hb4; obtain ⟨u0, _⟩ := l0.c1; obtain ⟨u1, u2, u3, _, _, _⟩ := l1.c3)
            go_wp2_with fail
            refine hK.out _ _ ?hSn1_2 (fun hHeld => ?hRn1_2)
            case hSn1_2 => ((try dsimp only); go_keep)
            clear hK K
            try simp only [Act.put, zp1, zp2, zp3, zp4, zp5, zp6]
            refine wpAnyH_take (i := 3) (v := ?vn1_3) rfl (by kernel_rfl) (by kernel_rfl) (by kernel_rfl) (fun _ _ _ h => h) (Or.inl ⟨by rfl, ?hyn1_3⟩) (by assumption) ?hRn1_3
            case hyn1_3 => (intro w hSw; (try dsimp only at hSw); go_simp; (try with_reducible rfl))
            try simp only [Act.put, zp1, zp2, zp3, zp4, zp5, zp6]
            refine wpAnyH_take (i := 4) (v := ?vn1_4) rfl (by kernel_rfl) (by kernel_rfl) (by kernel_rfl) (fun _ _ _ h => h) (Or.inl ⟨by rfl, ?hyn1_4⟩) (by assumption) ?hRn1_4
            case hyn1_4 => (intro w hSw; (try dsimp only at hSw); go_simp; (try with_reducible rfl))
            try simp only [Act.put, zp1, zp2, zp3, zp4, zp5, zp6]
            refine wpAnyH_take (i := 5) (v := undef) rfl (by kernel_rfl) (by kernel_rfl) (by kernel_rfl) (fun _ _ _ h => h) (Or.inr ⟨by rfl, rfl⟩) (by assumption) ?_
            try simp only [Act.put, zp1, zp2, zp3, zp4, zp5, zp6]
            refine wpAnyH_take (i := 6) (v := undef) rfl (by kernel_rfl) (by kernel_rfl) (by kernel_rfl) (fun _ _ _ h => h) (Or.inr ⟨by rfl, rfl⟩) (by assumption) ?_
            try simp only [Act.put, zp1, zp2, zp3, zp4, zp5, zp6]
            refine wpAnyH_take (i := 7) (v := undef) rfl (by kernel_rfl) (by kernel_rfl) (by kernel_rfl) (fun _ _ _ h => h) (Or.inr ⟨by rfl, rfl⟩) (by assumption) ?_
            try simp only [Act.put, zp1, zp2, zp3, zp4, zp5, zp6]
            refine wpAnyH_take (i := 8) (v := undef) rfl (by kernel_rfl) (by kernel_rfl) (by kernel_rfl) (fun _ _ _ h => h) (Or.inr ⟨by rfl, rfl⟩) (by assumption) ?_
            try simp only [Act.put, zp1, zp2, zp3, zp4, zp5, zp6]
            refine wpAnyH_take (i := 9) (v := ?vn1_9) rfl (by kernel_rfl) (by kernel_rfl) (by kernel_rfl) (fun _ _ _ h => h) (Or.inl ⟨by rfl, ?hyn1_9⟩) (by assumption) ?hRn1_9
            case hyn1_9 => (intro w hSw; (try dsimp only at hSw); go_simp; (try with_reducible rfl))
            try simp only [Act.put, zp1, zp2, zp3, zp4, zp5, zp6]
            refine wpAnyH_take (i := 10) (v := ?vn1_10) rfl (by kernel_rfl) (by kernel_rfl) (by kernel_rfl) (fun _ _ _ h => h) (Or.inl ⟨by rfl, ?hyn1_10⟩) (by assumption) ?hRn1_10
            case hyn1_10 => (intro w hSw; (try dsimp only at hSw); go_simp; (try with_reducible rfl))
            try simp only [Act.put, zp1, zp2, zp3, zp4, zp5, zp6]
            refine wpAnyH_take (i := 11) (v := undef) rfl (by kernel_rfl) (by kernel_rfl) (by kernel_rfl) (fun _ _ _ h => h) (Or.inr ⟨by rfl, rfl⟩) (by assumption) ?_
            try simp only [Act.put, zp1, zp2, zp3, zp4, zp5, zp6]
            refine wpAnyH_take (i := 12) (v := undef) rfl (by kernel_rfl) (by kernel_rfl) (by kernel_rfl) (fun _ _ _ h => h) (Or.inr ⟨by rfl, rfl⟩) (by assumption) ?_
            try simp only [Act.put, zp1, zp2, zp3, zp4, zp5, zp6]
            refine wpAnyH_take (i := 13) (v := undef) rfl (by kernel_rfl) (by kernel_rfl) (by kernel_rfl) (fun _ _ _ h => h) (Or.inr ⟨by rfl, rfl⟩) (by assumption) ?_
            try simp only [Act.put, zp1, zp2, zp3, zp4, zp5, zp6]
            refine wpAnyH_take (i := 14) (v := undef) rfl (by kernel_rfl) (by kernel_rfl) (by kernel_rfl) (fun _ _ _ h => h) (Or.inr ⟨by rfl, rfl⟩) (by assumption) ?_
            try simp only [Act.put, zp1, zp2, zp3, zp4, zp5, zp6]
            refine wpAnyH_take (i := 15) (v := undef) rfl (by kernel_rfl) (by kernel_rfl) (by kernel_rfl) (fun _ _ _ h => h) (Or.inr ⟨by rfl, rfl⟩) (by assumption) ?_
            try simp only [Act.put, zp1, zp2, zp3, zp4, zp5, zp6]
            refine wpAnyH_take (i := 16) (v := undef) rfl (by kernel_rfl) (by kernel_rfl) (by kernel_rfl) (fun _ _ _ h => h) (Or.inr ⟨by rfl, rfl⟩) (by assumption) ?_
            try simp only [Act.put, zp1, zp2, zp3, zp4, zp5, zp6]
            refine wpAnyH_take (i := 17) (v := ?vn1_17) rfl (by kernel_rfl) (by kernel_rfl) (by kernel_rfl) (fun _ _ _ h => h) (Or.inl ⟨by rfl, ?hyn1_17⟩) (by assumption) ?hRn1_17
            case hyn1_17 => (intro w hSw; (try dsimp only at hSw); go_simp; (try with_reducible rfl))
            try simp only [Act.put, zp1, zp2, zp3, zp4, zp5, zp6]
            refine wpAnyH_take (i := 18) (v := ?vn1_18) rfl (by kernel_rfl) (by kernel_rfl) (by kernel_rfl) (fun _ _ _ h => h) (Or.inl ⟨by rfl, ?hyn1_18⟩) (by assumption) ?hRn1_18
            case hyn1_18 => (intro w hSw; (try dsimp only at hSw); go_simp; (try with_reducible rfl))
            try simp only [Act.put, zp1, zp2, zp3, zp4, zp5, zp6]
            refine wpAnyH_take (i := 19) (v := undef) rfl (by kernel_rfl) (by kernel_rfl) (by kernel_rfl) (fun _ _ _ h => h) (Or.inr ⟨by rfl, rfl⟩) (by assumption) ?_
            try simp only [Act.put, zp1, zp2, zp3, zp4, zp5, zp6]
            refine wpAnyH_take (i := 20) (v := undef) rfl (by kernel_rfl) (by kernel_rfl) (by kernel_rfl) (fun _ _ _ h => h) (Or.inr ⟨by rfl, rfl⟩) (by assumption) ?_
            try simp only [Act.put, zp1, zp2, zp3, zp4, zp5, zp6]
            refine wpAnyH_take (i := 21) (v := undef) rfl (by kernel_rfl) (by kernel_rfl) (by kernel_rfl) (fun _ _ _ h => h) (Or.inr ⟨by rfl, rfl⟩) (by assumption) ?_
            try simp only [Act.put, zp1, zp2, zp3, zp4, zp5, zp6]
            refine wpAnyH_take (i := 22) (v := undef) rfl (by kernel_rfl) (by kernel_rfl) (by kernel_rfl) (fun _ _ _ h => h) (Or.inr ⟨by rfl, rfl⟩) (by assumption) ?_
            try simp only [Act.put, zp1, zp2, zp3, zp4, zp5, zp6]
            refine wpAnyH_take (i := 23) (v := undef) rfl (by kernel_rfl) (by kernel_rfl) (by kernel_rfl) (fun _ _ _ h => h) (Or.inr ⟨by rfl, rfl⟩) (by assumption) ?_
            try simp only [Act.put, zp1, zp2, zp3, zp4, zp5, zp6]
            refine wpAnyH_take (i := 24) (v := undef) rfl (by kernel_rfl) (by kernel_rfl) (by kernel_rfl) (fun _ _ _ h => h) (Or.inr ⟨by rfl, rfl⟩) (by assumption) ?_
            try simp only [Act.put, zp1, zp2, zp3, zp4, zp5, zp6]
            refine wpAnyH_take (i := 25) (v := undef) rfl (by kernel_rfl) (by kernel_rfl) (by kernel_rfl) (fun _ _ _ h => h) (Or.inr ⟨by rfl, rfl⟩) (by assumption) ?_
            try simp only [Act.put, zp1, zp2, zp3, zp4, zp5, zp6]
            refine wpAnyH_take (i := 26) (v := undef) rfl (by kernel_rfl) (by kernel_rfl) (by kernel_rfl) (fun _ _ _ h => h) (Or.inr ⟨by rfl, rfl⟩) (by assumption) ?_
            try simp only [Act.put, zp1, zp2, zp3, zp4, zp5, zp6]
            refine wpAnyH_take (i := 27) (v := undef) rfl (by kernel_rfl) (by kernel_rfl) (by kernel_rfl) (fun _ _ _ h => h) (Or.inr ⟨by rfl, rfl⟩) (by assumption) ?_
            try simp only [Act.put, zp1, zp2, zp3, zp4, zp5, zp6]
            refine wpAnyH_take (i := 28) (v := undef) rfl (by kernel_rfl) (by kernel_rfl) (by kernel_rfl) (fun _ _ _ h => h) (Or.inr ⟨by rfl, rfl⟩) (by assumption) ?_
            try simp only [Act.put, zp1, zp2, zp3, zp4, zp5, zp6]
            refine wpAnyH_take (i := 29) (v := undef) rfl (by kernel_rfl) (by kernel_rfl) (by kernel_rfl) (fun _ _ _ h => h) (Or.inr ⟨by rfl, rfl⟩) (by assumption) ?_
            try simp only [Act.put, zp1, zp2, zp3, zp4, zp5, zp6]
            refine wpAnyH_take (i := 30) (v := undef) rfl (by kernel_rfl) (by kernel_rfl) (by kernel_rfl) (fun _ _ _ h => h) (Or.inr ⟨by rfl, rfl⟩) (by assumption) ?_
            try simp only [Act.put, zp1, zp2, zp3, zp4, zp5, zp6]
            refine wpAnyH_take (i := 31) (v := undef) rfl (by kernel_rfl) (by kernel_rfl) (by kernel_rfl) (fun _ _ _ h => h) (Or.inr ⟨by rfl, rfl⟩) (by assumption) ?_
            try simp only [Act.put, zp1, zp2, zp3, zp4, zp5, zp6]
            refine wpAnyH_take (i := 32) (v := undef) rfl (by kernel_rfl) (by kernel_rfl) (by kernel_rfl) (fun _ _ _ h => h) (Or.inr ⟨by rfl, rfl⟩) (by assumption) ?_
            try simp only [Act.put, zp1, zp2, zp3, zp4, zp5, zp6]
            refine wpAnyH_take (i := 33) (v := undef) rfl (by kernel_rfl) (by kernel_rfl) (by kernel_rfl) (fun _ _ _ h => h) (Or.inr ⟨by rfl, rfl⟩) (by assumption) ?_
            try simp only [Act.put, zp1, zp2, zp3, zp4, zp5, zp6]
            refine wpAnyH_take (i := 34) (v := ?vn1_34) rfl (by kernel_rfl) (by kernel_rfl) (by kernel_rfl) (fun _ _ _ h => h) (Or.inl ⟨by rfl, ?hyn1_34⟩) (by assumption) ?hRn1_34
            case hyn1_34 => (intro w hSw; (try dsimp only at hSw); go_simp; (try with_reducible rfl))
            try simp only [Act.put, zp1, zp2, zp3, zp4, zp5, zp6]
            refine wpAnyH_done (by kernel_rfl) ?_ _
            go_wp2
            go_ret
            exact ⟨by rw [HF.out]; rfl, hB4⟩
          · by_cases hn0 : n = 0
            · have HF := Lib.hid (show sformP depth x = false by rw [HST.out, hn0]; simp)
              have e0 : (n == 0) = true := by simpa using hn0
              clear hn0
              go_wp2_with fail
              refine wp_region_held_drew (S := (fun w' => w'.cell? ⟨w.heap.size, 0, none⟩ = some (.slice (some ⟨b, o, none⟩) x.len c) ∧ w'.cell? ⟨wr.heap.size, 0, none⟩ = some (.slice A1 e.len d1) ∧ w'.cell? ⟨wr.heap.size, 1, none⟩ = some (.int .i64 n) ∧ w'.cell? ⟨wr.heap.size, 2, none⟩ = some (.int .i64 d))) (by kernel_rfl) ?hSn2_ (fun hHeld => ?hRn2_)
              case hSn2_ => (go_keep)
              refine wpAnyH_take (i := 0) (v := ?vn2_0) rfl (by kernel_rfl) (by kernel_rfl) (by kernel_rfl) (fun _ _ _ h => h) (Or.inl ⟨by rfl, ?hyn2_0⟩) (by assumption) ?hRn2_0
              case hyn2_0 => (intro w hSw; (try dsimp only at hSw); go_simp; (try with_reducible rfl))
              try simp only [Act.put, zp1, zp2, zp3, zp4, zp5, zp6]
              refine wpAnyH_take (i := 1) (v := ?vn2_1) rfl (by kernel_rfl) (by kernel_rfl) (by kernel_rfl) (fun _ _ _ h => h) (Or.inl ⟨by rfl, ?hyn2_1⟩) (by assumption) ?hRn2_1
              case hyn2_1 => (intro w hSw; (try dsimp only at hSw); go_simp; (try with_reducible rfl))
              try simp only [Act.put, zp1, zp2, zp3, zp4, zp5, zp6]
              refine wpAnyH_ready (rs := [2]) (by kernel_rfl) (by simp) ?_
              refine AllReadyH.cons rfl (fun K hK => ?_) AllReadyH.nil
              go_simp
              (go_at_call 115; refine (shGood_any n d _).mono ?_; rintro e4 w4 ⟨rfl, hb4⟩; rw [hf]; have hB4 : Below w.heap.size w w4 := (hB.trans (Below.call (w := wr) (by go_grown) (by go_size) hb4)); have l0 := Blk.thru m0 (by go_grown) hb4; have l1 := Blk.thru (Blk.new wr 70 #[.slice A1 e.len d1, .int .i64 n, .int .i64 d]) (by go_grown) hb4; have sx4 := sx.below hB4; have se4 := se.past (by go_grown) hb4; obtain ⟨u0, _⟩ := l0.c1; obtain ⟨u1, u2, u3, _, _, _⟩ := l1.c3)
              go_wp2_with fail
              refine hK.out _ _ ?hSn2_2 (fun hHeld => ?hRn2_2)
              case hSn2_2 => ((try dsimp only); go_keep)
              clear hK K
              try simp only [Act.put, zp1, zp2, zp3, zp4, zp5, zp6]
              refine wpAnyH_take (i := 3) (v := ?vn2_3) rfl (by kernel_rfl) (by kernel_rfl) (by kernel_rfl) (fun _ _ _ h => h) (Or.inl ⟨by rfl, ?hyn2_3⟩) (by assumption) ?hRn2_3
              case hyn2_3 => (intro w hSw; (try dsimp only at hSw); go_simp; (try with_reducible rfl))
              try simp only [Act.put, zp1, zp2, zp3, zp4, zp5, zp6]
              refine wpAnyH_take (i := 4) (v := ?vn2_4) rfl (by kernel_rfl) (by kernel_rfl) (by kernel_rfl) (fun _ _ _ h => h) (Or.inl ⟨by rfl, ?hyn2_4⟩) (by assumption) ?hRn2_4
              case hyn2_4 => (intro w hSw; (try dsimp only at hSw); go_simp; (try with_reducible rfl))
              try simp only [Act.put, zp1, zp2, zp3, zp4, zp5, zp6]
              refine wpAnyH_take (i := 5) (v := ?vn2_5) rfl (by kernel_rfl) (by kernel_rfl) (by kernel_rfl) (fun _ _ _ h => h) (Or.inl ⟨by rfl, ?hyn2_5⟩) (by assumption) ?hRn2_5
              case hyn2_5 => (intro w hSw; (try dsimp only at hSw); go_simp; (try with_reducible rfl))
              try simp only [Act.put, zp1, zp2, zp3, zp4, zp5, zp6]
              refine wpAnyH_take (i := 6) (v := ?vn2_6) rfl (by kernel_rfl) (by kernel_rfl) (by kernel_rfl) (fun _ _ _ h => h) (Or.inl ⟨by rfl, ?hyn2_6⟩) (by assumption) ?hRn2_6
              case hyn2_6 => (intro w hSw; (try dsimp only at hSw); go_simp; (try with_reducible rfl))
              try simp only [Act.put, zp1, zp2, zp3, zp4, zp5, zp6]
              refine wpAnyH_take (i := 7) (v := ?vn2_7) rfl (by kernel_rfl) (by kernel_rfl) (by kernel_rfl) (fun _ _ _ h => h) (Or.inl ⟨by rfl, ?hyn2_7⟩) (by assumption) ?hRn2_7
              case hyn2_7 => (intro w hSw; (try dsimp only at hSw); go_simp; (try with_reducible rfl))
              try simp only [Act.put, zp1, zp2, zp3, zp4, zp5, zp6]
              refine wpAnyH_take (i := 8) (v := ?vn2_8) rfl (by kernel_rfl) (by kernel_rfl) (by kernel_rfl) (fun _ _ _ h => h) (Or.inl ⟨by rfl, ?hyn2_8⟩) (by assumption) ?hRn2_8
              case hyn2_8 => (intro w hSw; (try dsimp only at hSw); go_simp; (try with_reducible rfl))
              try simp only [Act.put, zp1, zp2, zp3, zp4, zp5, zp6]
              refine wpAnyH_take (i := 9) (v := ?vn2_9) rfl (by kernel_rfl) (by kernel_rfl) (by kernel_rfl) (fun _ _ _ h => h) (Or.inl ⟨by rfl, ?hyn2_9⟩) (by assumption) ?hRn2_9
              case hyn2_9 => (intro w hSw; (try dsimp only at hSw); go_simp; (try with_reducible rfl))
              try simp only [Act.put, zp1, zp2, zp3, zp4, zp5, zp6]
              refine wpAnyH_take (i := 10) (v := ?vn2_10) rfl (by kernel_rfl) (by kernel_rfl) (by kernel_rfl) (fun _ _ _ h => h) (Or.inl ⟨by rfl, ?hyn2_10⟩) (by assumption) ?hRn2_10
              case hyn2_10 => (intro w hSw; (try dsimp only at hSw); go_simp; (try with_reducible rfl))
              try simp only [Act.put, zp1, zp2, zp3, zp4, zp5, zp6]
              refine wpAnyH_take (i := 11) (v := undef) rfl (by kernel_rfl) (by kernel_rfl) (by kernel_rfl) (fun _ _ _ h => h) (Or.inr ⟨by rfl, rfl⟩) (by assumption) ?_
              try simp only [Act.put, zp1, zp2, zp3, zp4, zp5, zp6]
              refine wpAnyH_take (i := 12) (v := undef) rfl (by kernel_rfl) (by kernel_rfl) (by kernel_rfl) (fun _ _ _ h => h) (Or.inr ⟨by rfl, rfl⟩) (by assumption) ?_
              try simp only [Act.put, zp1, zp2, zp3, zp4, zp5, zp6]
              refine wpAnyH_take (i := 13) (v := undef) rfl (by kernel_rfl) (by kernel_rfl) (by kernel_rfl) (fun _ _ _ h => h) (Or.inr ⟨by rfl, rfl⟩) (by assumption) ?_
              try simp only [Act.put, zp1, zp2, zp3, zp4, zp5, zp6]
              refine wpAnyH_take (i := 14) (v := undef) rfl (by kernel_rfl) (by kernel_rfl) (by kernel_rfl) (fun _ _ _ h => h) (Or.inr ⟨by rfl, rfl⟩) (by assumption) ?_
              try simp only [Act.put, zp1, zp2, zp3, zp4, zp5, zp6]
              refine wpAnyH_take (i := 15) (v := undef) rfl (by kernel_rfl) (by kernel_rfl) (by kernel_rfl) (fun _ _ _ h => h) (Or.inr ⟨by rfl, rfl⟩) (by assumption) ?_
              try simp only [Act.put, zp1, zp2, zp3, zp4, zp5, zp6]
              refine wpAnyH_take (i := 16) (v := undef) rfl (by kernel_rfl) (by kernel_rfl) (by kernel_rfl) (fun _ _ _ h => h) (Or.inr ⟨by rfl, rfl⟩) (by assumption) ?_
              try simp only [Act.put, zp1, zp2, zp3, zp4, zp5, zp6]
              refine wpAnyH_take (i := 17) (v := ?vn2_17) rfl (by kernel_rfl) (by kernel_rfl) (by kernel_rfl) (fun _ _ _ h => h) (Or.inl ⟨by rfl, ?hyn2_17⟩) (by assumption) ?hRn2_17
              case hyn2_17 => (intro w hSw; (try dsimp only at hSw); go_simp; (try with_reducible rfl))
              try simp only [Act.put, zp1, zp2, zp3, zp4, zp5, zp6]
              refine wpAnyH_take (i := 18) (v := ?vn2_18) rfl (by kernel_rfl) (by kernel_rfl) (by kernel_rfl) (fun _ _ _ h => h) (Or.inl ⟨by rfl, ?hyn2_18⟩) (by assumption) ?hRn2_18
              case hyn2_18 => (intro w hSw; (try dsimp only at hSw); go_simp; (try with_reducible rfl))
              try simp only [Act.put, zp1, zp2, zp3, zp4, zp5, zp6]
              refine wpAnyH_take (i := 19) (v := undef) rfl (by kernel_rfl) (by kernel_rfl) (by kernel_rfl) (fun _ _ _ h => h) (Or.inr ⟨by rfl, rfl⟩) (by assumption) ?_
              try simp only [Act.put, zp1, zp2, zp3, zp4, zp5, zp6]
              refine wpAnyH_take (i := 20) (v := undef) rfl (by kernel_rfl) (by kernel_rfl) (by kernel_rfl) (fun _ _ _ h => h) (Or.inr ⟨by rfl, rfl⟩) (by assumption) ?_
              try simp only [Act.put, zp1, zp2, zp3, zp4, zp5, zp6]
              refine wpAnyH_take (i := 21) (v := undef) rfl (by kernel_rfl) (by kernel_rfl) (by kernel_rfl) (fun _ _ _ h => h) (Or.inr ⟨by rfl, rfl⟩) (by assumption) ?_
              try simp only [Act.put, zp1, zp2, zp3, zp4, zp5, zp6]
              refine wpAnyH_take (i := 22) (v := undef) rfl (by kernel_rfl) (by kernel_rfl) (by kernel_rfl) (fun _ _ _ h => h) (Or.inr ⟨by rfl, rfl⟩) (by assumption) ?_
              try simp only [Act.put, zp1, zp2, zp3, zp4, zp5, zp6]
              refine wpAnyH_take (i := 23) (v := undef) rfl (by kernel_rfl) (by kernel_rfl) (by kernel_rfl) (fun _ _ _ h => h) (Or.inr ⟨by rfl, rfl⟩) (by assumption) ?_
              try simp only [Act.put, zp1, zp2, zp3, zp4, zp5, zp6]
              refine wpAnyH_take (i := 24) (v := undef) rfl (by kernel_rfl) (by kernel_rfl) (by kernel_rfl) (fun _ _ _ h => h) (Or.inr ⟨by rfl, rfl⟩) (by assumption) ?_
              try simp only [Act.put, zp1, zp2, zp3, zp4, zp5, zp6]
              refine wpAnyH_take (i := 25) (v := undef) rfl (by kernel_rfl) (by kernel_rfl) (by kernel_rfl) (fun _ _ _ h => h) (Or.inr ⟨by rfl, rfl⟩) (by assumption) ?_
              try simp only [Act.put, zp1, zp2, zp3, zp4, zp5, zp6]
              refine wpAnyH_take (i := 26) (v := undef) rfl (by kernel_rfl) (by kernel_rfl) (by kernel_rfl) (fun _ _ _ h => h) (Or.inr ⟨by rfl, rfl⟩) (by assumption) ?_
              try simp only [Act.put, zp1, zp2, zp3, zp4, zp5, zp6]
              refine wpAnyH_take (i := 27) (v := undef) rfl (by kernel_rfl) (by kernel_rfl) (by kernel_rfl) (fun _ _ _ h => h) (Or.inr ⟨by rfl, rfl⟩) (by assumption) ?_
              try simp only [Act.put, zp1, zp2, zp3, zp4, zp5, zp6]
              refine wpAnyH_take (i := 28) (v := undef) rfl (by kernel_rfl) (by kernel_rfl) (by kernel_rfl) (fun _ _ _ h => h) (Or.inr ⟨by rfl, rfl⟩) (by assumption) ?_
              try simp only [Act.put, zp1, zp2, zp3, zp4, zp5, zp6]
              refine wpAnyH_take (i := 29) (v := undef) rfl (by kernel_rfl) (by kernel_rfl) (by kernel_rfl) (fun _ _ _ h => h) (Or.inr ⟨by rfl, rfl⟩) (by assumption) ?_
              try simp only [Act.put, zp1, zp2, zp3, zp4, zp5, zp6]
              refine wpAnyH_take (i := 30) (v := undef) rfl (by kernel_rfl) (by kernel_rfl) (by kernel_rfl) (fun _ _ _ h => h) (Or.inr ⟨by rfl, rfl⟩) (by assumption) ?_
              try simp only [Act.put, zp1, zp2, zp3, zp4, zp5, zp6]
              refine wpAnyH_take (i := 31) (v := undef) rfl (by kernel_rfl) (by kernel_rfl) (by kernel_rfl) (fun _ _ _ h => h) (Or.inr ⟨by rfl, rfl⟩) (by assumption) ?_
              try simp only [Act.put, zp1, zp2, zp3, zp4, zp5, zp6]
              refine wpAnyH_take (i := 32) (v := undef) rfl (by kernel_rfl) (by kernel_rfl) (by kernel_rfl) (fun _ _ _ h => h) (Or.inr ⟨by rfl, rfl⟩) (by assumption) ?_
              try simp only [Act.put, zp1, zp2, zp3, zp4, zp5, zp6]
              refine wpAnyH_take (i := 33) (v := undef) rfl (by kernel_rfl) (by kernel_rfl) (by kernel_rfl) (fun _ _ _ h => h) (Or.inr ⟨by rfl, rfl⟩) (by assumption) ?_
              try simp only [Act.put, zp1, zp2, zp3, zp4, zp5, zp6]
              refine wpAnyH_take (i := 34) (v := ?vn2_34) rfl (by kernel_rfl) (by kernel_rfl) (by kernel_rfl) (fun _ _ _ h => h) (Or.inl ⟨by rfl, ?hyn2_34⟩) (by assumption) ?hRn2_34
              case hyn2_34 => (intro w hSw; (try dsimp only at hSw); go_simp; (try with_reducible rfl))
              try simp only [Act.put, zp1, zp2, zp3, zp4, zp5, zp6]
              refine wpAnyH_done (by kernel_rfl) ?_ _
              go_wp2
              go_ret
              exact ⟨by rw [HF.out]; rfl, hB4⟩
            · have e0 : (n == 0) = false := by simpa using hn0
              have hdw : IntKind.i64.wrap (depth - 1) = depth - 1 := IntWalk.i64_in _ (by omega)
              have HDW := Lib.hid hdw
              clear hdw
              cases hs : sformP (depth - 1) e
              · have HF := Lib.hid (show sformP depth x = false by rw [HST.out, hs]; simp)
                clear hn0
                go_wp2_with fail
                have hdw := HDW.out
                refine wp_region_held_drew (S := (fun w' => w'.cell? ⟨w.heap.size, 0, none⟩ = some (.slice (some ⟨b, o, none⟩) x.len c) ∧ w'.cell? ⟨wr.heap.size, 0, none⟩ = some (.slice A1 e.len d1) ∧ w'.cell? ⟨wr.heap.size, 1, none⟩ = some (.int .i64 n) ∧ w'.cell? ⟨wr.heap.size, 2, none⟩ = some (.int .i64 d))) (by kernel_rfl) ?hSn3_ (fun hHeld => ?hRn3_)
                case hSn3_ => (go_keep)
                refine wpAnyH_take (i := 0) (v := ?vn3_0) rfl (by kernel_rfl) (by kernel_rfl) (by kernel_rfl) (fun _ _ _ h => h) (Or.inl ⟨by rfl, ?hyn3_0⟩) (by assumption) ?hRn3_0
                case hyn3_0 => (intro w hSw; (try dsimp only at hSw); go_simp; (try with_reducible rfl))
                try simp only [Act.put, zp1, zp2, zp3, zp4, zp5, zp6]
                refine wpAnyH_take (i := 1) (v := ?vn3_1) rfl (by kernel_rfl) (by kernel_rfl) (by kernel_rfl) (fun _ _ _ h => h) (Or.inl ⟨by rfl, ?hyn3_1⟩) (by assumption) ?hRn3_1
                case hyn3_1 => (intro w hSw; (try dsimp only at hSw); go_simp; (try with_reducible rfl))
                try simp only [Act.put, zp1, zp2, zp3, zp4, zp5, zp6]
                refine wpAnyH_ready (rs := [2]) (by kernel_rfl) (by simp) ?_
                refine AllReadyH.cons rfl (fun K hK => ?_) AllReadyH.nil
                go_simp
                (go_at_call 115; refine (shGood_any n d _).mono ?_; rintro e4 w4 ⟨rfl, hb4⟩; rw [hf]; have hB4 : Below w.heap.size w w4 := (hB.trans (Below.call (w := wr) (by go_grown) (by go_size) hb4)); have l0 := Blk.thru m0 (by go_grown) hb4; have l1 := Blk.thru (Blk.new wr 70 #[.slice A1 e.len d1, .int .i64 n, .int .i64 d]) (by go_grown) hb4; have sx4 := sx.below hB4; have se4 := se.past (by go_grown) hb4; obtain ⟨u0, _⟩ := l0.c1; obtain ⟨u1, u2, u3, _, _, _⟩ := l1.c3)
                go_wp2_with fail
                refine hK.out _ _ ?hSn3_2 (fun hHeld => ?hRn3_2)
                case hSn3_2 => ((try dsimp only); go_keep)
                clear hK K
                try simp only [Act.put, zp1, zp2, zp3, zp4, zp5, zp6]
                refine wpAnyH_take (i := 3) (v := ?vn3_3) rfl (by kernel_rfl) (by kernel_rfl) (by kernel_rfl) (fun _ _ _ h => h) (Or.inl ⟨by rfl, ?hyn3_3⟩) (by assumption) ?hRn3_3
                case hyn3_3 => (intro w hSw; (try dsimp only at hSw); go_simp; (try with_reducible rfl))
                try simp only [Act.put, zp1, zp2, zp3, zp4, zp5, zp6]
                refine wpAnyH_take (i := 4) (v := ?vn3_4) rfl (by kernel_rfl) (by kernel_rfl) (by kernel_rfl) (fun _ _ _ h => h) (Or.inl ⟨by rfl, ?hyn3_4⟩) (by assumption) ?hRn3_4
                case hyn3_4 => (intro w hSw; (try dsimp only at hSw); go_simp; (try with_reducible rfl))
                try simp only [Act.put, zp1, zp2, zp3, zp4, zp5, zp6]
                refine wpAnyH_take (i := 5) (v := ?vn3_5) rfl (by kernel_rfl) (by kernel_rfl) (by kernel_rfl) (fun _ _ _ h => h) (Or.inl ⟨by rfl, ?hyn3_5⟩) (by assumption) ?hRn3_5
                case hyn3_5 => (intro w hSw; (try dsimp only at hSw); go_simp; (try with_reducible rfl))
                try simp only [Act.put, zp1, zp2, zp3, zp4, zp5, zp6]
                refine wpAnyH_take (i := 6) (v := ?vn3_6) rfl (by kernel_rfl) (by kernel_rfl) (by kernel_rfl) (fun _ _ _ h => h) (Or.inl ⟨by rfl, ?hyn3_6⟩) (by assumption) ?hRn3_6
                case hyn3_6 => (intro w hSw; (try dsimp only at hSw); go_simp; (try with_reducible rfl))
                try simp only [Act.put, zp1, zp2, zp3, zp4, zp5, zp6]
                refine wpAnyH_take (i := 7) (v := ?vn3_7) rfl (by kernel_rfl) (by kernel_rfl) (by kernel_rfl) (fun _ _ _ h => h) (Or.inl ⟨by rfl, ?hyn3_7⟩) (by assumption) ?hRn3_7
                case hyn3_7 => (intro w hSw; (try dsimp only at hSw); go_simp; (try with_reducible rfl))
                try simp only [Act.put, zp1, zp2, zp3, zp4, zp5, zp6]
                refine wpAnyH_take (i := 8) (v := ?vn3_8) rfl (by kernel_rfl) (by kernel_rfl) (by kernel_rfl) (fun _ _ _ h => h) (Or.inl ⟨by rfl, ?hyn3_8⟩) (by assumption) ?hRn3_8
                case hyn3_8 => (intro w hSw; (try dsimp only at hSw); go_simp; (try with_reducible rfl))
                try simp only [Act.put, zp1, zp2, zp3, zp4, zp5, zp6]
                refine wpAnyH_take (i := 9) (v := ?vn3_9) rfl (by kernel_rfl) (by kernel_rfl) (by kernel_rfl) (fun _ _ _ h => h) (Or.inl ⟨by rfl, ?hyn3_9⟩) (by assumption) ?hRn3_9
                case hyn3_9 => (intro w hSw; (try dsimp only at hSw); go_simp; (try with_reducible rfl))
                try simp only [Act.put, zp1, zp2, zp3, zp4, zp5, zp6]
                refine wpAnyH_take (i := 10) (v := ?vn3_10) rfl (by kernel_rfl) (by kernel_rfl) (by kernel_rfl) (fun _ _ _ h => h) (Or.inl ⟨by rfl, ?hyn3_10⟩) (by assumption) ?hRn3_10
                case hyn3_10 => (intro w hSw; (try dsimp only at hSw); go_simp; (try with_reducible rfl))
                try simp only [Act.put, zp1, zp2, zp3, zp4, zp5, zp6]
                refine wpAnyH_take (i := 11) (v := ?vn3_11) rfl (by kernel_rfl) (by kernel_rfl) (by kernel_rfl) (fun _ _ _ h => h) (Or.inl ⟨by rfl, ?hyn3_11⟩) (by assumption) ?hRn3_11
                case hyn3_11 => (intro w hSw; (try dsimp only at hSw); go_simp; (try with_reducible rfl))
                try simp only [Act.put, zp1, zp2, zp3, zp4, zp5, zp6]
                refine wpAnyH_take (i := 12) (v := ?vn3_12) rfl (by kernel_rfl) (by kernel_rfl) (by kernel_rfl) (fun _ _ _ h => h) (Or.inl ⟨by rfl, ?hyn3_12⟩) (by assumption) ?hRn3_12
                case hyn3_12 => (intro w hSw; (try dsimp only at hSw); go_simp; (try with_reducible rfl))
                try simp only [Act.put, zp1, zp2, zp3, zp4, zp5, zp6]
                refine wpAnyH_take (i := 13) (v := ?vn3_13) rfl (by kernel_rfl) (by kernel_rfl) (by kernel_rfl) (fun _ _ _ h => h) (Or.inl ⟨by rfl, ?hyn3_13⟩) (by assumption) ?hRn3_13
                case hyn3_13 => (intro w hSw; (try dsimp only at hSw); go_simp; (try with_reducible rfl))
                try simp only [Act.put, zp1, zp2, zp3, zp4, zp5, zp6]
                refine wpAnyH_take (i := 14) (v := ?vn3_14) rfl (by kernel_rfl) (by kernel_rfl) (by kernel_rfl) (fun _ _ _ h => h) (Or.inl ⟨by rfl, ?hyn3_14⟩) (by assumption) ?hRn3_14
                case hyn3_14 => (intro w hSw; (try dsimp only at hSw); go_simp; (try with_reducible rfl))
                try simp only [Act.put, zp1, zp2, zp3, zp4, zp5, zp6]
                refine wpAnyH_ready (rs := [15]) (by kernel_rfl) (by simp) ?_
                refine AllReadyH.cons rfl (fun K hK => ?_) AllReadyH.nil
                go_simp
                (go_at_call 91; refine (IH.out e _ _ _ _ _ (by omega) se4 (by omega) (by omega)).mono ?_; rintro e5 w5 ⟨rfl, hb5⟩; rw [hs]; have hB5 : Below w.heap.size w w5 := hB4.trans (hb5.mono hB4.size); have n0 := l0.call hb5; have n1 := l1.call hb5; have sx5 := sx.below hB5; have se5 := se4.below hb5; obtain ⟨v0, _⟩ := n0.c1; obtain ⟨v1, v2, v3, _, _, _⟩ := n1.c3)
                go_wp2_with fail
                refine hK.out _ _ ?hSn3_15 (fun hHeld => ?hRn3_15)
                case hSn3_15 => ((try dsimp only); go_keep)
                clear hK K
                try simp only [Act.put, zp1, zp2, zp3, zp4, zp5, zp6]
                refine wpAnyH_take (i := 16) (v := ?vn3_16) rfl (by kernel_rfl) (by kernel_rfl) (by kernel_rfl) (fun _ _ _ h => h) (Or.inl ⟨by rfl, ?hyn3_16⟩) (by assumption) ?hRn3_16
                case hyn3_16 => (intro w hSw; (try dsimp only at hSw); go_simp; (try with_reducible rfl))
                try simp only [Act.put, zp1, zp2, zp3, zp4, zp5, zp6]
                refine wpAnyH_take (i := 17) (v := ?vn3_17) rfl (by kernel_rfl) (by kernel_rfl) (by kernel_rfl) (fun _ _ _ h => h) (Or.inl ⟨by rfl, ?hyn3_17⟩) (by assumption) ?hRn3_17
                case hyn3_17 => (intro w hSw; (try dsimp only at hSw); go_simp; (try with_reducible rfl))
                try simp only [Act.put, zp1, zp2, zp3, zp4, zp5, zp6]
                refine wpAnyH_take (i := 18) (v := ?vn3_18) rfl (by kernel_rfl) (by kernel_rfl) (by kernel_rfl) (fun _ _ _ h => h) (Or.inl ⟨by rfl, ?hyn3_18⟩) (by assumption) ?hRn3_18
                case hyn3_18 => (intro w hSw; (try dsimp only at hSw); go_simp; (try with_reducible rfl))
                try simp only [Act.put, zp1, zp2, zp3, zp4, zp5, zp6]
                refine wpAnyH_take (i := 19) (v := undef) rfl (by kernel_rfl) (by kernel_rfl) (by kernel_rfl) (fun _ _ _ h => h) (Or.inr ⟨by rfl, rfl⟩) (by assumption) ?_
                try simp only [Act.put, zp1, zp2, zp3, zp4, zp5, zp6]
                refine wpAnyH_take (i := 20) (v := undef) rfl (by kernel_rfl) (by kernel_rfl) (by kernel_rfl) (fun _ _ _ h => h) (Or.inr ⟨by rfl, rfl⟩) (by assumption) ?_
                try simp only [Act.put, zp1, zp2, zp3, zp4, zp5, zp6]
                refine wpAnyH_take (i := 21) (v := undef) rfl (by kernel_rfl) (by kernel_rfl) (by kernel_rfl) (fun _ _ _ h => h) (Or.inr ⟨by rfl, rfl⟩) (by assumption) ?_
                try simp only [Act.put, zp1, zp2, zp3, zp4, zp5, zp6]
                refine wpAnyH_take (i := 22) (v := undef) rfl (by kernel_rfl) (by kernel_rfl) (by kernel_rfl) (fun _ _ _ h => h) (Or.inr ⟨by rfl, rfl⟩) (by assumption) ?_
                try simp only [Act.put, zp1, zp2, zp3, zp4, zp5, zp6]
                refine wpAnyH_take (i := 23) (v := undef) rfl (by kernel_rfl) (by kernel_rfl) (by kernel_rfl) (fun _ _ _ h => h) (Or.inr ⟨by rfl, rfl⟩) (by assumption) ?_
                try simp only [Act.put, zp1, zp2, zp3, zp4, zp5, zp6]
                refine wpAnyH_take (i := 24) (v := undef) rfl (by kernel_rfl) (by kernel_rfl) (by kernel_rfl) (fun _ _ _ h => h) (Or.inr ⟨by rfl, rfl⟩) (by assumption) ?_
                try simp only [Act.put, zp1, zp2, zp3, zp4, zp5, zp6]
                refine wpAnyH_take (i := 25) (v := undef) rfl (by kernel_rfl) (by kernel_rfl) (by kernel_rfl) (fun _ _ _ h => h) (Or.inr ⟨by rfl, rfl⟩) (by assumption) ?_
                try simp only [Act.put, zp1, zp2, zp3, zp4, zp5, zp6]
                refine wpAnyH_take (i := 26) (v := undef) rfl (by kernel_rfl) (by kernel_rfl) (by kernel_rfl) (fun _ _ _ h => h) (Or.inr ⟨by rfl, rfl⟩) (by assumption) ?_
                try simp only [Act.put, zp1, zp2, zp3, zp4, zp5, zp6]
                refine wpAnyH_take (i := 27) (v := undef) rfl (by kernel_rfl) (by kernel_rfl) (by kernel_rfl) (fun _ _ _ h => h) (Or.inr ⟨by rfl, rfl⟩) (by assumption) ?_
                try simp only [Act.put, zp1, zp2, zp3, zp4, zp5, zp6]
                refine wpAnyH_take (i := 28) (v := undef) rfl (by kernel_rfl) (by kernel_rfl) (by kernel_rfl) (fun _ _ _ h => h) (Or.inr ⟨by rfl, rfl⟩) (by assumption) ?_
                try simp only [Act.put, zp1, zp2, zp3, zp4, zp5, zp6]
                refine wpAnyH_take (i := 29) (v := undef) rfl (by kernel_rfl) (by kernel_rfl) (by kernel_rfl) (fun _ _ _ h => h) (Or.inr ⟨by rfl, rfl⟩) (by assumption) ?_
                try simp only [Act.put, zp1, zp2, zp3, zp4, zp5, zp6]
                refine wpAnyH_take (i := 30) (v := undef) rfl (by kernel_rfl) (by kernel_rfl) (by kernel_rfl) (fun _ _ _ h => h) (Or.inr ⟨by rfl, rfl⟩) (by assumption) ?_
                try simp only [Act.put, zp1, zp2, zp3, zp4, zp5, zp6]
                refine wpAnyH_take (i := 31) (v := undef) rfl (by kernel_rfl) (by kernel_rfl) (by kernel_rfl) (fun _ _ _ h => h) (Or.inr ⟨by rfl, rfl⟩) (by assumption) ?_
                try simp only [Act.put, zp1, zp2, zp3, zp4, zp5, zp6]
                refine wpAnyH_take (i := 32) (v := undef) rfl (by kernel_rfl) (by kernel_rfl) (by kernel_rfl) (fun _ _ _ h => h) (Or.inr ⟨by rfl, rfl⟩) (by assumption) ?_
                try simp only [Act.put, zp1, zp2, zp3, zp4, zp5, zp6]
                refine wpAnyH_take (i := 33) (v := undef) rfl (by kernel_rfl) (by kernel_rfl) (by kernel_rfl) (fun _ _ _ h => h) (Or.inr ⟨by rfl, rfl⟩) (by assumption) ?_
                try simp only [Act.put, zp1, zp2, zp3, zp4, zp5, zp6]
                refine wpAnyH_take (i := 34) (v := ?vn3_34) rfl (by kernel_rfl) (by kernel_rfl) (by kernel_rfl) (fun _ _ _ h => h) (Or.inl ⟨by rfl, ?hyn3_34⟩) (by assumption) ?hRn3_34
                case hyn3_34 => (intro w hSw; (try dsimp only at hSw); go_simp; (try with_reducible rfl))
                try simp only [Act.put, zp1, zp2, zp3, zp4, zp5, zp6]
                refine wpAnyH_done (by kernel_rfl) ?_ _
                go_wp2
                go_ret
                exact ⟨by rw [HF.out]; rfl, hB5⟩
              · have hall := sformP_all hs
                rcases hprev with ⟨hk0, hp0⟩ | ⟨k', ep, np, dp, hk1, hxp, hp1, hab⟩
                · have HS2 := Lib.hid (show sformP depth x = formT (6 - depth) (some e) (x.drop (k + 1)) by rw [HST.out, hp0]; simp [hf, hn0, hs, prevOk])
                  have hP : PrevF x (k + 1) (some e) := .inr ⟨k, e, n, d, rfl, HX.out, rfl, hall⟩
                  have hd00 : decide (0 < k) = false := by simp; omega
                  clear hn0 hk0 hp0
                  go_wp2_with fail
                  have hdw := HDW.out
                  refine wp_region_held_drew (S := (fun w' => w'.cell? ⟨w.heap.size, 0, none⟩ = some (.slice (some ⟨b, o, none⟩) x.len c) ∧ w'.cell? ⟨wr.heap.size, 0, none⟩ = some (.slice A1 e.len d1) ∧ w'.cell? ⟨wr.heap.size, 1, none⟩ = some (.int .i64 n) ∧ w'.cell? ⟨wr.heap.size, 2, none⟩ = some (.int .i64 d))) (by kernel_rfl) ?hSn4_ (fun hHeld => ?hRn4_)
                  case hSn4_ => (go_keep)
                  refine wpAnyH_take (i := 0) (v := ?vn4_0) rfl (by kernel_rfl) (by kernel_rfl) (by kernel_rfl) (fun _ _ _ h => h) (Or.inl ⟨by rfl, ?hyn4_0⟩) (by assumption) ?hRn4_0
                  case hyn4_0 => (intro w hSw; (try dsimp only at hSw); go_simp; (try with_reducible rfl))
                  try simp only [Act.put, zp1, zp2, zp3, zp4, zp5, zp6]
                  refine wpAnyH_take (i := 1) (v := ?vn4_1) rfl (by kernel_rfl) (by kernel_rfl) (by kernel_rfl) (fun _ _ _ h => h) (Or.inl ⟨by rfl, ?hyn4_1⟩) (by assumption) ?hRn4_1
                  case hyn4_1 => (intro w hSw; (try dsimp only at hSw); go_simp; (try with_reducible rfl))
                  try simp only [Act.put, zp1, zp2, zp3, zp4, zp5, zp6]
                  refine wpAnyH_ready (rs := [2]) (by kernel_rfl) (by simp) ?_
                  refine AllReadyH.cons rfl (fun K hK => ?_) AllReadyH.nil
                  go_simp
                  (go_at_call 115; refine (shGood_any n d _).mono ?_; rintro e4 w4 ⟨rfl, hb4⟩; rw [hf]; have hB4 : Below w.heap.size w w4 := (hB.trans (Below.call (w := wr) (by go_grown) (by go_size) hb4)); have l0 := Blk.thru m0 (by go_grown) hb4; have l1 := Blk.thru (Blk.new wr 70 #[.slice A1 e.len d1, .int .i64 n, .int .i64 d]) (by go_grown) hb4; have se4 := se.past (by go_grown) hb4; obtain ⟨u0, _⟩ := l0.c1; obtain ⟨u1, u2, u3, _, _, _⟩ := l1.c3)
                  go_wp2_with fail
                  refine hK.out _ _ ?hSn4_2 (fun hHeld => ?hRn4_2)
                  case hSn4_2 => ((try dsimp only); go_keep)
                  clear hK K
                  try simp only [Act.put, zp1, zp2, zp3, zp4, zp5, zp6]
                  refine wpAnyH_take (i := 3) (v := ?vn4_3) rfl (by kernel_rfl) (by kernel_rfl) (by kernel_rfl) (fun _ _ _ h => h) (Or.inl ⟨by rfl, ?hyn4_3⟩) (by assumption) ?hRn4_3
                  case hyn4_3 => (intro w hSw; (try dsimp only at hSw); go_simp; (try with_reducible rfl))
                  try simp only [Act.put, zp1, zp2, zp3, zp4, zp5, zp6]
                  refine wpAnyH_take (i := 4) (v := ?vn4_4) rfl (by kernel_rfl) (by kernel_rfl) (by kernel_rfl) (fun _ _ _ h => h) (Or.inl ⟨by rfl, ?hyn4_4⟩) (by assumption) ?hRn4_4
                  case hyn4_4 => (intro w hSw; (try dsimp only at hSw); go_simp; (try with_reducible rfl))
                  try simp only [Act.put, zp1, zp2, zp3, zp4, zp5, zp6]
                  refine wpAnyH_take (i := 5) (v := ?vn4_5) rfl (by kernel_rfl) (by kernel_rfl) (by kernel_rfl) (fun _ _ _ h => h) (Or.inl ⟨by rfl, ?hyn4_5⟩) (by assumption) ?hRn4_5
                  case hyn4_5 => (intro w hSw; (try dsimp only at hSw); go_simp; (try with_reducible rfl))
                  try simp only [Act.put, zp1, zp2, zp3, zp4, zp5, zp6]
                  refine wpAnyH_take (i := 6) (v := ?vn4_6) rfl (by kernel_rfl) (by kernel_rfl) (by kernel_rfl) (fun _ _ _ h => h) (Or.inl ⟨by rfl, ?hyn4_6⟩) (by assumption) ?hRn4_6
                  case hyn4_6 => (intro w hSw; (try dsimp only at hSw); go_simp; (try with_reducible rfl))
                  try simp only [Act.put, zp1, zp2, zp3, zp4, zp5, zp6]
                  refine wpAnyH_take (i := 7) (v := ?vn4_7) rfl (by kernel_rfl) (by kernel_rfl) (by kernel_rfl) (fun _ _ _ h => h) (Or.inl ⟨by rfl, ?hyn4_7⟩) (by assumption) ?hRn4_7
                  case hyn4_7 => (intro w hSw; (try dsimp only at hSw); go_simp; (try with_reducible rfl))
                  try simp only [Act.put, zp1, zp2, zp3, zp4, zp5, zp6]
                  refine wpAnyH_take (i := 8) (v := ?vn4_8) rfl (by kernel_rfl) (by kernel_rfl) (by kernel_rfl) (fun _ _ _ h => h) (Or.inl ⟨by rfl, ?hyn4_8⟩) (by assumption) ?hRn4_8
                  case hyn4_8 => (intro w hSw; (try dsimp only at hSw); go_simp; (try with_reducible rfl))
                  try simp only [Act.put, zp1, zp2, zp3, zp4, zp5, zp6]
                  refine wpAnyH_take (i := 9) (v := ?vn4_9) rfl (by kernel_rfl) (by kernel_rfl) (by kernel_rfl) (fun _ _ _ h => h) (Or.inl ⟨by rfl, ?hyn4_9⟩) (by assumption) ?hRn4_9
                  case hyn4_9 => (intro w hSw; (try dsimp only at hSw); go_simp; (try with_reducible rfl))
                  try simp only [Act.put, zp1, zp2, zp3, zp4, zp5, zp6]
                  refine wpAnyH_take (i := 10) (v := ?vn4_10) rfl (by kernel_rfl) (by kernel_rfl) (by kernel_rfl) (fun _ _ _ h => h) (Or.inl ⟨by rfl, ?hyn4_10⟩) (by assumption) ?hRn4_10
                  case hyn4_10 => (intro w hSw; (try dsimp only at hSw); go_simp; (try with_reducible rfl))
                  try simp only [Act.put, zp1, zp2, zp3, zp4, zp5, zp6]
                  refine wpAnyH_take (i := 11) (v := ?vn4_11) rfl (by kernel_rfl) (by kernel_rfl) (by kernel_rfl) (fun _ _ _ h => h) (Or.inl ⟨by rfl, ?hyn4_11⟩) (by assumption) ?hRn4_11
                  case hyn4_11 => (intro w hSw; (try dsimp only at hSw); go_simp; (try with_reducible rfl))
                  try simp only [Act.put, zp1, zp2, zp3, zp4, zp5, zp6]
                  refine wpAnyH_take (i := 12) (v := ?vn4_12) rfl (by kernel_rfl) (by kernel_rfl) (by kernel_rfl) (fun _ _ _ h => h) (Or.inl ⟨by rfl, ?hyn4_12⟩) (by assumption) ?hRn4_12
                  case hyn4_12 => (intro w hSw; (try dsimp only at hSw); go_simp; (try with_reducible rfl))
                  try simp only [Act.put, zp1, zp2, zp3, zp4, zp5, zp6]
                  refine wpAnyH_take (i := 13) (v := ?vn4_13) rfl (by kernel_rfl) (by kernel_rfl) (by kernel_rfl) (fun _ _ _ h => h) (Or.inl ⟨by rfl, ?hyn4_13⟩) (by assumption) ?hRn4_13
                  case hyn4_13 => (intro w hSw; (try dsimp only at hSw); go_simp; (try with_reducible rfl))
                  try simp only [Act.put, zp1, zp2, zp3, zp4, zp5, zp6]
                  refine wpAnyH_take (i := 14) (v := ?vn4_14) rfl (by kernel_rfl) (by kernel_rfl) (by kernel_rfl) (fun _ _ _ h => h) (Or.inl ⟨by rfl, ?hyn4_14⟩) (by assumption) ?hRn4_14
                  case hyn4_14 => (intro w hSw; (try dsimp only at hSw); go_simp; (try with_reducible rfl))
                  try simp only [Act.put, zp1, zp2, zp3, zp4, zp5, zp6]
                  refine wpAnyH_ready (rs := [15]) (by kernel_rfl) (by simp) ?_
                  refine AllReadyH.cons rfl (fun K hK => ?_) AllReadyH.nil
                  go_simp
                  (go_at_call 91; refine (IH.out e _ _ _ _ _ (by omega) se4 (by omega) (by omega)).mono ?_; rintro e5 w5 ⟨rfl, hb5⟩; rw [hs]; have hB5 : Below w.heap.size w w5 := hB4.trans (hb5.mono hB4.size); have n0 := l0.call hb5; have n1 := l1.call hb5; have se5 := se4.below hb5; obtain ⟨v0, _⟩ := n0.c1; obtain ⟨v1, v2, v3, _, _, _⟩ := n1.c3)
                  go_wp2_with fail
                  refine hK.out _ _ ?hSn4_15 (fun hHeld => ?hRn4_15)
                  case hSn4_15 => ((try dsimp only); go_keep)
                  clear hK K
                  try simp only [Act.put, zp1, zp2, zp3, zp4, zp5, zp6]
                  refine wpAnyH_take (i := 16) (v := ?vn4_16) rfl (by kernel_rfl) (by kernel_rfl) (by kernel_rfl) (fun _ _ _ h => h) (Or.inl ⟨by rfl, ?hyn4_16⟩) (by assumption) ?hRn4_16
                  case hyn4_16 => (intro w hSw; (try dsimp only at hSw); go_simp; (try with_reducible rfl))
                  try simp only [Act.put, zp1, zp2, zp3, zp4, zp5, zp6]
                  refine wpAnyH_take (i := 17) (v := ?vn4_17) rfl (by kernel_rfl) (by kernel_rfl) (by kernel_rfl) (fun _ _ _ h => h) (Or.inl ⟨by rfl, ?hyn4_17⟩) (by assumption) ?hRn4_17
                  case hyn4_17 => (intro w hSw; (try dsimp only at hSw); go_simp; (try with_reducible rfl))
                  try simp only [Act.put, zp1, zp2, zp3, zp4, zp5, zp6]
                  refine wpAnyH_take (i := 18) (v := ?vn4_18) rfl (by kernel_rfl) (by kernel_rfl) (by kernel_rfl) (fun _ _ _ h => h) (Or.inl ⟨by rfl, ?hyn4_18⟩) (by assumption) ?hRn4_18
                  case hyn4_18 => (intro w hSw; (try dsimp only at hSw); go_simp; (try with_reducible rfl))
                  try simp only [Act.put, zp1, zp2, zp3, zp4, zp5, zp6]
                  refine wpAnyH_take (i := 19) (v := ?vn4_19) rfl (by kernel_rfl) (by kernel_rfl) (by kernel_rfl) (fun _ _ _ h => h) (Or.inl ⟨by rfl, ?hyn4_19⟩) (by assumption) ?hRn4_19
                  case hyn4_19 => (intro w hSw; (try dsimp only at hSw); go_simp; (try with_reducible rfl))
                  try simp only [Act.put, zp1, zp2, zp3, zp4, zp5, zp6]
                  refine wpAnyH_take (i := 20) (v := ?vn4_20) rfl (by kernel_rfl) (by kernel_rfl) (by kernel_rfl) (fun _ _ _ h => h) (Or.inl ⟨by rfl, ?hyn4_20⟩) (by assumption) ?hRn4_20
                  case hyn4_20 => (intro w hSw; (try dsimp only at hSw); go_simp; (try with_reducible rfl))
                  try simp only [Act.put, zp1, zp2, zp3, zp4, zp5, zp6]
                  refine wpAnyH_take (i := 21) (v := ?vn4_21) rfl (by kernel_rfl) (by kernel_rfl) (by kernel_rfl) (fun _ _ _ h => h) (Or.inl ⟨by rfl, ?hyn4_21⟩) (by assumption) ?hRn4_21
                  case hyn4_21 => (intro w hSw; (try dsimp only at hSw); go_simp; (try with_reducible rfl))
                  try simp only [Act.put, zp1, zp2, zp3, zp4, zp5, zp6]
                  refine wpAnyH_take (i := 22) (v := undef) rfl (by kernel_rfl) (by kernel_rfl) (by kernel_rfl) (fun _ _ _ h => h) (Or.inr ⟨by rfl, rfl⟩) (by assumption) ?_
                  try simp only [Act.put, zp1, zp2, zp3, zp4, zp5, zp6]
                  refine wpAnyH_take (i := 23) (v := undef) rfl (by kernel_rfl) (by kernel_rfl) (by kernel_rfl) (fun _ _ _ h => h) (Or.inr ⟨by rfl, rfl⟩) (by assumption) ?_
                  try simp only [Act.put, zp1, zp2, zp3, zp4, zp5, zp6]
                  refine wpAnyH_take (i := 24) (v := undef) rfl (by kernel_rfl) (by kernel_rfl) (by kernel_rfl) (fun _ _ _ h => h) (Or.inr ⟨by rfl, rfl⟩) (by assumption) ?_
                  try simp only [Act.put, zp1, zp2, zp3, zp4, zp5, zp6]
                  refine wpAnyH_take (i := 25) (v := undef) rfl (by kernel_rfl) (by kernel_rfl) (by kernel_rfl) (fun _ _ _ h => h) (Or.inr ⟨by rfl, rfl⟩) (by assumption) ?_
                  try simp only [Act.put, zp1, zp2, zp3, zp4, zp5, zp6]
                  refine wpAnyH_take (i := 26) (v := undef) rfl (by kernel_rfl) (by kernel_rfl) (by kernel_rfl) (fun _ _ _ h => h) (Or.inr ⟨by rfl, rfl⟩) (by assumption) ?_
                  try simp only [Act.put, zp1, zp2, zp3, zp4, zp5, zp6]
                  refine wpAnyH_take (i := 27) (v := undef) rfl (by kernel_rfl) (by kernel_rfl) (by kernel_rfl) (fun _ _ _ h => h) (Or.inr ⟨by rfl, rfl⟩) (by assumption) ?_
                  try simp only [Act.put, zp1, zp2, zp3, zp4, zp5, zp6]
                  refine wpAnyH_take (i := 28) (v := undef) rfl (by kernel_rfl) (by kernel_rfl) (by kernel_rfl) (fun _ _ _ h => h) (Or.inr ⟨by rfl, rfl⟩) (by assumption) ?_
                  try simp only [Act.put, zp1, zp2, zp3, zp4, zp5, zp6]
                  refine wpAnyH_take (i := 29) (v := undef) rfl (by kernel_rfl) (by kernel_rfl) (by kernel_rfl) (fun _ _ _ h => h) (Or.inr ⟨by rfl, rfl⟩) (by assumption) ?_
                  try simp only [Act.put, zp1, zp2, zp3, zp4, zp5, zp6]
                  refine wpAnyH_take (i := 30) (v := undef) rfl (by kernel_rfl) (by kernel_rfl) (by kernel_rfl) (fun _ _ _ h => h) (Or.inr ⟨by rfl, rfl⟩) (by assumption) ?_
                  try simp only [Act.put, zp1, zp2, zp3, zp4, zp5, zp6]
                  refine wpAnyH_take (i := 31) (v := undef) rfl (by kernel_rfl) (by kernel_rfl) (by kernel_rfl) (fun _ _ _ h => h) (Or.inr ⟨by rfl, rfl⟩) (by assumption) ?_
                  try simp only [Act.put, zp1, zp2, zp3, zp4, zp5, zp6]
                  refine wpAnyH_take (i := 32) (v := undef) rfl (by kernel_rfl) (by kernel_rfl) (by kernel_rfl) (fun _ _ _ h => h) (Or.inr ⟨by rfl, rfl⟩) (by assumption) ?_
                  try simp only [Act.put, zp1, zp2, zp3, zp4, zp5, zp6]
                  refine wpAnyH_take (i := 33) (v := ?vn4_33) rfl (by kernel_rfl) (by kernel_rfl) (by kernel_rfl) (fun _ _ _ h => h) (Or.inl ⟨by rfl, ?hyn4_33⟩) (by assumption) ?hRn4_33
                  case hyn4_33 => (intro w hSw; (try dsimp only at hSw); go_simp; (try with_reducible rfl))
                  try simp only [Act.put, zp1, zp2, zp3, zp4, zp5, zp6]
                  refine wpAnyH_take (i := 34) (v := ?vn4_34) rfl (by kernel_rfl) (by kernel_rfl) (by kernel_rfl) (fun _ _ _ h => h) (Or.inl ⟨by rfl, ?hyn4_34⟩) (by assumption) ?hRn4_34
                  case hyn4_34 => (intro w hSw; (try dsimp only at hSw); go_simp; (try with_reducible rfl))
                  try simp only [Act.put, zp1, zp2, zp3, zp4, zp5, zp6]
                  refine wpAnyH_done (by kernel_rfl) ?_ _
                  clear hdw
                  go_wp2
                  exact ⟨⟨k + 1, some e, by go_num, by omega, hP, n0, HS2, hB5⟩, by simp [intOf]; omega⟩
                · have HS2 := Lib.hid (show sformP depth x = (prevOk prev e && formT (6 - depth) (some e) (x.drop (k + 1))) by rw [HST.out]; simp [hf, hn0, hs])
                  have hP : PrevF x (k + 1) (some e) := .inr ⟨k, e, n, d, rfl, HX.out, rfl, hall⟩
                  subst hk1 hp1
                  obtain ⟨bb, oo, ee, nn, dd, A4, d4, hA4, hx4, j0, _, _, s4, _, _, _, _⟩ := sx1.at_ (k := k') (by omega)
                  have hee : ee = ep := by rw [hx4] at hxp; injection hxp
                  injection hA4 with hA4
                  injection hA4 with hA4 hA5
                  subst hee hA4 hA5
                  have hd00 : decide ((0 : Int) < (k' : Int) + 1) = true := by simp only [decide_eq_true_eq]; omega
                  have hnw : IntKind.i64.wrap ((k' : Int) + 1 - 1) = (k' : Int) := by rw [IntWalk.i64_in _ (by omega)]; omega
                  have hnw2 : IntKind.i64.wrap (k' : Int) = (k' : Int) := IntWalk.i64_in _ (by omega)
                  have hi1 : (0 : Int) ≤ (k' : Int) := by omega
                  have hi2 : (k' : Int) < (x.len : Int) := by omega
                  have HNW := Lib.hid hnw
                  have HNW2 := Lib.hid hnw2
                  clear hn0 hx4 hxp hnw hnw2
                  go_wp2_with fail
                  have hdw := HDW.out
                  have hnw := HNW.out
                  have hnw2 := HNW2.out
                  refine wp_region_held_drew (S := (fun w' => w'.cell? ⟨w.heap.size, 0, none⟩ = some (.slice (some ⟨b, o, none⟩) x.len c) ∧ w'.cell? ⟨wr.heap.size, 0, none⟩ = some (.slice A1 e.len d1) ∧ w'.cell? ⟨wr.heap.size, 1, none⟩ = some (.int .i64 n) ∧ w'.cell? ⟨wr.heap.size, 2, none⟩ = some (.int .i64 d) ∧ w'.cell? ⟨b, o + k' * 3, none⟩ = some (.slice A4 ee.len d4))) (by kernel_rfl) ?hSn5_ (fun hHeld => ?hRn5_)
                  case hSn5_ => (go_keep)
                  refine wpAnyH_take (i := 0) (v := ?vn5_0) rfl (by kernel_rfl) (by kernel_rfl) (by kernel_rfl) (fun _ _ _ h => h) (Or.inl ⟨by rfl, ?hyn5_0⟩) (by assumption) ?hRn5_0
                  case hyn5_0 => (intro w hSw; (try dsimp only at hSw); go_simp; (try with_reducible rfl))
                  try simp only [Act.put, zp1, zp2, zp3, zp4, zp5, zp6]
                  refine wpAnyH_take (i := 1) (v := ?vn5_1) rfl (by kernel_rfl) (by kernel_rfl) (by kernel_rfl) (fun _ _ _ h => h) (Or.inl ⟨by rfl, ?hyn5_1⟩) (by assumption) ?hRn5_1
                  case hyn5_1 => (intro w hSw; (try dsimp only at hSw); go_simp; (try with_reducible rfl))
                  try simp only [Act.put, zp1, zp2, zp3, zp4, zp5, zp6]
                  refine wpAnyH_ready (rs := [2]) (by kernel_rfl) (by simp) ?_
                  refine AllReadyH.cons rfl (fun K hK => ?_) AllReadyH.nil
                  go_simp
                  (go_at_call 115; refine (shGood_any n d _).mono ?_; rintro e4 w4 ⟨rfl, hb4⟩; rw [hf]; have hB4 : Below w.heap.size w w4 := (hB.trans (Below.call (w := wr) (by go_grown) (by go_size) hb4)); have l0 := Blk.thru m0 (by go_grown) hb4; have l1 := Blk.thru (Blk.new wr 70 #[.slice A1 e.len d1, .int .i64 n, .int .i64 d]) (by go_grown) hb4; have se4 := se.past (by go_grown) hb4; obtain ⟨u0, _⟩ := l0.c1; obtain ⟨u1, u2, u3, _, _, _⟩ := l1.c3; have s44 := s4.past (by go_grown) hb4; have j4 := cell_call (by go_grown) hb4 j0; have hlb4 := World.block_lt_of_cell? w4 _ j4)
                  go_wp2_with fail
                  refine hK.out _ _ ?hSn5_2 (fun hHeld => ?hRn5_2)
                  case hSn5_2 => ((try dsimp only); go_keep)
                  clear hK K
                  try simp only [Act.put, zp1, zp2, zp3, zp4, zp5, zp6]
                  refine wpAnyH_take (i := 3) (v := ?vn5_3) rfl (by kernel_rfl) (by kernel_rfl) (by kernel_rfl) (fun _ _ _ h => h) (Or.inl ⟨by rfl, ?hyn5_3⟩) (by assumption) ?hRn5_3
                  case hyn5_3 => (intro w hSw; (try dsimp only at hSw); go_simp; (try with_reducible rfl))
                  try simp only [Act.put, zp1, zp2, zp3, zp4, zp5, zp6]
                  refine wpAnyH_take (i := 4) (v := ?vn5_4) rfl (by kernel_rfl) (by kernel_rfl) (by kernel_rfl) (fun _ _ _ h => h) (Or.inl ⟨by rfl, ?hyn5_4⟩) (by assumption) ?hRn5_4
                  case hyn5_4 => (intro w hSw; (try dsimp only at hSw); go_simp; (try with_reducible rfl))
                  try simp only [Act.put, zp1, zp2, zp3, zp4, zp5, zp6]
                  refine wpAnyH_take (i := 5) (v := ?vn5_5) rfl (by kernel_rfl) (by kernel_rfl) (by kernel_rfl) (fun _ _ _ h => h) (Or.inl ⟨by rfl, ?hyn5_5⟩) (by assumption) ?hRn5_5
                  case hyn5_5 => (intro w hSw; (try dsimp only at hSw); go_simp; (try with_reducible rfl))
                  try simp only [Act.put, zp1, zp2, zp3, zp4, zp5, zp6]
                  refine wpAnyH_take (i := 6) (v := ?vn5_6) rfl (by kernel_rfl) (by kernel_rfl) (by kernel_rfl) (fun _ _ _ h => h) (Or.inl ⟨by rfl, ?hyn5_6⟩) (by assumption) ?hRn5_6
                  case hyn5_6 => (intro w hSw; (try dsimp only at hSw); go_simp; (try with_reducible rfl))
                  try simp only [Act.put, zp1, zp2, zp3, zp4, zp5, zp6]
                  refine wpAnyH_take (i := 7) (v := ?vn5_7) rfl (by kernel_rfl) (by kernel_rfl) (by kernel_rfl) (fun _ _ _ h => h) (Or.inl ⟨by rfl, ?hyn5_7⟩) (by assumption) ?hRn5_7
                  case hyn5_7 => (intro w hSw; (try dsimp only at hSw); go_simp; (try with_reducible rfl))
                  try simp only [Act.put, zp1, zp2, zp3, zp4, zp5, zp6]
                  refine wpAnyH_take (i := 8) (v := ?vn5_8) rfl (by kernel_rfl) (by kernel_rfl) (by kernel_rfl) (fun _ _ _ h => h) (Or.inl ⟨by rfl, ?hyn5_8⟩) (by assumption) ?hRn5_8
                  case hyn5_8 => (intro w hSw; (try dsimp only at hSw); go_simp; (try with_reducible rfl))
                  try simp only [Act.put, zp1, zp2, zp3, zp4, zp5, zp6]
                  refine wpAnyH_take (i := 9) (v := ?vn5_9) rfl (by kernel_rfl) (by kernel_rfl) (by kernel_rfl) (fun _ _ _ h => h) (Or.inl ⟨by rfl, ?hyn5_9⟩) (by assumption) ?hRn5_9
                  case hyn5_9 => (intro w hSw; (try dsimp only at hSw); go_simp; (try with_reducible rfl))
                  try simp only [Act.put, zp1, zp2, zp3, zp4, zp5, zp6]
                  refine wpAnyH_take (i := 10) (v := ?vn5_10) rfl (by kernel_rfl) (by kernel_rfl) (by kernel_rfl) (fun _ _ _ h => h) (Or.inl ⟨by rfl, ?hyn5_10⟩) (by assumption) ?hRn5_10
                  case hyn5_10 => (intro w hSw; (try dsimp only at hSw); go_simp; (try with_reducible rfl))
                  try simp only [Act.put, zp1, zp2, zp3, zp4, zp5, zp6]
                  refine wpAnyH_take (i := 11) (v := ?vn5_11) rfl (by kernel_rfl) (by kernel_rfl) (by kernel_rfl) (fun _ _ _ h => h) (Or.inl ⟨by rfl, ?hyn5_11⟩) (by assumption) ?hRn5_11
                  case hyn5_11 => (intro w hSw; (try dsimp only at hSw); go_simp; (try with_reducible rfl))
                  try simp only [Act.put, zp1, zp2, zp3, zp4, zp5, zp6]
                  refine wpAnyH_take (i := 12) (v := ?vn5_12) rfl (by kernel_rfl) (by kernel_rfl) (by kernel_rfl) (fun _ _ _ h => h) (Or.inl ⟨by rfl, ?hyn5_12⟩) (by assumption) ?hRn5_12
                  case hyn5_12 => (intro w hSw; (try dsimp only at hSw); go_simp; (try with_reducible rfl))
                  try simp only [Act.put, zp1, zp2, zp3, zp4, zp5, zp6]
                  refine wpAnyH_take (i := 13) (v := ?vn5_13) rfl (by kernel_rfl) (by kernel_rfl) (by kernel_rfl) (fun _ _ _ h => h) (Or.inl ⟨by rfl, ?hyn5_13⟩) (by assumption) ?hRn5_13
                  case hyn5_13 => (intro w hSw; (try dsimp only at hSw); go_simp; (try with_reducible rfl))
                  try simp only [Act.put, zp1, zp2, zp3, zp4, zp5, zp6]
                  refine wpAnyH_take (i := 14) (v := ?vn5_14) rfl (by kernel_rfl) (by kernel_rfl) (by kernel_rfl) (fun _ _ _ h => h) (Or.inl ⟨by rfl, ?hyn5_14⟩) (by assumption) ?hRn5_14
                  case hyn5_14 => (intro w hSw; (try dsimp only at hSw); go_simp; (try with_reducible rfl))
                  try simp only [Act.put, zp1, zp2, zp3, zp4, zp5, zp6]
                  refine wpAnyH_ready (rs := [15]) (by kernel_rfl) (by simp) ?_
                  refine AllReadyH.cons rfl (fun K hK => ?_) AllReadyH.nil
                  go_simp
                  (go_at_call 91; refine (IH.out e _ _ _ _ _ (by omega) se4 (by omega) (by omega)).mono ?_; rintro e5 w5 ⟨rfl, hb5⟩; rw [hs]; have hB5 : Below w.heap.size w w5 := hB4.trans (hb5.mono hB4.size); have n0 := l0.call hb5; have n1 := l1.call hb5; have se5 := se4.below hb5; obtain ⟨v0, _⟩ := n0.c1; obtain ⟨v1, v2, v3, _, _, _⟩ := n1.c3; have s45 := s44.below hb5; have j5 := cell_call (Below.refl _ _) hb5 j4)
                  go_wp2_with fail
                  refine hK.out _ _ ?hSn5_15 (fun hHeld => ?hRn5_15)
                  case hSn5_15 => ((try dsimp only); go_keep)
                  clear hK K
                  try simp only [Act.put, zp1, zp2, zp3, zp4, zp5, zp6]
                  refine wpAnyH_take (i := 16) (v := ?vn5_16) rfl (by kernel_rfl) (by kernel_rfl) (by kernel_rfl) (fun _ _ _ h => h) (Or.inl ⟨by rfl, ?hyn5_16⟩) (by assumption) ?hRn5_16
                  case hyn5_16 => (intro w hSw; (try dsimp only at hSw); go_simp; (try with_reducible rfl))
                  try simp only [Act.put, zp1, zp2, zp3, zp4, zp5, zp6]
                  refine wpAnyH_take (i := 17) (v := ?vn5_17) rfl (by kernel_rfl) (by kernel_rfl) (by kernel_rfl) (fun _ _ _ h => h) (Or.inl ⟨by rfl, ?hyn5_17⟩) (by assumption) ?hRn5_17
                  case hyn5_17 => (intro w hSw; (try dsimp only at hSw); go_simp; (try with_reducible rfl))
                  try simp only [Act.put, zp1, zp2, zp3, zp4, zp5, zp6]
                  refine wpAnyH_take (i := 18) (v := ?vn5_18) rfl (by kernel_rfl) (by kernel_rfl) (by kernel_rfl) (fun _ _ _ h => h) (Or.inl ⟨by rfl, ?hyn5_18⟩) (by assumption) ?hRn5_18
                  case hyn5_18 => (intro w hSw; (try dsimp only at hSw); go_simp; (try with_reducible rfl))
                  try simp only [Act.put, zp1, zp2, zp3, zp4, zp5, zp6]
                  refine wpAnyH_take (i := 19) (v := ?vn5_19) rfl (by kernel_rfl) (by kernel_rfl) (by kernel_rfl) (fun _ _ _ h => h) (Or.inl ⟨by rfl, ?hyn5_19⟩) (by assumption) ?hRn5_19
                  case hyn5_19 => (intro w hSw; (try dsimp only at hSw); go_simp; (try with_reducible rfl))
                  try simp only [Act.put, zp1, zp2, zp3, zp4, zp5, zp6]
                  refine wpAnyH_take (i := 20) (v := ?vn5_20) rfl (by kernel_rfl) (by kernel_rfl) (by kernel_rfl) (fun _ _ _ h => h) (Or.inl ⟨by rfl, ?hyn5_20⟩) (by assumption) ?hRn5_20
                  case hyn5_20 => (intro w hSw; (try dsimp only at hSw); go_simp; (try with_reducible rfl))
                  try simp only [Act.put, zp1, zp2, zp3, zp4, zp5, zp6]
                  refine wpAnyH_take (i := 21) (v := ?vn5_21) rfl (by kernel_rfl) (by kernel_rfl) (by kernel_rfl) (fun _ _ _ h => h) (Or.inl ⟨by rfl, ?hyn5_21⟩) (by assumption) ?hRn5_21
                  case hyn5_21 => (intro w hSw; (try dsimp only at hSw); go_simp; (try with_reducible rfl))
                  try simp only [Act.put, zp1, zp2, zp3, zp4, zp5, zp6]
                  refine wpAnyH_take (i := 22) (v := ?vn5_22) rfl (by kernel_rfl) (by kernel_rfl) (by kernel_rfl) (fun _ _ _ h => h) (Or.inl ⟨by rfl, ?hyn5_22⟩) (by assumption) ?hRn5_22
                  case hyn5_22 => (intro w hSw; (try dsimp only at hSw); go_simp; (try with_reducible rfl))
                  try simp only [Act.put, zp1, zp2, zp3, zp4, zp5, zp6]
                  refine wpAnyH_take (i := 23) (v := ?vn5_23) rfl (by kernel_rfl) (by kernel_rfl) (by kernel_rfl) (fun _ _ _ h => h) (Or.inl ⟨by rfl, ?hyn5_23⟩) (by assumption) ?hRn5_23
                  case hyn5_23 => (intro w hSw; (try dsimp only at hSw); go_simp; (try with_reducible rfl))
                  try simp only [Act.put, zp1, zp2, zp3, zp4, zp5, zp6]
                  refine wpAnyH_take (i := 24) (v := ?vn5_24) rfl (by kernel_rfl) (by kernel_rfl) (by kernel_rfl) (fun _ _ _ h => h) (Or.inl ⟨by rfl, ?hyn5_24⟩) (by assumption) ?hRn5_24
                  case hyn5_24 => (intro w hSw; (try dsimp only at hSw); go_simp; (try with_reducible rfl))
                  try simp only [Act.put, zp1, zp2, zp3, zp4, zp5, zp6]
                  refine wpAnyH_take (i := 25) (v := ?vn5_25) rfl (by kernel_rfl) (by kernel_rfl) (by kernel_rfl) (fun _ _ _ h => h) (Or.inl ⟨by rfl, ?hyn5_25⟩) (by assumption) ?hRn5_25
                  case hyn5_25 => (intro w hSw; (try dsimp only at hSw); go_simp; (try with_reducible rfl))
                  try simp only [Act.put, zp1, zp2, zp3, zp4, zp5, zp6]
                  refine wpAnyH_take (i := 26) (v := ?vn5_26) rfl (by kernel_rfl) (by kernel_rfl) (by kernel_rfl) (fun _ _ _ h => h) (Or.inl ⟨by rfl, ?hyn5_26⟩) (by assumption) ?hRn5_26
                  case hyn5_26 => (intro w hSw; (try dsimp only at hSw); go_simp; (try with_reducible rfl))
                  try simp only [Act.put, zp1, zp2, zp3, zp4, zp5, zp6]
                  refine wpAnyH_take (i := 27) (v := ?vn5_27) rfl (by kernel_rfl) (by kernel_rfl) (by kernel_rfl) (fun _ _ _ h => h) (Or.inl ⟨by rfl, ?hyn5_27⟩) (by assumption) ?hRn5_27
                  case hyn5_27 => (intro w hSw; (try dsimp only at hSw); go_simp; (try with_reducible rfl))
                  try simp only [Act.put, zp1, zp2, zp3, zp4, zp5, zp6]
                  refine wpAnyH_take (i := 28) (v := ?vn5_28) rfl (by kernel_rfl) (by kernel_rfl) (by kernel_rfl) (fun _ _ _ h => h) (Or.inl ⟨by rfl, ?hyn5_28⟩) (by assumption) ?hRn5_28
                  case hyn5_28 => (intro w hSw; (try dsimp only at hSw); go_simp; (try with_reducible rfl))
                  try simp only [Act.put, zp1, zp2, zp3, zp4, zp5, zp6]
                  refine wpAnyH_take (i := 29) (v := ?vn5_29) rfl (by kernel_rfl) (by kernel_rfl) (by kernel_rfl) (fun _ _ _ h => h) (Or.inl ⟨by rfl, ?hyn5_29⟩) (by assumption) ?hRn5_29
                  case hyn5_29 => (intro w hSw; (try dsimp only at hSw); go_simp; (try with_reducible rfl))
                  try simp only [Act.put, zp1, zp2, zp3, zp4, zp5, zp6]
                  refine wpAnyH_take (i := 30) (v := ?vn5_30) rfl (by kernel_rfl) (by kernel_rfl) (by kernel_rfl) (fun _ _ _ h => h) (Or.inl ⟨by rfl, ?hyn5_30⟩) (by assumption) ?hRn5_30
                  case hyn5_30 => (intro w hSw; (try dsimp only at hSw); go_simp; (try with_reducible rfl))
                  try simp only [Act.put, zp1, zp2, zp3, zp4, zp5, zp6]
                  refine wpAnyH_ready (rs := [31]) (by kernel_rfl) (by simp) ?_
                  refine AllReadyH.cons rfl (fun K hK => ?_) AllReadyH.nil
                  go_simp
                  (go_at_call 57; refine (suCmp_any _ ee e _ _ _ _ _ _ _ (Nat.le_refl _) hab hall s45 se5).mono ?_; rintro e6 w6 ⟨rfl, hb6⟩; have hB6 : Below w.heap.size w w6 := hB5.trans (hb6.mono hB5.size); have r0 := n0.call hb6; have r1 := n1.call hb6; obtain ⟨y0, _⟩ := r0.c1; obtain ⟨y1, y2, y3, _, _, _⟩ := r1.c3; have j6 := cell_call (Below.refl _ _) hb6 j5)
                  go_wp2_with fail
                  refine hK.out _ _ ?hSn5_31 (fun hHeld => ?hRn5_31)
                  case hSn5_31 => ((try dsimp only); go_keep)
                  clear hK K
                  try simp only [Act.put, zp1, zp2, zp3, zp4, zp5, zp6]
                  refine wpAnyH_take (i := 32) (v := ?vn5_32) rfl (by kernel_rfl) (by kernel_rfl) (by kernel_rfl) (fun _ _ _ h => h) (Or.inl ⟨by rfl, ?hyn5_32⟩) (by assumption) ?hRn5_32
                  case hyn5_32 => (intro w hSw; (try dsimp only at hSw); go_simp; (try with_reducible rfl))
                  try simp only [Act.put, zp1, zp2, zp3, zp4, zp5, zp6]
                  refine wpAnyH_take (i := 33) (v := ?vn5_33) rfl (by kernel_rfl) (by kernel_rfl) (by kernel_rfl) (fun _ _ _ h => h) (Or.inl ⟨by rfl, ?hyn5_33⟩) (by assumption) ?hRn5_33
                  case hyn5_33 => (intro w hSw; (try dsimp only at hSw); go_simp; (try with_reducible rfl))
                  try simp only [Act.put, zp1, zp2, zp3, zp4, zp5, zp6]
                  refine wpAnyH_take (i := 34) (v := ?vn5_34) rfl (by kernel_rfl) (by kernel_rfl) (by kernel_rfl) (fun _ _ _ h => h) (Or.inl ⟨by rfl, ?hyn5_34⟩) (by assumption) ?hRn5_34
                  case hyn5_34 => (intro w hSw; (try dsimp only at hSw); go_simp; (try with_reducible rfl))
                  try simp only [Act.put, zp1, zp2, zp3, zp4, zp5, zp6]
                  refine wpAnyH_done (by kernel_rfl) ?_ _
                  clear hdw hnw hnw2
                  by_cases ho : 0 < order ee e
                  · have ho2 : decide (order ee e ≤ 0) = false := by simp; omega
                    have HS3 := Lib.hid (show sformP depth x = formT (6 - depth) (some e) (x.drop (k' + 1 + 1)) by rw [HS2.out]; simp [prevOk, ho])
                    clear ho2
                    go_wp2
                    exact ⟨⟨k' + 1 + 1, some e, by go_num, by omega, hP, r0, HS3, hB6⟩, by simp [intOf]; omega⟩
                  · have ho2 : decide (order ee e ≤ 0) = true := by simp; omega
                    have HF := Lib.hid (show sformP depth x = false by rw [HS2.out]; simp [prevOk, ho])
                    clear ho2
                    go_wp2
                    go_ret
                    exact ⟨by rw [HF.out]; rfl, hB6⟩
        · have hfin : sformP depth x = true := by rw [HS.out, x.drop_of_ge k (by omega)]; rfl
          have HN := Lib.hid hfin
          clear hfin
          go_wp2
          go_ret
          exact ⟨by rw [HN.out]; rfl, hB⟩
end Go.Proofs.YtonlfnbjbmgegaaGreat
