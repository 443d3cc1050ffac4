/-
  Walks: IsSurreal.
-/
import Derived.Test.YtonlfnbjbmgegaaGreatBA
import Derived.Test.YtonlfnbjbmgegaaGreatWClone
namespace Go.Proofs.YtonlfnbjbmgegaaGreat
open Go.RowKit
set_option linter.unusedSimpArgs false
set_option linter.unusedVariables false

/-- behind surrealAt: whether the number is right, and how many nodes were met -/
def RetAt (w : World) (qb : Nat) (deep cnt : Int) (x : Sur) (e : Ending) (w' : World) : Prop :=
  ∃ m : Int, e = .returned (.bool (sOk deep cnt x)) ∧ 0 ≤ m ∧ m ≤ 61 ∧ Hid (sOk deep cnt x = true → m = cnt + x.nodes) ∧ Below w.heap.size (w.setCell ⟨qb, 0, none⟩ (.int .i64 m)) w'

theorem noCnt {b : Bool} {p : Prop} (h : b = false) : Hid (b = true → p) := fun h' => by rw [h] at h'; cases h'

theorem q_cell {w wr : World} {qb : Nat} {m u : Value} (hq : w.cell? ⟨qb, 0, none⟩ = some u) (hf : w.frozen? ⟨qb, 0, none⟩ = false) (hb : Below w.heap.size (w.setCell ⟨qb, 0, none⟩ m) wr) :
    wr.cell? ⟨qb, 0, none⟩ = some m ∧ wr.frozen? ⟨qb, 0, none⟩ = false := by
  have hlt := World.block_lt_of_cell? w ⟨qb, 0, none⟩ hq
  refine ⟨?_, ?_⟩
  · rw [hb.cell (p := ⟨qb, 0, none⟩) hlt]; simp [go_sem, hq]
  · rw [hb.frozen (p := ⟨qb, 0, none⟩) hlt]; simp [go_sem, hf]

/-- two stores into one cell are the second one -/
theorem q_again {w w1 w2 : World} {qb B : Nat} {m m' : Value} (hB : w.heap.size ≤ B) (h1 : Below w.heap.size (w.setCell ⟨qb, 0, none⟩ m) w1) (h2 : Below B (w1.setCell ⟨qb, 0, none⟩ m') w2) :
    Below w.heap.size (w.setCell ⟨qb, 0, none⟩ m') w2 := by
  refine ⟨h2.os.trans h1.os, h2.tape.trans h1.tape, h2.output.trans h1.output, ?_, fun k hk => ?_⟩
  · have := h2.size; have := h1.size; simp only [World.size_setCell] at *; omega
  · rw [h2.block k (by omega)]
    by_cases hkq : k = qb
    · subst hkq
      have := h1.block k hk
      simp only [World.setCell, Array.getElem?_modify, if_true] at this ⊢
      rw [this]
      cases hh : w.heap[k]? with
      | none => rfl
      | some o => cases o <;> simp [Array.setIfInBounds_setIfInBounds]
    · rw [Below.heap_setCell _ _ _ _ hkq, h1.block k hk, Below.heap_setCell _ _ _ _ hkq, Below.heap_setCell _ _ _ _ hkq]

theorem far_cell {w w2 : World} {qb b o : Nat} {m u : Value} (hb : Below w.heap.size (w.setCell ⟨qb, 0, none⟩ m) w2) (h : w.cell? ⟨b, o, none⟩ = some u) (hne : b ≠ qb) : w2.cell? ⟨b, o, none⟩ = some u := by
  have hlt := World.block_lt_of_cell? w ⟨b, o, none⟩ h
  rw [hb.cell (p := ⟨b, o, none⟩) hlt, World.cell?_of_block (w := w) (Below.heap_setCell _ _ _ _ hne)]
  exact h
theorem far_S {w w2 : World} {X : Nat → Prop} {qb : Nat} {m : Value} {x : Sur} {A : Option Addr} {c : Nat} (hb : Below w.heap.size (w.setCell ⟨qb, 0, none⟩ m) w2) (h : SSl X w x A c) (hq : X qb) : SSl X w2 x A c :=
  (h.far (p := ⟨qb, 0, none⟩) hq m).below (by rw [World.size_setCell]; exact hb)

set_option maxHeartbeats 1600000 in
set_option maxRecDepth 100000 in
theorem surrealAt_any (N : Nat) : ∀ (x : Sur) (X : Nat → Prop) (A : Option Addr) (c pb po qb : Nat) (deep cnt : Int) (w : World), x.nodes ≤ N → SSl X w x A c → X qb → ¬ X pb →
    w.cell? ⟨pb, po, none⟩ = some (.slice A x.len c) → w.cell? ⟨qb, 0, none⟩ = some (.int .i64 cnt) → w.frozen? ⟨qb, 0, none⟩ = false → 0 ≤ cnt → cnt ≤ 60 → 0 ≤ deep → deep ≤ 7 →
    Calls Tryz.prog 81 #[.pointer (some ⟨pb, po, none⟩), .int .i64 deep, .pointer (some ⟨qb, 0, none⟩)] w (RetAt w qb deep cnt x) := by
  induction N with
  | zero => intro x X A c pb po qb deep cnt w hx; have := x.len_lt_nodes; omega
  | succ N ih =>
    intro x X A c pb po qb deep cnt w hx sx hXq hXp cp cq fq hc0 hc1 hd0 hd1
    have IH := Lib.hid ih; clear ih
    have lx := sx.cap
    have lx' := sx.le
    unfold maxLen at lx
    have hlp := World.block_lt_of_cell? w ⟨pb, po, none⟩ cp
    have hlq := World.block_lt_of_cell? w ⟨qb, 0, none⟩ cq
    have hne : pb ≠ qb := fun e => hXp (e ▸ hXq)
    have hR := Lib.hid (sOk_rest deep cnt x)
    by_cases hd : deep ≤ 6
    · by_cases hc : cnt + 1 ≤ 60
      · go_enter Tryz.func81, Tryz.ntmps81
        go_wp2
        go_loopw [27] (fun s wr => ∃ (k : Nat) (m : Int) (prev : Option Sur), s = .int .i64 k ∧ k ≤ x.len ∧ 0 ≤ m ∧ m ≤ 60 ∧ Hid (m = cnt + (x.take k).nodes) ∧ PrevAt x k prev ∧ Hid (sOk deep cnt x = sRest deep m prev (x.drop k)) ∧ Below w.heap.size (w.setCell ⟨qb, 0, none⟩ (.int .i64 m)) wr) (fun s _ => x.len - (intOf s).toNat)
        case atStart => exact ⟨0, cnt + 1, none, rfl, Nat.zero_le _, by omega, by omega, by simp [Sur.take, Sur.nodes, Hid], .inl ⟨rfl, rfl⟩, by rw [hR.out]; simp [hd, Hid, Sur.drop], Below.refl _ _⟩
        case round =>
          obtain ⟨k, m, prev, rfl, hk, hm0, hm1, Hm, hprev, HS, hB⟩ := hrel
          obtain ⟨qc, qf⟩ := q_cell cq fq hB
          have pc := far_cell hB cp hne
          have sx1 := far_S hB sx hXq
          by_cases h1 : k < x.len
          · obtain ⟨b, o, e, n, d, A1, d1, rfl, hxk, f0, f1, f2, se, in_, id_, hXb, hbl⟩ := sx1.at_ h1
            have hbq : b ≠ qb := fun e => hXb (e ▸ hXq)
            have hne1 := Sur.nodes_drop hxk
            have hst : sOk deep cnt x = (decide (m + 1 ≤ 60) && (fracOk n d && (decide (n ≠ 0) && (sOk (deep + 1) (m + 1) e && (prevOk prev e && sRest deep (m + 1 + e.nodes) (some e) (x.drop (k + 1))))))) := by
              rw [HS.out, hxk, sRest_cons]
            have HST := Lib.hid hst
            have HX := Lib.hid hxk
            clear hst hxk
            by_cases hm : m + 1 ≤ 60
            · go_wp2_with fail
              refine (IsFraction_any _ _ _).mono ?_
              rintro e1 w2 ⟨rfl, hb2⟩
              rw [World.size_setCell] at hb2
              obtain ⟨q2, qf2⟩ := q_cell qc qf hb2
              have g0 := far_cell hb2 f0 hbq
              have g1 := far_cell hb2 f1 hbq
              have g2 := far_cell hb2 f2 hbq
              have se2 := far_S hb2 se hXq
              have hB2 := q_again (by simpa using hB.size) hB hb2
              cases hf : fracOk n d
              · have HF := Lib.hid (show sOk deep cnt x = false by rw [HST.out, hf]; simp)
                clear hf
                go_wp2
                go_ret
                exact ⟨m + 1, by rw [HF.out]; rfl, by omega, by omega, noCnt HF.out, hB2⟩
              · rw [hf] at HST
                by_cases hn0 : n = 0
                · have HF := Lib.hid (show sOk deep cnt x = false by rw [HST.out, hn0]; simp)
                  have e0 : (n == 0) = true := by simpa using hn0
                  clear hf hn0
                  go_wp2
                  go_ret
                  exact ⟨m + 1, by rw [HF.out]; rfl, by omega, by omega, noCnt HF.out, hB2⟩
                · have e0 : (n == 0) = false := by simpa using hn0
                  go_wp2_with fail
                  refine (IH.out e X _ _ b (o + k * 3) qb (deep + 1) (m + 1) _ (by omega) se2 hXq hXb g0 q2 qf2 (by omega) (by omega) (by omega) (by omega)).mono ?_
                  rintro e2 w3 ⟨m3, rfl, l1, l2, Hc, hb3⟩
                  obtain ⟨q3, qf3⟩ := q_cell q2 qf2 hb3
                  have g30 := far_cell hb3 g0 hbq
                  have hB3 := q_again (by simpa using hB2.size) hB2 hb3
                  have p3 := far_cell hB3 cp hne
                  have se3 := far_S hb3 se2 hXq
                  have sx3 := far_S hB3 sx hXq
                  cases hs : sOk (deep + 1) (m + 1) e
                  · have HF := Lib.hid (show sOk deep cnt x = false by rw [HST.out, hs]; simp)
                    clear hs
                    go_wp2
                    go_ret
                    exact ⟨m3, by rw [HF.out]; rfl, by omega, by omega, noCnt HF.out, hB3⟩
                  · have hall := sOk_all hs
                    have hm3 := Hc.out hs
                    rw [hs] at HST
                    rcases hprev with ⟨hk0, hp0⟩ | ⟨k', ep, np, dp, hk1, hxp, hp1, hab⟩
                    · have hst2 : sOk deep cnt x = sRest deep m3 (some e) (x.drop (k + 1)) := by
                        rw [HST.out, hp0, hm3]; simp [hm, hf, hn0, prevOk]
                      have HS2 := Lib.hid hst2
                      have Hm3 : Hid (m3 = cnt + (x.take (k + 1)).nodes) := by
                        have h1 := Sur.nodes_app (x.take k) (.cons e n d .nil); have h2 := Hm.out; rw [← x.take_succ k e n d _ HX.out] at h1; simp only [Sur.nodes] at h1; show _ = _; omega
                      have hP : PrevAt x (k + 1) (some e) := .inr ⟨k, e, n, d, rfl, HX.out, rfl, All.bd hall⟩
                      have hd00 : decide (0 < k) = false := by simp; omega
                      have hm60 : m3 ≤ 60 := by have := hm3; have := e.nodes_pos; have h61 := (sOk_nodes hs); omega
                      clear hst2 hm3 hf hs hn0 hk0 hp0
                      go_wp2_with fail
                      go_quiet (fail)
                      go_wp2
                      exact ⟨⟨k + 1, m3, some e, by go_num, by omega, by omega, by omega, Hm3, hP, HS2, Below.drewN hB3 _⟩, by simp [intOf]; omega⟩
                    · have hm60 : m3 ≤ 60 := by have := hm3; have := e.nodes_pos; have h61 := (sOk_nodes hs); omega
                      have hst2 : sOk deep cnt x = (prevOk prev e && sRest deep m3 (some e) (x.drop (k + 1))) := by
                        rw [HST.out, hm3]; simp [hm, hf, hn0]
                      have HS2 := Lib.hid hst2
                      have Hm3 : Hid (m3 = cnt + (x.take (k + 1)).nodes) := by
                        have h1 := Sur.nodes_app (x.take k) (.cons e n d .nil); have h2 := Hm.out; rw [← x.take_succ k e n d _ HX.out] at h1; simp only [Sur.nodes] at h1; show _ = _; omega
                      have hP : PrevAt x (k + 1) (some e) := .inr ⟨k, e, n, d, rfl, HX.out, rfl, All.bd hall⟩
                      subst hk1 hp1
                      obtain ⟨bb, oo, ee, nn, dd, A4, d4, hA4, hx4, j0, _, _, s4, _, _, _, _⟩ := sx3.at_ (k := k') (by omega)
                      have hee : ee = ep := by rw [hx4] at hxp; injection hxp
                      injection hA4 with hA4
                      injection hA4 with hA4 hA5
                      subst hee hA4 hA5
                      have hlp3 : pb < w3.heap.size := World.block_lt_of_cell? w3 ⟨pb, po, none⟩ p3
                      have hlb3 : b < w3.heap.size := World.block_lt_of_cell? w3 ⟨b, o + k' * 3, none⟩ j0
                      have habe := All.bd hall
                      have hxe := Sur.nodes_drop hx4
                      have hd00 : decide ((0 : Int) < (k' : Int) + 1) = true := by simp only [decide_eq_true_eq]; omega
                      have hnw : IntKind.i64.wrap ((k' : Int) + 1 - 1) = (k' : Int) := by rw [IntWalk.i64_in _ (by omega)]; omega
                      have hnw2 : IntKind.i64.wrap (k' : Int) = (k' : Int) := IntWalk.i64_in _ (by omega)
                      have hi1 : (0 : Int) ≤ (k' : Int) := by omega
                      have hi2 : (k' : Int) < (x.len : Int) := by omega
                      clear hst2 hm3 hf hs hn0 hx4 hxp
                      go_wp2_with fail
                      go_region_held3 (fun w' => w'.cell? ⟨pb, po, none⟩ = some (.slice (some ⟨b, o, none⟩) x.len c) ∧ w'.cell? ⟨b, o + k' * 3, none⟩ = some (.slice A4 ee.len d4) ∧ w'.cell? ⟨b, o + (k' + 1) * 3, none⟩ = some (.slice A1 e.len d1)) (go_keep)
                        (first | (go_at_call 49; refine (order_any _ ee e X X _ _ _ _ _ (Nat.le_refl _) hab habe (s4.below (by go_grown)) (se3.below (by go_grown))).mono ?_; rintro e4 w4 ⟨rfl, hb4⟩; have u1 := (hb4.cell (p := ⟨pb, po, none⟩) hlp3).trans p3; have u2 := (hb4.cell (p := ⟨b, o + k' * 3, none⟩) hlb3).trans j0; have u3 := (hb4.cell (p := ⟨b, o + (k' + 1) * 3, none⟩) hlb3).trans g30))
                      clear hnw hnw2
                      have hszB : w.heap.size ≤ w3.heap.size := by simpa using hB3.size
                      have hB4 : Below w.heap.size (w.setCell ⟨qb, 0, none⟩ (.int .i64 m3)) w4 := hB3.trans (Below.call (w := w3) (by go_grown) (by go_size) hb4)
                      by_cases ho : 0 < order ee e
                      · have ho2 : decide (order ee e ≤ 0) = false := by simp; omega
                        have HS3 := Lib.hid (show sOk deep cnt x = sRest deep m3 (some e) (x.drop (k' + 1 + 1)) by rw [HS2.out]; simp [prevOk, ho])
                        clear ho2
                        go_wp2
                        exact ⟨⟨k' + 1 + 1, m3, some e, by go_num, by omega, by omega, by omega, Hm3, hP, HS3, hB4⟩, by simp [intOf]; omega⟩
                      · have ho2 : decide (order ee e ≤ 0) = true := by simp; omega
                        have HF := Lib.hid (show sOk deep cnt x = false by rw [HS2.out]; simp [prevOk, ho])
                        clear ho2
                        go_wp2
                        go_ret
                        exact ⟨m3, by rw [HF.out]; rfl, by omega, by omega, noCnt HF.out, hB4⟩
            · have HF := Lib.hid (show sOk deep cnt x = false by rw [HST.out]; simp [hm])
              have hB2 := q_again (m' := .int .i64 (m + 1)) (Nat.le_refl _) hB (Below.refl w.heap.size _)
              go_wp2
              go_ret
              exact ⟨m + 1, by rw [HF.out]; rfl, by omega, by omega, noCnt HF.out, hB2⟩
          · have hfin : sOk deep cnt x = true := by rw [HS.out, x.drop_of_ge k (by omega), sRest_nil]; simp [hm1]
            have HF := Lib.hid hfin
            have Hm3 : Hid (sOk deep cnt x = true → m = cnt + x.nodes) := fun _ => by have := Hm.out; rw [x.take_of_ge k (by omega)] at this; exact this
            clear hfin
            go_wp2
            go_ret
            exact ⟨m, by rw [HF.out]; rfl, by omega, by omega, Hm3, hB⟩
      · have HF := Lib.hid (show sOk deep cnt x = false by rw [hR.out]; have := x.nodes_pos; simp [sRest]; intro _ h; omega)
        go_enter Tryz.func81, Tryz.ntmps81
        go_wp2
        go_ret
        exact ⟨cnt + 1, by rw [HF.out]; rfl, by omega, by omega, noCnt HF.out, Below.refl _ _⟩
    · have HF := Lib.hid (show sOk deep cnt x = false by rw [hR.out]; simp [hd])
      go_enter Tryz.func81, Tryz.ntmps81
      go_wp2
      all_goals
        go_ret
        exact ⟨cnt + 1, by rw [HF.out]; rfl, by omega, by omega, noCnt HF.out, Below.refl _ _⟩

/-- right numbers -/
def sGood (x : Sur) : Bool := sOk 0 0 x

set_option maxHeartbeats 400000 in
theorem IsSurreal_any (x : Sur) (X : Nat → Prop) (A : Option Addr) (c : Nat) (w : World) (sx : SSl X w x A c) :
    Calls Tryz.prog 29 #[.agg #[.slice A x.len c]] w fun e w' => e = .returned (.bool (sGood x)) ∧ Below w.heap.size w w' := by
  have kx := (Blk.new w 26 #[.slice A x.len c]).alloc (.cells #[.int .i64 0] 3)
  have kq := Blk.new' (g := w.heap.size + 1) (w.alloc (.cells #[.slice A x.len c] 26)) 3 #[.int .i64 0] (by simp)
  have sx2 := (sx.more (Y := fun k => k = w.heap.size + 1) (fun k hk hlt => by omega)).below (by go_grown : Below w.heap.size w ((w.alloc (.cells #[.slice A x.len c] 26)).alloc (.cells #[.int .i64 0] 3)))
  obtain ⟨q0, qf0⟩ := kq.c1
  obtain ⟨p0, pf0⟩ := kx.c1
  go_enter Tryz.func29, Tryz.ntmps29
  go_wp2_with fail
  refine (surrealAt_any x.nodes x _ A c w.heap.size 0 (w.heap.size + 1) 0 0 _ (Nat.le_refl _) sx2 rfl (by omega) p0 q0 qf0 (by omega) (by omega) (by omega) (by omega)).mono ?_
  rintro e w1 ⟨m, rfl, _, _, _, hb⟩
  go_wp2
  go_ret
  exact ⟨rfl, Below.call (W := ((w.alloc (.cells #[.slice A x.len c] 26)).alloc (.cells #[.int .i64 0] 3)).setCell ⟨w.heap.size + 1, 0, none⟩ (.int .i64 m)) (by go_grown) (by go_size) (by rw [World.size_setCell]; exact hb)⟩
end Go.Proofs.YtonlfnbjbmgegaaGreat
