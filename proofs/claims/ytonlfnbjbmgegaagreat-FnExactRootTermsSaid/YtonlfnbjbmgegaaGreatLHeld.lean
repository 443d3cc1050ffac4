/-
  Walks, the laws' side: marks are read back.
-/
import Derived.Test.YtonlfnbjbmgegaaGreatLMark
namespace Go.Proofs.YtonlfnbjbmgegaaGreat
open Go.RowKit
set_option linter.unusedSimpArgs false
set_option linter.unusedVariables false

theorem Only.alloc (bs : List Nat) (w : World) (o : Obj) : Only bs w (w.alloc o) :=
  ⟨rfl, rfl, rfl, by simp, fun j hj _ => Below.heap_alloc w o j hj⟩

set_option maxHeartbeats 400000 in
theorem markSurreal_any (x : Sur) (A : Option Addr) (c : Nat) (bs : List Nat) (k : Int) (w : World) (sx : STree w x A c bs) (hnd : bs.Nodup) (hk : 0 ≤ k) (hk1 : k + 2 * x.total ≤ 1099511627776) :
    Calls Tryz.prog 21 #[.agg #[.slice A x.len c], .int .i64 k] w (RetMk w x A c bs k) := by
  have k0 := (Blk.new w 26 #[.slice A x.len c])
  have hB0 : Below w.heap.size w (w.alloc (.cells #[.slice A x.len c] 26)) := by go_grown
  go_enter Tryz.func21, Tryz.ntmps21
  go_wp2_with fail
  refine (markTermS_any _ x A c bs k _ (Nat.le_refl _) (sx.below (by go_grown)) hnd hk hk1).mono ?_
  rintro e1 w1 ⟨rfl, x', hl, hm, ht, hO⟩
  go_wp2
  go_ret
  exact ⟨rfl, x', hl, hm, ht, (Only.alloc bs w _).trans hO⟩

set_option maxHeartbeats 1600000 in
set_option maxRecDepth 100000 in
theorem heldTermS_any (N : Nat) : ∀ (x : Sur) (X : Nat → Prop) (A : Option Addr) (c : Nat) (k k' : Int) (w : World), x.nodes ≤ N → SSl X w x A c → Mk x k k' → 0 ≤ k → k' ≤ 1099511627776 →
    Calls Tryz.prog 67 #[.slice A x.len c, .int .i64 k] w fun e w' => e = .returned (.int .i64 k') ∧ Below w.heap.size w w' := by
  induction N with
  | zero => intro x X A c k k' w hN; have := x.len_lt_nodes; omega
  | succ N ih =>
    intro x X A c k k' w hN sx hmk hk0 hk1
    have IH := Lib.hid ih; clear ih
    have lx := sx.cap
    have lx' := sx.le
    unfold maxLen at lx
    have HMK := Lib.hid hmk
    clear hmk
    go_enter Tryz.func67, Tryz.ntmps67
    go_wp2
    go_loopw [1, 5] (fun s t wr => ∃ (i : Nat) (kk : Int), s = .int .i64 kk ∧ t = .int .i64 i ∧ i ≤ x.len ∧ 0 ≤ kk ∧ Hid (Mk (x.drop i) kk k') ∧ Below w.heap.size w wr) (fun _ t _ => x.len - (intOf t).toNat)
    case atStart => exact ⟨0, k, rfl, rfl, Nat.zero_le _, hk0, HMK, Below.refl _ _⟩
    case round =>
      obtain ⟨i, kk, rfl, rfl, hi, hkk0, HM, hB⟩ := hrel
      have hi0' : (0 : Int) ≤ (i : Int) := by omega
      by_cases h1 : i < x.len
      · obtain ⟨b, o, e, n, d, A1, d1, rfl, hx, f0, f1, f2, se, _, _, _, hbl⟩ := (sx.below hB).at_ h1
        have hmm := HM.out
        rw [hx] at hmm
        obtain ⟨k1, me, rfl, rfl, mr⟩ := hmm
        have hne := Sur.nodes_drop hx
        have h01 := me.le
        have h12 := mr.le
        have HR := Lib.hid mr
        have HE := Lib.hid me
        clear hx mr me HM
        have hn1 : ¬ n < 0 := by omega
        go_wp2_with fail
        refine (IH.out e _ A1 d1 kk n _ (by omega) se HE.out hkk0 (by omega)).mono ?_
        rintro e1 w1 ⟨rfl, hb1⟩
        have hB1 : Below w.heap.size w w1 := hB.trans (hb1.mono hB.size)
        have g1 := cell_call (Below.refl _ _) hb1 f1
        have g2 := cell_call (Below.refl _ _) hb1 f2
        go_wp2
        exact ⟨⟨i + 1, n + 2, by first | rfl | (congr 1; omega) | go_num, by go_num, by omega, by omega, HR, hB1⟩, by simp [intOf]; omega⟩
      · obtain rfl : i = x.len := by omega
        have hfin : k' = kk := by have := HM.out; rw [x.drop_of_ge x.len (Nat.le_refl _)] at this; exact this
        have HF := Lib.hid hfin
        clear hfin
        go_wp2
        go_ret
        exact ⟨by rw [HF.out]; rfl, hB⟩
set_option maxHeartbeats 400000 in
theorem heldSurreal_any (x : Sur) (X : Nat → Prop) (A : Option Addr) (c : Nat) (k k' : Int) (w : World) (sx : SSl X w x A c) (hm : Mk x k k') (hk : 0 ≤ k) (hk1 : k' ≤ 1099511627776) :
    Calls Tryz.prog 22 #[.agg #[.slice A x.len c], .int .i64 k] w fun e w' => e = .returned (.int .i64 k') ∧ Below w.heap.size w w' := by
  have hle := hm.le
  have k0 := (Blk.new w 26 #[.slice A x.len c])
  have hB0 : Below w.heap.size w (w.alloc (.cells #[.slice A x.len c] 26)) := by go_grown
  go_enter Tryz.func22, Tryz.ntmps22
  go_wp2_with fail
  refine (heldTermS_any _ x _ A c k k' _ (Nat.le_refl _) (sx.below hB0) hm hk hk1).mono ?_
  rintro e1 w1 ⟨rfl, hb1⟩
  have hn : ¬ k' < 0 := by omega
  go_wp2
  go_ret
  exact ⟨rfl, Below.call hB0 (by go_size) hb1⟩
end Go.Proofs.YtonlfnbjbmgegaaGreat
