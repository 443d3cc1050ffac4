/-
  The laws' side: bounds of the inputs; equal numbers are the same.
-/
import Derived.Test.YtonlfnbjbmgegaaGreatBG
namespace Go.Proofs.YtonlfnbjbmgegaaGreat
open Go.RowKit
open List renaming getElem_toArray → zp1, getElem_cons_zero → zp2, getElem_cons_succ → zp3, setIfInBounds_toArray → zp4, set_cons_zero → zp5, set_cons_succ → zp6
set_option linter.unusedSimpArgs false
set_option linter.unusedVariables false

/-- whether the inputs are too long -/
def RetBig (n m : Nat) (w : World) (e : Ending) (w' : World) : Prop := (∃ b : Bool, e = .returned (.bool b) ∧ (b = false → n ≤ 1048576 ∧ m ≤ 1048576)) ∧ w' = w
attribute [local go_sem high] has_cell has_frozen
set_option maxHeartbeats 800000 in
theorem big_any (A B : Option Addr) (n m c d : Nat) (w : World) (hn : n ≤ maxLen) (hm : m ≤ maxLen) :
    Calls Tryz.prog 5 #[.slice A n c, .slice B m d] w (RetBig n m w) := by
  unfold maxLen at hn hm
  by_cases h1 : 1048576 < n
  · go_enter Tryz.func5, Tryz.ntmps5
    have h1' : (1048576 : Int) < (n : Int) := by omega
    go_wp2
    refine bodyPost_ret (v := .bool true) (by simp [results, Tryz.results5, go_sem]) rfl ?_
    exact ⟨⟨true, rfl, fun h => by cases h⟩, rfl⟩
  · have h1' : ¬ (1048576 : Int) < (n : Int) := by omega
    by_cases h2 : 1048576 < m + n
    · go_enter Tryz.func5, Tryz.ntmps5
      have h2' : (1048576 : Int) - n < (m : Int) := by omega
      go_wp2
      refine bodyPost_ret (v := .bool true) (by simp [results, Tryz.results5, go_sem]) rfl ?_
      exact ⟨⟨true, rfl, fun h => by cases h⟩, rfl⟩
    · go_enter Tryz.func5, Tryz.ntmps5
      have h2' : ¬ (1048576 : Int) - n < (m : Int) := by omega
      go_wp2
      refine bodyPost_ret (v := .bool false) (by simp [results, Tryz.results5, go_sem]) rfl ?_
      exact ⟨⟨false, rfl, fun _ => by omega⟩, rfl⟩

set_option maxHeartbeats 1600000 in
set_option maxRecDepth 100000 in
theorem same_any (N : Nat) : ∀ (x : Sur) (X Y : Nat → Prop) (A A' : Option Addr) (c c' : Nat) (w : World), x.nodes ≤ N → SSl X w x A c → SSl Y w x A' c' →
    Calls Tryz.prog 9 #[.agg #[.slice A x.len c], .agg #[.slice A' x.len c']] w fun e w' => e = .returned (.bool true) ∧ Below w.heap.size w w' := by
  induction N with
  | zero => intro x X Y A A' c c' w hN; have := x.len_lt_nodes; omega
  | succ N ih =>
    intro x X Y A A' c c' w hN sx sy
    have IH := Lib.hid ih; clear ih
    have lx := sx.cap
    have lx' := sx.le
    have ly := sy.cap
    have ly' := sy.le
    unfold maxLen at lx ly
    haveI ix := Tr.arg sx
    haveI iy := Tr.arg sy
    clear sx sy
    go_enter Tryz.func9, Tryz.ntmps9
    go_wp2_with (first | ((with_reducible refine at_dst (N := 2) rfl ?_); refine ev_box (cs := #[.slice A x.len c]) (t := 26) rfl ?hr2 ?_; (case hr2 => first | (go_simp; done) | (go_simp; rfl)); intro g2 v2 _ _ _ _) | ((with_reducible refine at_dst (N := 3) rfl ?_); refine ev_box (cs := #[.slice A' x.len c']) (t := 26) rfl ?hr3 ?_; (case hr3 => first | (go_simp; done) | (go_simp; rfl)); intro g3 v3 _ _ _ _))
    haveI ix3 : Tr v3 A _ x c := inferInstance
    haveI iy3 : Tr v3 A' _ x c' := inferInstance
    clear ix iy
    go_loopw [17] (fun s wr => ∃ k : Nat, s = .int .i64 k ∧ k ≤ x.len ∧ Kp v3 XN wr ∧ Tr wr A (XV w X) x c ∧ Tr wr A' (XV w Y) x c') (fun s _ => x.len - (intOf s).toNat)
    case atStart => exact ⟨0, rfl, Nat.zero_le _, kp _ _ _, ix3, iy3⟩
    case round =>
      obtain ⟨k, rfl, hkx, _, ix4, iy4⟩ := hrel
      clear ix3 iy3
      have hk0' : (0 : Int) ≤ (k : Int) := by omega
      by_cases h1 : k < x.len
      · obtain ⟨b, o, e, n, d, A1, d1, rfl, hxk, f0, f1, f2, se, _, _, _, hbl⟩ := ix4.h.at_ h1
        haveI := Tr.arg se
        clear se
        have h1' : (k : Int) < (x.len : Int) := by omega
        obtain ⟨b', o', e', n', d', A2, d2, rfl, hyk, q0, q1, q2, se', _, _, _, hbl'⟩ := iy4.h.at_ h1
        rw [hxk] at hyk
        injection hyk with he1 hn1 hd1
        subst he1 hn1 hd1
        haveI := Tr.arg se'
        clear se'
        have hne := Sur.nodes_drop hxk
        clear hxk
        go_wp2_with (first | ((with_reducible refine at_dst (N := 6) rfl ?_); refine ev_box (cs := #[.slice none 0 0, .int .i64 0, .int .i64 0]) (t := 70) rfl ?hr6 ?_; (case hr6 => first | (go_simp; done) | (go_simp; rfl)); intro g6 v6 _ _ _ _))
        have Q0 : ∀ W, Ext wr W → W.cell? ⟨b', o' + k * 3, none⟩ = some (.slice A2 e.len d2) := fun W h => ((h.h).cell hbl').trans q0
        have Q1 : ∀ W, Ext wr W → W.cell? ⟨b', o' + k * 3 + 1, none⟩ = some (.int .i64 n) := fun W h => ((h.h).cell hbl').trans q1
        have Q2 : ∀ W, Ext wr W → W.cell? ⟨b', o' + k * 3 + 2, none⟩ = some (.int .i64 d) := fun W h => ((h.h).cell hbl').trans q2
        refine wp_region_held_drew (S := (fun w' => w'.cell? ⟨g6, 0, none⟩ = some (.slice A1 e.len d1) ∧ w'.cell? ⟨g6, 1, none⟩ = some (.int .i64 n) ∧ w'.cell? ⟨g6, 2, none⟩ = some (.int .i64 d) ∧ w'.cell? ⟨g3, 0, none⟩ = some (.slice (some ⟨b', o', none⟩) x.len c') ∧ w'.cell? ⟨b', o' + k * 3, none⟩ = some (.slice A2 e.len d2) ∧ w'.cell? ⟨b', o' + k * 3 + 1, none⟩ = some (.int .i64 n) ∧ w'.cell? ⟨b', o' + k * 3 + 2, none⟩ = some (.int .i64 d))) (by kernel_rfl) ?hSn1_ (fun hHeld => ?hRn1_)
        case hSn1_ => (exact ⟨has3.1, has3.2.1, has3.2.2, has1, Q0 _ inferInstance, Q1 _ inferInstance, Q2 _ inferInstance⟩)
        refine wpAnyH_take (i := 0) (v := ?vn1_1) rfl (by kernel_rfl) (by kernel_rfl) (by kernel_rfl) (fun _ _ _ h => h) (Or.inl ⟨by rfl, ?hyn1_1⟩) (by assumption) ?hRn1_1
        case hyn1_1 => (intro w hSw; (try dsimp only at hSw); go_simp; (try with_reducible rfl))
        try simp only [Act.put, zp1, zp2, zp3, zp4, zp5, zp6]
        refine wpAnyH_take (i := 1) (v := ?vn1_2) rfl (by kernel_rfl) (by kernel_rfl) (by kernel_rfl) (fun _ _ _ h => h) (Or.inl ⟨by rfl, ?hyn1_2⟩) (by assumption) ?hRn1_2
        case hyn1_2 => (intro w hSw; (try dsimp only at hSw); go_simp; (try with_reducible rfl))
        try simp only [Act.put, zp1, zp2, zp3, zp4, zp5, zp6]
        refine wpAnyH_take (i := 2) (v := ?vn1_3) rfl (by kernel_rfl) (by kernel_rfl) (by kernel_rfl) (fun _ _ _ h => h) (Or.inl ⟨by rfl, ?hyn1_3⟩) (by assumption) ?hRn1_3
        case hyn1_3 => (intro w hSw; (try dsimp only at hSw); go_simp; (try with_reducible rfl))
        try simp only [Act.put, zp1, zp2, zp3, zp4, zp5, zp6]
        refine wpAnyH_take (i := 3) (v := ?vn1_4) rfl (by kernel_rfl) (by kernel_rfl) (by kernel_rfl) (fun _ _ _ h => h) (Or.inl ⟨by rfl, ?hyn1_4⟩) (by assumption) ?hRn1_4
        case hyn1_4 => (intro w hSw; (try dsimp only at hSw); go_simp; (try with_reducible rfl))
        try simp only [Act.put, zp1, zp2, zp3, zp4, zp5, zp6]
        refine wpAnyH_take (i := 4) (v := ?vn1_5) rfl (by kernel_rfl) (by kernel_rfl) (by kernel_rfl) (fun _ _ _ h => h) (Or.inl ⟨by rfl, ?hyn1_5⟩) (by assumption) ?hRn1_5
        case hyn1_5 => (intro w hSw; (try dsimp only at hSw); go_simp; (try with_reducible rfl))
        try simp only [Act.put, zp1, zp2, zp3, zp4, zp5, zp6]
        refine wpAnyH_take (i := 5) (v := ?vn1_6) rfl (by kernel_rfl) (by kernel_rfl) (by kernel_rfl) (fun _ _ _ h => h) (Or.inl ⟨by rfl, ?hyn1_6⟩) (by assumption) ?hRn1_6
        case hyn1_6 => (intro w hSw; (try dsimp only at hSw); go_simp; (try with_reducible rfl))
        try simp only [Act.put, zp1, zp2, zp3, zp4, zp5, zp6]
        refine wpAnyH_take (i := 6) (v := ?vn1_7) rfl (by kernel_rfl) (by kernel_rfl) (by kernel_rfl) (fun _ _ _ h => h) (Or.inl ⟨by rfl, ?hyn1_7⟩) (by assumption) ?hRn1_7
        case hyn1_7 => (intro w hSw; (try dsimp only at hSw); go_simp; (try with_reducible rfl))
        try simp only [Act.put, zp1, zp2, zp3, zp4, zp5, zp6]
        refine wpAnyH_take (i := 7) (v := ?vn1_8) rfl (by kernel_rfl) (by kernel_rfl) (by kernel_rfl) (fun _ _ _ h => h) (Or.inl ⟨by rfl, ?hyn1_8⟩) (by assumption) ?hRn1_8
        case hyn1_8 => (intro w hSw; (try dsimp only at hSw); go_simp; (try with_reducible rfl))
        try simp only [Act.put, zp1, zp2, zp3, zp4, zp5, zp6]
        refine wpAnyH_take (i := 8) (v := ?vn1_9) rfl (by kernel_rfl) (by kernel_rfl) (by kernel_rfl) (fun _ _ _ h => h) (Or.inl ⟨by rfl, ?hyn1_9⟩) (by assumption) ?hRn1_9
        case hyn1_9 => (intro w hSw; (try dsimp only at hSw); go_simp; (try with_reducible rfl))
        try simp only [Act.put, zp1, zp2, zp3, zp4, zp5, zp6]
        refine wpAnyH_take (i := 9) (v := ?vn1_10) rfl (by kernel_rfl) (by kernel_rfl) (by kernel_rfl) (fun _ _ _ h => h) (Or.inl ⟨by rfl, ?hyn1_10⟩) (by assumption) ?hRn1_10
        case hyn1_10 => (intro w hSw; (try dsimp only at hSw); go_simp; (try with_reducible rfl))
        try simp only [Act.put, zp1, zp2, zp3, zp4, zp5, zp6]
        refine wpAnyH_take (i := 10) (v := ?vn1_11) rfl (by kernel_rfl) (by kernel_rfl) (by kernel_rfl) (fun _ _ _ h => h) (Or.inl ⟨by rfl, ?hyn1_11⟩) (by assumption) ?hRn1_11
        case hyn1_11 => (intro w hSw; (try dsimp only at hSw); go_simp; (try with_reducible rfl))
        try simp only [Act.put, zp1, zp2, zp3, zp4, zp5, zp6]
        refine wpAnyH_take (i := 11) (v := ?vn1_12) rfl (by kernel_rfl) (by kernel_rfl) (by kernel_rfl) (fun _ _ _ h => h) (Or.inl ⟨by rfl, ?hyn1_12⟩) (by assumption) ?hRn1_12
        case hyn1_12 => (intro w hSw; (try dsimp only at hSw); go_simp; (try with_reducible rfl))
        try simp only [Act.put, zp1, zp2, zp3, zp4, zp5, zp6]
        refine wpAnyH_take (i := 12) (v := ?vn1_13) rfl (by kernel_rfl) (by kernel_rfl) (by kernel_rfl) (fun _ _ _ h => h) (Or.inl ⟨by rfl, ?hyn1_13⟩) (by assumption) ?hRn1_13
        case hyn1_13 => (intro w hSw; (try dsimp only at hSw); go_simp; (try with_reducible rfl))
        try simp only [Act.put, zp1, zp2, zp3, zp4, zp5, zp6]
        refine wpAnyH_take (i := 13) (v := ?vn1_14) rfl (by kernel_rfl) (by kernel_rfl) (by kernel_rfl) (fun _ _ _ h => h) (Or.inl ⟨by rfl, ?hyn1_14⟩) (by assumption) ?hRn1_14
        case hyn1_14 => (intro w hSw; (try dsimp only at hSw); go_simp; (try with_reducible rfl))
        try simp only [Act.put, zp1, zp2, zp3, zp4, zp5, zp6]
        refine wpAnyH_take (i := 14) (v := ?vn1_15) rfl (by kernel_rfl) (by kernel_rfl) (by kernel_rfl) (fun _ _ _ h => h) (Or.inl ⟨by rfl, ?hyn1_15⟩) (by assumption) ?hRn1_15
        case hyn1_15 => (intro w hSw; (try dsimp only at hSw); go_simp; (try with_reducible rfl))
        try simp only [Act.put, zp1, zp2, zp3, zp4, zp5, zp6]
        refine wpAnyH_take (i := 15) (v := ?vn1_16) rfl (by kernel_rfl) (by kernel_rfl) (by kernel_rfl) (fun _ _ _ h => h) (Or.inl ⟨by rfl, ?hyn1_16⟩) (by assumption) ?hRn1_16
        case hyn1_16 => (intro w hSw; (try dsimp only at hSw); go_simp; (try with_reducible rfl))
        try simp only [Act.put, zp1, zp2, zp3, zp4, zp5, zp6]
        refine wpAnyH_take (i := 16) (v := ?vn1_17) rfl (by kernel_rfl) (by kernel_rfl) (by kernel_rfl) (fun _ _ _ h => h) (Or.inl ⟨by rfl, ?hyn1_17⟩) (by assumption) ?hRn1_17
        case hyn1_17 => (intro w hSw; (try dsimp only at hSw); go_simp; (try with_reducible rfl))
        try simp only [Act.put, zp1, zp2, zp3, zp4, zp5, zp6]
        refine wpAnyH_take (i := 17) (v := ?vn1_18) rfl (by kernel_rfl) (by kernel_rfl) (by kernel_rfl) (fun _ _ _ h => h) (Or.inl ⟨by rfl, ?hyn1_18⟩) (by assumption) ?hRn1_18
        case hyn1_18 => (intro w hSw; (try dsimp only at hSw); go_simp; (try with_reducible rfl))
        try simp only [Act.put, zp1, zp2, zp3, zp4, zp5, zp6]
        refine wpAnyH_ready (rs := [18]) (by kernel_rfl) (by simp) ?_
        refine AllReadyH.cons rfl (fun K hK => ?_) AllReadyH.nil
        go_simp
        (go_at_call 9; refine (IH.out e _ _ A1 A2 d1 d2 _ (by omega) (tr _ A1) (tr _ A2)).mono ?_; rintro e40 w40 ⟨rfl, hb⟩; haveI : Bel _ w40 := ⟨hb⟩; clear hb)
        go_wp2_with fail
        refine hK.out _ _ ?hSn1_19 (fun hHeld => ?hRn1_19)
        case hSn1_19 => ((try dsimp only); exact ⟨has3.1, has3.2.1, has3.2.2, has1, Q0 _ inferInstance, Q1 _ inferInstance, Q2 _ inferInstance⟩)
        clear hK K
        try simp only [Act.put, zp1, zp2, zp3, zp4, zp5, zp6]
        refine wpAnyH_take (i := 19) (v := ?vn1_20) rfl (by kernel_rfl) (by kernel_rfl) (by kernel_rfl) (fun _ _ _ h => h) (Or.inl ⟨by rfl, ?hyn1_20⟩) (by assumption) ?hRn1_20
        case hyn1_20 => (intro w hSw; (try dsimp only at hSw); go_simp; (try with_reducible rfl))
        try simp only [Act.put, zp1, zp2, zp3, zp4, zp5, zp6]
        refine wpAnyH_take (i := 20) (v := ?vn1_21) rfl (by kernel_rfl) (by kernel_rfl) (by kernel_rfl) (fun _ _ _ h => h) (Or.inl ⟨by rfl, ?hyn1_21⟩) (by assumption) ?hRn1_21
        case hyn1_21 => (intro w hSw; (try dsimp only at hSw); go_simp; (try with_reducible rfl))
        try simp only [Act.put, zp1, zp2, zp3, zp4, zp5, zp6]
        refine wpAnyH_done (by kernel_rfl) ?_ _
        go_wp2
        exact ⟨⟨k + 1, by go_num, by omega, kp _ _ _, inferInstance, inferInstance⟩, by simp [intOf]; omega⟩
      · obtain rfl : k = x.len := by omega
        go_wp2
        go_ret
        exact ⟨rfl, ext _ _⟩
end Go.Proofs.YtonlfnbjbmgegaaGreat
