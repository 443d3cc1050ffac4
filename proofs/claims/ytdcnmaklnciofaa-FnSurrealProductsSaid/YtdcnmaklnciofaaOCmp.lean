/-
  Walks, the reference's side: ordinals: one term, the order.
-/
import Derived.Test.YtdcnmaklnciofaaOLZ
import Derived.Test.YtdcnmaklnciofaaSFrac
namespace Go.Proofs.Ytdcnmaklnciofaa
open Go.RowKit
set_option linter.unusedSimpArgs false
set_option linter.unusedVariables false

def RetO (X : Nat → Prop) (w : World) (x : Ord) (e : Ending) (w' : World) : Prop :=
  ∃ A c, e = .returned (.agg #[.slice A x.len c]) ∧ OSl X w' x A c ∧ Below w.heap.size w w'
/-- one term; none for the count 0 -/
def otermP (e : Ord) (n : Int) : Ord := if n = 0 then .nil else .cons e n .nil

attribute [local go_sem high] has_cell has_frozen
set_option maxHeartbeats 800000 in
theorem odTerm_any (x : Ord) (n : Int) (X : Nat → Prop) (A : Option Addr) (c : Nat) (w : World) (hX : ∀ k, X k → k < w.heap.size) (sx : OSl X w x A c) (in_ : I64 n) :
    Calls Try.prog 137 #[.agg #[.slice A x.len c], .int .i64 n] w (RetO X w (otermP x n)) := by
  haveI := OT.arg sx
  clear sx
  by_cases hn : n = 0
  · subst hn
    go_enter Try.func137, Try.ntmps137
    go_wp2_with (first | ((with_reducible refine at_dst (N := 2) rfl ?_); refine ev_box (cs := #[.slice A x.len c]) (t := 90) rfl ?hr2 ?_; (case hr2 => first | (go_simp; done) | (go_simp; rfl)); intro g2 v2 _ _ _ _) | ((with_reducible refine at_dst (N := 4) rfl ?_); refine ev_box (cs := #[.slice none 0 0]) (t := 90) rfl ?hr4 ?_; (case hr4 => first | (go_simp; done) | (go_simp; rfl)); intro g4 v4 _ _ _ _))
    refine bodyPost_ret (v := .agg #[.slice none 0 0]) (by simp [results, Try.results137, go_sem]) rfl ?_
    exact ⟨none, 0, rfl, OSl.nil _ _, ext _ _⟩
  · have H := Lib.hid (show otermP x n = .cons x n .nil by simp [otermP, hn])
    go_enter Try.func137, Try.ntmps137
    go_wp2_with (first | ((with_reducible refine at_dst (N := 2) rfl ?_); refine ev_box (cs := #[.slice A x.len c]) (t := 90) rfl ?hr2 ?_; (case hr2 => first | (go_simp; done) | (go_simp; rfl)); intro g2 v2 _ _ _ _) | ((with_reducible refine at_dst (N := 4) rfl ?_); refine ev_box (cs := #[.slice none 0 0]) (t := 90) rfl ?hr4 ?_; (case hr4 => first | (go_simp; done) | (go_simp; rfl)); intro g4 v4 _ _ _ _) | ((with_reducible refine at_dst (N := 11) rfl ?_); refine ev_sl (cs := #[.slice A x.len c, .int .i64 n]) (t := 116) rfl ?hr11 ?_; (case hr11 => first | (go_simp; done) | (go_simp; rfl)); intro g11 v11 _ _ _ _))
    refine bodyPost_ret (v := .agg #[.slice (some ⟨g11, 0, none⟩) 1 1]) (by simp [results, Try.results137, go_sem]) rfl ?_
    rw [H.out]
    exact ⟨some ⟨g11, 0, none⟩, 1, rfl, OSl.one (has _ g11) (otx X _ A) (fun h => by have := hX _ h; have := (inferInstance : GeB w g11).h; omega) in_, ext _ _⟩
set_option maxHeartbeats 800000 in
theorem odInt_any (n : Int) (X : Nat → Prop) (w : World) (hX : ∀ k, X k → k < w.heap.size) (in_ : I64 n) :
    Calls Try.prog 122 #[.int .i64 n] w (RetO X w (otermP .nil n)) := by
  go_enter Try.func122, Try.ntmps122
  go_wp2_with (first | ((with_reducible refine at_dst (N := 2) rfl ?_); refine ev_box (cs := #[.slice none 0 0]) (t := 90) rfl ?hr2 ?_; (case hr2 => first | (go_simp; done) | (go_simp; rfl)); intro g2 v2 _ _ _ _) | (go_at_call 137; refine (odTerm_any .nil n (XL _) none 0 _ (fun k hk => hk) (OSl.nil _ _) in_).mono ?_; rintro e5 w5 ⟨A5, c5, rfl, hs, hb⟩; haveI : Bel _ w5 := ⟨hb⟩; haveI := OT.arg hs; clear hs hb))
  refine bodyPost_ret (v := .agg #[.slice A5 (otermP .nil n).len c5]) (by simp [results, Try.results122, go_sem]) rfl ?_
  exact ⟨A5, c5, rfl, (otx (XL w) _ A5).more fun k hk _ => hX k hk, ext _ _⟩

set_option maxHeartbeats 1600000 in
set_option maxRecDepth 100000 in
theorem odCmp_any (N : Nat) : ∀ (x y : Ord) (X Y : Nat → Prop) (A A' : Option Addr) (c c' : Nat) (w : World), x.nodes ≤ N → OSl X w x A c → OSl Y w y A' c' →
    Calls Try.prog 138 #[.agg #[.slice A x.len c], .agg #[.slice A' y.len c']] w fun e w' => e = .returned (.int .i64 (ocmp x y)) ∧ Below w.heap.size w w' := by
  induction N with
  | zero => intro x y X Y A A' c c' w hN; have := x.len_lt_nodes; omega
  | succ N ih =>
    intro x y X Y A A' c c' w hN sx sy
    have IH := Lib.hid ih; clear ih
    have lx := sx.cap
    have lx' := sx.le
    have ly := sy.cap
    have ly' := sy.le
    unfold maxLen at lx ly
    haveI ix := OT.arg sx
    haveI iy := OT.arg sy
    clear sx sy
    go_enter Try.func138, Try.ntmps138
    go_wp2_with (first | ((with_reducible refine at_dst (N := 2) rfl ?_); refine ev_box (cs := #[.slice A x.len c]) (t := 90) rfl ?hr2 ?_; (case hr2 => first | (go_simp; done) | (go_simp; rfl)); intro g2 v2 _ _ _ _) | ((with_reducible refine at_dst (N := 3) rfl ?_); refine ev_box (cs := #[.slice A' y.len c']) (t := 90) rfl ?hr3 ?_; (case hr3 => first | (go_simp; done) | (go_simp; rfl)); intro g3 v3 _ _ _ _))
    haveI ix3 : OT v3 A _ x c := inferInstance
    haveI iy3 : OT v3 A' _ y c' := inferInstance
    clear ix iy
    go_loopw [11] (fun s wr => ∃ k : Nat, s = .int .i64 k ∧ k ≤ x.len ∧ k ≤ y.len ∧ Hid (ocmp x y = ocmp (x.drop k) (y.drop k)) ∧ Kp v3 XN wr ∧ OT wr A (XV w X) x c ∧ OT wr A' (XV w Y) y c') (fun s _ => x.len - (intOf s).toNat)
    case atStart => exact ⟨0, rfl, Nat.zero_le _, Nat.zero_le _, rfl, kp _ _ _, ix3, iy3⟩
    case round =>
      obtain ⟨k, rfl, hkx, hky, ho, _, ix4, iy4⟩ := hrel
      clear ix3 iy3
      have hk0' : (0 : Int) ≤ (k : Int) := by omega
      by_cases h1 : k < x.len
      · obtain ⟨b, o, e, n, A1, d1, rfl, hxk, f0, f1, se, _, _, hbl⟩ := ix4.h.at_ h1
        haveI := OT.arg se
        clear se
        have h1' : (k : Int) < (x.len : Int) := by omega
        by_cases h2 : k < y.len
        · obtain ⟨b', o', e', n', A2, d2, rfl, hyk, q0, q1, se', _, _, hbl'⟩ := iy4.h.at_ h2
          haveI := OT.arg se'
          clear se'
          have h2' : (k : Int) < (y.len : Int) := by omega
          have e2 : ((k : Int) == (y.len : Int)) = false := by simp; omega
          have HC := Lib.hid (ocmp_drop hxk hyk ho.out)
          have hne := Ord.nodes_drop hxk
          clear hxk hyk ho
          go_wp2_with (first | ((with_reducible refine at_dst (N := 6) rfl ?_); refine ev_box (cs := #[.slice none 0 0, .int .i64 0]) (t := 116) rfl ?hr6 ?_; (case hr6 => first | (go_simp; done) | (go_simp; rfl)); intro g6 v6 _ _ _ _))
          have Q0 : ∀ W, Ext wr W → W.cell? ⟨b', o' + k * 2, none⟩ = some (.slice A2 e'.len d2) := fun W h => ((h.h).cell hbl').trans q0
          have Q1 : ∀ W, Ext wr W → W.cell? ⟨b', o' + k * 2 + 1, none⟩ = some (.int .i64 n') := fun W h => ((h.h).cell hbl').trans q1
          refine wp_region_held_drew (S := (fun w' => w'.cell? ⟨g6, 0, none⟩ = some (.slice A1 e.len d1) ∧ w'.cell? ⟨g3, 0, none⟩ = some (.slice (some ⟨b', o', none⟩) y.len c') ∧ w'.cell? ⟨b', o' + k * 2, none⟩ = some (.slice A2 e'.len d2))) (by kernel_rfl) ?hSn1_ (fun hHeld => ?hRn1_)
          case hSn1_ => (exact ⟨has2.1, has1, Q0 _ inferInstance⟩)
          refine wpAnyH_take (i := 0) (oi := _) (v := ?vn1_1) rfl (by kernel_rfl) (by kernel_rfl) (by kernel_rfl) (fun _ _ _ h => h) (Or.inl ⟨by rfl, ?hyn1_1⟩) (by assumption) ?hRn1_1
          case hyn1_1 => (intro w hSw; (try dsimp only at hSw); go_simp; (try with_reducible rfl))
          try simp only [Act.put, List.getElem_toArray, List.getElem_cons_zero, List.getElem_cons_succ, List.setIfInBounds_toArray, List.set_cons_zero, List.set_cons_succ]
          refine wpAnyH_take (i := 1) (oi := _) (v := ?vn1_2) rfl (by kernel_rfl) (by kernel_rfl) (by kernel_rfl) (fun _ _ _ h => h) (Or.inl ⟨by rfl, ?hyn1_2⟩) (by assumption) ?hRn1_2
          case hyn1_2 => (intro w hSw; (try dsimp only at hSw); go_simp; (try with_reducible rfl))
          try simp only [Act.put, List.getElem_toArray, List.getElem_cons_zero, List.getElem_cons_succ, List.setIfInBounds_toArray, List.set_cons_zero, List.set_cons_succ]
          refine wpAnyH_take (i := 2) (oi := _) (v := ?vn1_3) rfl (by kernel_rfl) (by kernel_rfl) (by kernel_rfl) (fun _ _ _ h => h) (Or.inl ⟨by rfl, ?hyn1_3⟩) (by assumption) ?hRn1_3
          case hyn1_3 => (intro w hSw; (try dsimp only at hSw); go_simp; (try with_reducible rfl))
          try simp only [Act.put, List.getElem_toArray, List.getElem_cons_zero, List.getElem_cons_succ, List.setIfInBounds_toArray, List.set_cons_zero, List.set_cons_succ]
          refine wpAnyH_take (i := 3) (oi := _) (v := ?vn1_4) rfl (by kernel_rfl) (by kernel_rfl) (by kernel_rfl) (fun _ _ _ h => h) (Or.inl ⟨by rfl, ?hyn1_4⟩) (by assumption) ?hRn1_4
          case hyn1_4 => (intro w hSw; (try dsimp only at hSw); go_simp; (try with_reducible rfl))
          try simp only [Act.put, List.getElem_toArray, List.getElem_cons_zero, List.getElem_cons_succ, List.setIfInBounds_toArray, List.set_cons_zero, List.set_cons_succ]
          refine wpAnyH_take (i := 4) (oi := _) (v := ?vn1_5) rfl (by kernel_rfl) (by kernel_rfl) (by kernel_rfl) (fun _ _ _ h => h) (Or.inl ⟨by rfl, ?hyn1_5⟩) (by assumption) ?hRn1_5
          case hyn1_5 => (intro w hSw; (try dsimp only at hSw); go_simp; (try with_reducible rfl))
          try simp only [Act.put, List.getElem_toArray, List.getElem_cons_zero, List.getElem_cons_succ, List.setIfInBounds_toArray, List.set_cons_zero, List.set_cons_succ]
          refine wpAnyH_take (i := 5) (oi := _) (v := ?vn1_6) rfl (by kernel_rfl) (by kernel_rfl) (by kernel_rfl) (fun _ _ _ h => h) (Or.inl ⟨by rfl, ?hyn1_6⟩) (by assumption) ?hRn1_6
          case hyn1_6 => (intro w hSw; (try dsimp only at hSw); go_simp; (try with_reducible rfl))
          try simp only [Act.put, List.getElem_toArray, List.getElem_cons_zero, List.getElem_cons_succ, List.setIfInBounds_toArray, List.set_cons_zero, List.set_cons_succ]
          refine wpAnyH_take (i := 6) (oi := _) (v := ?vn1_7) rfl (by kernel_rfl) (by kernel_rfl) (by kernel_rfl) (fun _ _ _ h => h) (Or.inl ⟨by rfl, ?hyn1_7⟩) (by assumption) ?hRn1_7
          case hyn1_7 => (intro w hSw; (try dsimp only at hSw); go_simp; (try with_reducible rfl))
          try simp only [Act.put, List.getElem_toArray, List.getElem_cons_zero, List.getElem_cons_succ, List.setIfInBounds_toArray, List.set_cons_zero, List.set_cons_succ]
          refine wpAnyH_take (i := 7) (oi := _) (v := ?vn1_8) rfl (by kernel_rfl) (by kernel_rfl) (by kernel_rfl) (fun _ _ _ h => h) (Or.inl ⟨by rfl, ?hyn1_8⟩) (by assumption) ?hRn1_8
          case hyn1_8 => (intro w hSw; (try dsimp only at hSw); go_simp; (try with_reducible rfl))
          try simp only [Act.put, List.getElem_toArray, List.getElem_cons_zero, List.getElem_cons_succ, List.setIfInBounds_toArray, List.set_cons_zero, List.set_cons_succ]
          refine wpAnyH_ready (rs := [8]) (by kernel_rfl) (by simp) ?_
          refine AllReadyH.cons (o := _) rfl (fun K hK => ?_) AllReadyH.nil
          go_simp
          (go_at_call 138; refine (IH.out e e' _ _ A1 A2 d1 d2 _ (by omega) (otr _ A1) (otr _ A2)).mono ?_; rintro e29 w29 ⟨rfl, hb⟩; haveI : Bel _ w29 := ⟨hb⟩; clear hb)
          go_wp2_with fail
          refine hK.out _ _ ?hSn1_9 (fun hHeld => ?hRn1_9)
          case hSn1_9 => ((try dsimp only); exact ⟨has2.1, has1, Q0 _ inferInstance⟩)
          clear hK K
          try simp only [Act.put, List.getElem_toArray, List.getElem_cons_zero, List.getElem_cons_succ, List.setIfInBounds_toArray, List.set_cons_zero, List.set_cons_succ]
          refine wpAnyH_take (i := 9) (oi := _) (v := ?vn1_10) rfl (by kernel_rfl) (by kernel_rfl) (by kernel_rfl) (fun _ _ _ h => h) (Or.inl ⟨by rfl, ?hyn1_10⟩) (by assumption) ?hRn1_10
          case hyn1_10 => (intro w hSw; (try dsimp only at hSw); go_simp; (try with_reducible rfl))
          try simp only [Act.put, List.getElem_toArray, List.getElem_cons_zero, List.getElem_cons_succ, List.setIfInBounds_toArray, List.set_cons_zero, List.set_cons_succ]
          refine wpAnyH_done (by kernel_rfl) ?_ _
          rcases ocmp_range e e' with q | q | q
          · have HN := Lib.hid ((HC.out.1 (by omega)).trans q)
            simp only [q]
            clear q
            go_wp2
            go_ret
            exact ⟨by rw [HN.out]; rfl, ext _ _⟩
          · by_cases qn : n = n'
            · have HN := Lib.hid (HC.out.2.2 q qn)
              have e3 : (n != n') = false := by simp [qn]
              simp only [q]
              clear q qn
              go_wp2
              refine wp_region_held_drew (S := (fun w' => w'.cell? ⟨g6, 1, none⟩ = some (.int .i64 n) ∧ w'.cell? ⟨g3, 0, none⟩ = some (.slice (some ⟨b', o', none⟩) y.len c') ∧ w'.cell? ⟨b', o' + k * 2 + 1, none⟩ = some (.int .i64 n'))) (by kernel_rfl) ?hSn2_ (fun hHeld => ?hRn2_)
              case hSn2_ => (exact ⟨has2.2, has1, Q1 _ inferInstance⟩)
              refine wpAnyH_take (i := 0) (oi := _) (v := ?vn2_1) rfl (by kernel_rfl) (by kernel_rfl) (by kernel_rfl) (fun _ _ _ h => h) (Or.inl ⟨by rfl, ?hyn2_1⟩) (by assumption) ?hRn2_1
              case hyn2_1 => (intro w hSw; (try dsimp only at hSw); go_simp; (try with_reducible rfl))
              try simp only [Act.put, List.getElem_toArray, List.getElem_cons_zero, List.getElem_cons_succ, List.setIfInBounds_toArray, List.set_cons_zero, List.set_cons_succ]
              refine wpAnyH_take (i := 1) (oi := _) (v := ?vn2_2) rfl (by kernel_rfl) (by kernel_rfl) (by kernel_rfl) (fun _ _ _ h => h) (Or.inl ⟨by rfl, ?hyn2_2⟩) (by assumption) ?hRn2_2
              case hyn2_2 => (intro w hSw; (try dsimp only at hSw); go_simp; (try with_reducible rfl))
              try simp only [Act.put, List.getElem_toArray, List.getElem_cons_zero, List.getElem_cons_succ, List.setIfInBounds_toArray, List.set_cons_zero, List.set_cons_succ]
              refine wpAnyH_take (i := 2) (oi := _) (v := ?vn2_3) rfl (by kernel_rfl) (by kernel_rfl) (by kernel_rfl) (fun _ _ _ h => h) (Or.inl ⟨by rfl, ?hyn2_3⟩) (by assumption) ?hRn2_3
              case hyn2_3 => (intro w hSw; (try dsimp only at hSw); go_simp; (try with_reducible rfl))
              try simp only [Act.put, List.getElem_toArray, List.getElem_cons_zero, List.getElem_cons_succ, List.setIfInBounds_toArray, List.set_cons_zero, List.set_cons_succ]
              refine wpAnyH_take (i := 3) (oi := _) (v := ?vn2_4) rfl (by kernel_rfl) (by kernel_rfl) (by kernel_rfl) (fun _ _ _ h => h) (Or.inl ⟨by rfl, ?hyn2_4⟩) (by assumption) ?hRn2_4
              case hyn2_4 => (intro w hSw; (try dsimp only at hSw); go_simp; (try with_reducible rfl))
              try simp only [Act.put, List.getElem_toArray, List.getElem_cons_zero, List.getElem_cons_succ, List.setIfInBounds_toArray, List.set_cons_zero, List.set_cons_succ]
              refine wpAnyH_take (i := 4) (oi := _) (v := ?vn2_5) rfl (by kernel_rfl) (by kernel_rfl) (by kernel_rfl) (fun _ _ _ h => h) (Or.inl ⟨by rfl, ?hyn2_5⟩) (by assumption) ?hRn2_5
              case hyn2_5 => (intro w hSw; (try dsimp only at hSw); go_simp; (try with_reducible rfl))
              try simp only [Act.put, List.getElem_toArray, List.getElem_cons_zero, List.getElem_cons_succ, List.setIfInBounds_toArray, List.set_cons_zero, List.set_cons_succ]
              refine wpAnyH_take (i := 5) (oi := _) (v := ?vn2_6) rfl (by kernel_rfl) (by kernel_rfl) (by kernel_rfl) (fun _ _ _ h => h) (Or.inl ⟨by rfl, ?hyn2_6⟩) (by assumption) ?hRn2_6
              case hyn2_6 => (intro w hSw; (try dsimp only at hSw); go_simp; (try with_reducible rfl))
              try simp only [Act.put, List.getElem_toArray, List.getElem_cons_zero, List.getElem_cons_succ, List.setIfInBounds_toArray, List.set_cons_zero, List.set_cons_succ]
              refine wpAnyH_take (i := 6) (oi := _) (v := ?vn2_7) rfl (by kernel_rfl) (by kernel_rfl) (by kernel_rfl) (fun _ _ _ h => h) (Or.inl ⟨by rfl, ?hyn2_7⟩) (by assumption) ?hRn2_7
              case hyn2_7 => (intro w hSw; (try dsimp only at hSw); go_simp; (try with_reducible rfl))
              try simp only [Act.put, List.getElem_toArray, List.getElem_cons_zero, List.getElem_cons_succ, List.setIfInBounds_toArray, List.set_cons_zero, List.set_cons_succ]
              refine wpAnyH_take (i := 7) (oi := _) (v := ?vn2_8) rfl (by kernel_rfl) (by kernel_rfl) (by kernel_rfl) (fun _ _ _ h => h) (Or.inl ⟨by rfl, ?hyn2_8⟩) (by assumption) ?hRn2_8
              case hyn2_8 => (intro w hSw; (try dsimp only at hSw); go_simp; (try with_reducible rfl))
              try simp only [Act.put, List.getElem_toArray, List.getElem_cons_zero, List.getElem_cons_succ, List.setIfInBounds_toArray, List.set_cons_zero, List.set_cons_succ]
              refine wpAnyH_take (i := 8) (oi := _) (v := ?vn2_9) rfl (by kernel_rfl) (by kernel_rfl) (by kernel_rfl) (fun _ _ _ h => h) (Or.inl ⟨by rfl, ?hyn2_9⟩) (by assumption) ?hRn2_9
              case hyn2_9 => (intro w hSw; (try dsimp only at hSw); go_simp; (try with_reducible rfl))
              try simp only [Act.put, List.getElem_toArray, List.getElem_cons_zero, List.getElem_cons_succ, List.setIfInBounds_toArray, List.set_cons_zero, List.set_cons_succ]
              refine wpAnyH_done (by kernel_rfl) ?_ _
              go_wp2
              exact ⟨⟨k + 1, by go_num, by omega, by omega, HN, kp _ _ _, inferInstance, inferInstance⟩, by simp [intOf]; omega⟩
            · have HN := Lib.hid (HC.out.2.1 q qn)
              have e3 : (n != n') = true := by simpa using qn
              simp only [q]
              clear q qn
              go_wp2
              refine wp_region_held_drew (S := (fun w' => w'.cell? ⟨g6, 1, none⟩ = some (.int .i64 n) ∧ w'.cell? ⟨g3, 0, none⟩ = some (.slice (some ⟨b', o', none⟩) y.len c') ∧ w'.cell? ⟨b', o' + k * 2 + 1, none⟩ = some (.int .i64 n'))) (by kernel_rfl) ?hSn3_ (fun hHeld => ?hRn3_)
              case hSn3_ => (exact ⟨has2.2, has1, Q1 _ inferInstance⟩)
              refine wpAnyH_take (i := 0) (oi := _) (v := ?vn3_1) rfl (by kernel_rfl) (by kernel_rfl) (by kernel_rfl) (fun _ _ _ h => h) (Or.inl ⟨by rfl, ?hyn3_1⟩) (by assumption) ?hRn3_1
              case hyn3_1 => (intro w hSw; (try dsimp only at hSw); go_simp; (try with_reducible rfl))
              try simp only [Act.put, List.getElem_toArray, List.getElem_cons_zero, List.getElem_cons_succ, List.setIfInBounds_toArray, List.set_cons_zero, List.set_cons_succ]
              refine wpAnyH_take (i := 1) (oi := _) (v := ?vn3_2) rfl (by kernel_rfl) (by kernel_rfl) (by kernel_rfl) (fun _ _ _ h => h) (Or.inl ⟨by rfl, ?hyn3_2⟩) (by assumption) ?hRn3_2
              case hyn3_2 => (intro w hSw; (try dsimp only at hSw); go_simp; (try with_reducible rfl))
              try simp only [Act.put, List.getElem_toArray, List.getElem_cons_zero, List.getElem_cons_succ, List.setIfInBounds_toArray, List.set_cons_zero, List.set_cons_succ]
              refine wpAnyH_take (i := 2) (oi := _) (v := ?vn3_3) rfl (by kernel_rfl) (by kernel_rfl) (by kernel_rfl) (fun _ _ _ h => h) (Or.inl ⟨by rfl, ?hyn3_3⟩) (by assumption) ?hRn3_3
              case hyn3_3 => (intro w hSw; (try dsimp only at hSw); go_simp; (try with_reducible rfl))
              try simp only [Act.put, List.getElem_toArray, List.getElem_cons_zero, List.getElem_cons_succ, List.setIfInBounds_toArray, List.set_cons_zero, List.set_cons_succ]
              refine wpAnyH_take (i := 3) (oi := _) (v := ?vn3_4) rfl (by kernel_rfl) (by kernel_rfl) (by kernel_rfl) (fun _ _ _ h => h) (Or.inl ⟨by rfl, ?hyn3_4⟩) (by assumption) ?hRn3_4
              case hyn3_4 => (intro w hSw; (try dsimp only at hSw); go_simp; (try with_reducible rfl))
              try simp only [Act.put, List.getElem_toArray, List.getElem_cons_zero, List.getElem_cons_succ, List.setIfInBounds_toArray, List.set_cons_zero, List.set_cons_succ]
              refine wpAnyH_take (i := 4) (oi := _) (v := ?vn3_5) rfl (by kernel_rfl) (by kernel_rfl) (by kernel_rfl) (fun _ _ _ h => h) (Or.inl ⟨by rfl, ?hyn3_5⟩) (by assumption) ?hRn3_5
              case hyn3_5 => (intro w hSw; (try dsimp only at hSw); go_simp; (try with_reducible rfl))
              try simp only [Act.put, List.getElem_toArray, List.getElem_cons_zero, List.getElem_cons_succ, List.setIfInBounds_toArray, List.set_cons_zero, List.set_cons_succ]
              refine wpAnyH_take (i := 5) (oi := _) (v := ?vn3_6) rfl (by kernel_rfl) (by kernel_rfl) (by kernel_rfl) (fun _ _ _ h => h) (Or.inl ⟨by rfl, ?hyn3_6⟩) (by assumption) ?hRn3_6
              case hyn3_6 => (intro w hSw; (try dsimp only at hSw); go_simp; (try with_reducible rfl))
              try simp only [Act.put, List.getElem_toArray, List.getElem_cons_zero, List.getElem_cons_succ, List.setIfInBounds_toArray, List.set_cons_zero, List.set_cons_succ]
              refine wpAnyH_take (i := 6) (oi := _) (v := ?vn3_7) rfl (by kernel_rfl) (by kernel_rfl) (by kernel_rfl) (fun _ _ _ h => h) (Or.inl ⟨by rfl, ?hyn3_7⟩) (by assumption) ?hRn3_7
              case hyn3_7 => (intro w hSw; (try dsimp only at hSw); go_simp; (try with_reducible rfl))
              try simp only [Act.put, List.getElem_toArray, List.getElem_cons_zero, List.getElem_cons_succ, List.setIfInBounds_toArray, List.set_cons_zero, List.set_cons_succ]
              refine wpAnyH_take (i := 7) (oi := _) (v := ?vn3_8) rfl (by kernel_rfl) (by kernel_rfl) (by kernel_rfl) (fun _ _ _ h => h) (Or.inl ⟨by rfl, ?hyn3_8⟩) (by assumption) ?hRn3_8
              case hyn3_8 => (intro w hSw; (try dsimp only at hSw); go_simp; (try with_reducible rfl))
              try simp only [Act.put, List.getElem_toArray, List.getElem_cons_zero, List.getElem_cons_succ, List.setIfInBounds_toArray, List.set_cons_zero, List.set_cons_succ]
              refine wpAnyH_take (i := 8) (oi := _) (v := ?vn3_9) rfl (by kernel_rfl) (by kernel_rfl) (by kernel_rfl) (fun _ _ _ h => h) (Or.inl ⟨by rfl, ?hyn3_9⟩) (by assumption) ?hRn3_9
              case hyn3_9 => (intro w hSw; (try dsimp only at hSw); go_simp; (try with_reducible rfl))
              try simp only [Act.put, List.getElem_toArray, List.getElem_cons_zero, List.getElem_cons_succ, List.setIfInBounds_toArray, List.set_cons_zero, List.set_cons_succ]
              refine wpAnyH_done (by kernel_rfl) ?_ _
              go_wp2
              refine wp_region_held_drew (S := (fun w' => w'.cell? ⟨g6, 1, none⟩ = some (.int .i64 n) ∧ w'.cell? ⟨g3, 0, none⟩ = some (.slice (some ⟨b', o', none⟩) y.len c') ∧ w'.cell? ⟨b', o' + k * 2 + 1, none⟩ = some (.int .i64 n'))) (by kernel_rfl) ?hSn4_ (fun hHeld => ?hRn4_)
              case hSn4_ => (exact ⟨has2.2, has1, Q1 _ inferInstance⟩)
              refine wpAnyH_take (i := 0) (oi := _) (v := ?vn4_1) rfl (by kernel_rfl) (by kernel_rfl) (by kernel_rfl) (fun _ _ _ h => h) (Or.inl ⟨by rfl, ?hyn4_1⟩) (by assumption) ?hRn4_1
              case hyn4_1 => (intro w hSw; (try dsimp only at hSw); go_simp; (try with_reducible rfl))
              try simp only [Act.put, List.getElem_toArray, List.getElem_cons_zero, List.getElem_cons_succ, List.setIfInBounds_toArray, List.set_cons_zero, List.set_cons_succ]
              refine wpAnyH_take (i := 1) (oi := _) (v := ?vn4_2) rfl (by kernel_rfl) (by kernel_rfl) (by kernel_rfl) (fun _ _ _ h => h) (Or.inl ⟨by rfl, ?hyn4_2⟩) (by assumption) ?hRn4_2
              case hyn4_2 => (intro w hSw; (try dsimp only at hSw); go_simp; (try with_reducible rfl))
              try simp only [Act.put, List.getElem_toArray, List.getElem_cons_zero, List.getElem_cons_succ, List.setIfInBounds_toArray, List.set_cons_zero, List.set_cons_succ]
              refine wpAnyH_take (i := 2) (oi := _) (v := ?vn4_3) rfl (by kernel_rfl) (by kernel_rfl) (by kernel_rfl) (fun _ _ _ h => h) (Or.inl ⟨by rfl, ?hyn4_3⟩) (by assumption) ?hRn4_3
              case hyn4_3 => (intro w hSw; (try dsimp only at hSw); go_simp; (try with_reducible rfl))
              try simp only [Act.put, List.getElem_toArray, List.getElem_cons_zero, List.getElem_cons_succ, List.setIfInBounds_toArray, List.set_cons_zero, List.set_cons_succ]
              refine wpAnyH_take (i := 3) (oi := _) (v := ?vn4_4) rfl (by kernel_rfl) (by kernel_rfl) (by kernel_rfl) (fun _ _ _ h => h) (Or.inl ⟨by rfl, ?hyn4_4⟩) (by assumption) ?hRn4_4
              case hyn4_4 => (intro w hSw; (try dsimp only at hSw); go_simp; (try with_reducible rfl))
              try simp only [Act.put, List.getElem_toArray, List.getElem_cons_zero, List.getElem_cons_succ, List.setIfInBounds_toArray, List.set_cons_zero, List.set_cons_succ]
              refine wpAnyH_take (i := 4) (oi := _) (v := ?vn4_5) rfl (by kernel_rfl) (by kernel_rfl) (by kernel_rfl) (fun _ _ _ h => h) (Or.inl ⟨by rfl, ?hyn4_5⟩) (by assumption) ?hRn4_5
              case hyn4_5 => (intro w hSw; (try dsimp only at hSw); go_simp; (try with_reducible rfl))
              try simp only [Act.put, List.getElem_toArray, List.getElem_cons_zero, List.getElem_cons_succ, List.setIfInBounds_toArray, List.set_cons_zero, List.set_cons_succ]
              refine wpAnyH_take (i := 5) (oi := _) (v := ?vn4_6) rfl (by kernel_rfl) (by kernel_rfl) (by kernel_rfl) (fun _ _ _ h => h) (Or.inl ⟨by rfl, ?hyn4_6⟩) (by assumption) ?hRn4_6
              case hyn4_6 => (intro w hSw; (try dsimp only at hSw); go_simp; (try with_reducible rfl))
              try simp only [Act.put, List.getElem_toArray, List.getElem_cons_zero, List.getElem_cons_succ, List.setIfInBounds_toArray, List.set_cons_zero, List.set_cons_succ]
              refine wpAnyH_take (i := 6) (oi := _) (v := ?vn4_7) rfl (by kernel_rfl) (by kernel_rfl) (by kernel_rfl) (fun _ _ _ h => h) (Or.inl ⟨by rfl, ?hyn4_7⟩) (by assumption) ?hRn4_7
              case hyn4_7 => (intro w hSw; (try dsimp only at hSw); go_simp; (try with_reducible rfl))
              try simp only [Act.put, List.getElem_toArray, List.getElem_cons_zero, List.getElem_cons_succ, List.setIfInBounds_toArray, List.set_cons_zero, List.set_cons_succ]
              refine wpAnyH_take (i := 7) (oi := _) (v := ?vn4_8) rfl (by kernel_rfl) (by kernel_rfl) (by kernel_rfl) (fun _ _ _ h => h) (Or.inl ⟨by rfl, ?hyn4_8⟩) (by assumption) ?hRn4_8
              case hyn4_8 => (intro w hSw; (try dsimp only at hSw); go_simp; (try with_reducible rfl))
              try simp only [Act.put, List.getElem_toArray, List.getElem_cons_zero, List.getElem_cons_succ, List.setIfInBounds_toArray, List.set_cons_zero, List.set_cons_succ]
              refine wpAnyH_take (i := 8) (oi := _) (v := ?vn4_9) rfl (by kernel_rfl) (by kernel_rfl) (by kernel_rfl) (fun _ _ _ h => h) (Or.inl ⟨by rfl, ?hyn4_9⟩) (by assumption) ?hRn4_9
              case hyn4_9 => (intro w hSw; (try dsimp only at hSw); go_simp; (try with_reducible rfl))
              try simp only [Act.put, List.getElem_toArray, List.getElem_cons_zero, List.getElem_cons_succ, List.setIfInBounds_toArray, List.set_cons_zero, List.set_cons_succ]
              refine wpAnyH_ready (rs := [9]) (by kernel_rfl) (by simp) ?_
              refine AllReadyH.cons (o := _) rfl (fun K hK => ?_) AllReadyH.nil
              go_simp
              (go_at_call 136; refine (l1Sign_any _ _).mono ?_; rintro e51 w51 ⟨rfl, rfl⟩)
              go_wp2_with fail
              refine hK.out _ _ ?hSn4_10 (fun hHeld => ?hRn4_10)
              case hSn4_10 => ((try dsimp only); exact ⟨has2.2, has1, Q1 _ inferInstance⟩)
              clear hK K
              try simp only [Act.put, List.getElem_toArray, List.getElem_cons_zero, List.getElem_cons_succ, List.setIfInBounds_toArray, List.set_cons_zero, List.set_cons_succ]
              refine wpAnyH_take (i := 10) (oi := _) (v := ?vn4_11) rfl (by kernel_rfl) (by kernel_rfl) (by kernel_rfl) (fun _ _ _ h => h) (Or.inl ⟨by rfl, ?hyn4_11⟩) (by assumption) ?hRn4_11
              case hyn4_11 => (intro w hSw; (try dsimp only at hSw); go_simp; (try with_reducible rfl))
              try simp only [Act.put, List.getElem_toArray, List.getElem_cons_zero, List.getElem_cons_succ, List.setIfInBounds_toArray, List.set_cons_zero, List.set_cons_succ]
              refine wpAnyH_done (by kernel_rfl) ?_ _
              go_wp2
              go_ret
              exact ⟨by rw [HN.out]; rfl, ext _ _⟩
          · have HN := Lib.hid ((HC.out.1 (by omega)).trans q)
            simp only [q]
            clear q
            go_wp2
            go_ret
            exact ⟨by rw [HN.out]; rfl, ext _ _⟩
        · obtain rfl : k = y.len := by omega
          have HN := Lib.hid (show ocmp x y = 1 by rw [ho.out, hxk, y.drop_of_ge _ (Nat.le_refl _)]; simp [ocmp])
          clear hxk ho
          go_wp2_with (first | ((with_reducible refine at_dst (N := 6) rfl ?_); refine ev_box (cs := #[.slice none 0 0, .int .i64 0]) (t := 116) rfl ?hr6 ?_; (case hr6 => first | (go_simp; done) | (go_simp; rfl)); intro g6 v6 _ _ _ _))
          go_ret
          exact ⟨by rw [HN.out]; rfl, ext _ _⟩
      · obtain rfl : k = x.len := by omega
        by_cases h2 : x.len < y.len
        · have h2' : (x.len : Int) < (y.len : Int) := by omega
          have HN := Lib.hid (show ocmp x y = -1 by
            obtain ⟨e', n', hyk⟩ := y.drop_of_lt _ h2
            rw [ho.out, hyk, x.drop_of_ge _ (Nat.le_refl _)]; simp [ocmp])
          clear ho
          go_wp2
          go_ret
          exact ⟨by rw [HN.out]; rfl, ext _ _⟩
        · have h2' : ¬ (x.len : Int) < (y.len : Int) := by omega
          have HN := Lib.hid (show ocmp x y = 0 by rw [ho.out, x.drop_of_ge _ (Nat.le_refl _), y.drop_of_ge _ (by omega)]; simp [ocmp])
          clear ho
          go_wp2
          go_ret
          exact ⟨by rw [HN.out]; rfl, ext _ _⟩
end Go.Proofs.Ytdcnmaklnciofaa
