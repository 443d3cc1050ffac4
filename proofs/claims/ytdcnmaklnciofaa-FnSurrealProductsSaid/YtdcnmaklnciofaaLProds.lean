/-
  The law FnSurrealProducts: its walk.
-/
import Derived.Test.YtdcnmaklnciofaaSMulW
import Derived.Test.YtdcnmaklnciofaaWMul
import Derived.Test.YtdcnmaklnciofaaLSame
import Derived.Test.YtdcnmaklnciofaaSDrw
namespace Go.Proofs.Ytdcnmaklnciofaa
open Go.RowKit
set_option linter.unusedSimpArgs false
set_option linter.unusedVariables false

/-- what the law returns -/
def RetLawP (w : World) (b : Bool) (e : Ending) (w' : World) : Prop := e = .returned (.bool b) ∧ Below w.heap.size w w'
/-- a fact that simp leaves alone -/
structure HidM (x y : Sur) (o : Option Sur) : Prop where out : addS x y = o
structure GoodM (x : Sur) : Prop where out : sGood x = true
theorem sgS_bd (x : Sur) : -1 ≤ sgS x ∧ sgS x ≤ 1 := by cases x <;> simp only [sgS] <;> (try split) <;> omega
theorem sg_mul_bd (x y : Sur) : -1 ≤ sgS x * sgS y ∧ sgS x * sgS y ≤ 1 := by
  have h1 := sgS_bd x
  have h2 := sgS_bd y
  generalize sgS x = a at *
  generalize sgS y = b at *
  rcases (by omega : a = -1 ∨ a = 0 ∨ a = 1) with rfl | rfl | rfl <;> omega
/-- what a call gave: the number, and whether there is one -/
structure OptG (o : Option Sur) (z : Sur) (b : Bool) : Prop where
  hz : o.getD .nil = z
  hb : o.isSome = b
theorem optG (o : Option Sur) : ∃ z b, OptG o z b := ⟨_, _, rfl, rfl⟩
theorem OptG.some {o : Option Sur} {z : Sur} (h : OptG o z true) : o = .some z := by
  cases o with
  | none => have := h.hb; simp at this
  | some v => have := h.hz; simp at this; rw [this]
attribute [local go_sem high] has_cell has_frozen
set_option synthInstance.maxHeartbeats 2000000 in
set_option synthInstance.maxSize 4000 in
set_option maxHeartbeats 8000000 in
set_option maxRecDepth 100000 in
theorem lawProds_any (A B : Option Addr) (n m c d : Nat) (w : World) (hco : Bytes w A n) (hcm : Bytes w B m) (hn : n ≤ maxLen) (hm : m ≤ maxLen) :
    Calls Try.prog 4 #[.slice A n c, .slice B m d] w (RetLawP w true) := by
  go_enter Try.func4, Try.ntmps4
  go_wp2_with fail
  (go_at_call 7; refine (big_any A B n m c d _ hn hm).mono ?_; rintro e31 w31 ⟨⟨b, rfl, hbb⟩, hw⟩; subst w31)
  cases b
  case' true =>
    clear hbb
    go_wp2
    go_ret
    exact ⟨rfl, ext _ _⟩
  obtain ⟨hn1, hm1⟩ := hbb rfl
  clear hbb
  go_upto_region 6 with (first | (go_at_call 8; refine (drawAdd_any A n c _ (hco.below (ext w _)) hn1).mono ?_; rintro e34 w34 ⟨x, y, Ax, Ay, cx, cy, rfl, hx, hy, hlx, hly, hb⟩; haveI : Bel _ w34 := ⟨hb⟩; haveI := Tr.arg hx; haveI := Tr.arg hy; clear hx hy hb) | ((with_reducible refine at_dst (N := 5) rfl ?_); refine ev_box (cs := #[.slice none 0 0]) (t := 26) rfl ?hr5 ?_; (case hr5 => first | (go_simp; done) | (go_simp; rfl)); intro g5 v5 _ _ _ _) | ((with_reducible refine at_dst (N := 6) rfl ?_); refine ev_box (cs := #[.slice none 0 0]) (t := 26) rfl ?hr6 ?_; (case hr6 => first | (go_simp; done) | (go_simp; rfl)); intro g6 v6 _ _ _ _) | ((fail_if_success (have _q := A43)); go_at_call 17; (with_reducible refine (MultiplySurreals_any x y _ _ Ax Ay _ _ _ (tr _ Ax) (tr _ Ay)).mono ?_); rintro e43 w43 ⟨A43, c43, he, hf, hb⟩; obtain ⟨z43, b43, G43⟩ := optG (mulS x y); rw [G43.hz, G43.hb] at he; rw [G43.hz] at hf; subst he; haveI : Bel _ w43 := ⟨hb⟩; haveI := Fs.of hf; clear hf hb) | ((with_reducible refine at_dst (N := 7) rfl ?_); refine ev_box (cs := #[.slice none 0 0]) (t := 26) rfl ?hr7 ?_; (case hr7 => first | (go_simp; done) | (go_simp; rfl)); intro g7 v7 _ _ _ _) | (go_at_call 18; refine (sMultiplySurreals_any x y _ _ Ax Ay _ _ _ (tr _ Ax) (tr _ Ay)).mono ?_; rintro e49 w49 ⟨A49, c49, he, hf, hb⟩; rw [G43.hz, G43.hb] at he; rw [G43.hz] at hf; subst he; haveI : Bel _ w49 := ⟨hb⟩; haveI := Fs.of hf; clear hf hb) | ((with_reducible refine at_dst (N := 9) rfl ?_); refine ev_box (cs := #[.slice none 0 0]) (t := 26) rfl ?hr9 ?_; (case hr9 => first | (go_simp; done) | (go_simp; rfl)); intro g9 v9 _ _ _ _))
  go_cut [73] (fun s73 wx => s73 = .bool false ∧ Bel (World.setCell v9 ⟨g9, 0, none⟩ (.slice A49 z43.len c49)) wx)
  case first =>
    cases b43
    · skip
      refine wp_region_held_drew (S := (fun w' => w'.cell? ⟨g7, 0, none⟩ = some (.slice A43 z43.len c43) ∧ w'.cell? ⟨g9, 0, none⟩ = some (.slice A49 z43.len c49))) (by kernel_rfl) ?hSn1_ (fun hHeld => ?hRn1_)
      case hSn1_ => (exact ⟨has1, has1⟩)
      refine wpAnyH_take (i := 0) (oi := _) (v := ?vn1_0) rfl (by kernel_rfl) (by kernel_rfl) (by kernel_rfl) (fun _ _ _ h => h) (Or.inl ⟨by rfl, ?hyn1_0⟩) (by assumption) ?hRn1_0
      case hyn1_0 => (intro w hSw; (try dsimp only at hSw); go_simp; (try with_reducible rfl))
      try simp only [Act.put, List.getElem_toArray, List.getElem_cons_zero, List.getElem_cons_succ, List.setIfInBounds_toArray, List.set_cons_zero, List.set_cons_succ]
      refine wpAnyH_take (i := 1) (oi := _) (v := ?vn1_1) rfl (by kernel_rfl) (by kernel_rfl) (by kernel_rfl) (fun _ _ _ h => h) (Or.inl ⟨by rfl, ?hyn1_1⟩) (by assumption) ?hRn1_1
      case hyn1_1 => (intro w hSw; (try dsimp only at hSw); go_simp; (try with_reducible rfl))
      try simp only [Act.put, List.getElem_toArray, List.getElem_cons_zero, List.getElem_cons_succ, List.setIfInBounds_toArray, List.set_cons_zero, List.set_cons_succ]
      refine wpAnyH_take (i := 2) (oi := _) (v := ?vn1_2) rfl (by kernel_rfl) (by kernel_rfl) (by kernel_rfl) (fun _ _ _ h => h) (Or.inl ⟨by rfl, ?hyn1_2⟩) (by assumption) ?hRn1_2
      case hyn1_2 => (intro w hSw; (try dsimp only at hSw); go_simp; (try with_reducible rfl))
      try simp only [Act.put, List.getElem_toArray, List.getElem_cons_zero, List.getElem_cons_succ, List.setIfInBounds_toArray, List.set_cons_zero, List.set_cons_succ]
      refine wpAnyH_take (i := 3) (oi := _) (v := ?vn1_3) rfl (by kernel_rfl) (by kernel_rfl) (by kernel_rfl) (fun _ _ _ h => h) (Or.inl ⟨by rfl, ?hyn1_3⟩) (by assumption) ?hRn1_3
      case hyn1_3 => (intro w hSw; (try dsimp only at hSw); go_simp; (try with_reducible rfl))
      try simp only [Act.put, List.getElem_toArray, List.getElem_cons_zero, List.getElem_cons_succ, List.setIfInBounds_toArray, List.set_cons_zero, List.set_cons_succ]
      refine wpAnyH_take (i := 4) (oi := _) (v := ?vn1_4) rfl (by kernel_rfl) (by kernel_rfl) (by kernel_rfl) (fun _ _ _ h => h) (Or.inl ⟨by rfl, ?hyn1_4⟩) (by assumption) ?hRn1_4
      case hyn1_4 => (intro w hSw; (try dsimp only at hSw); go_simp; (try with_reducible rfl))
      try simp only [Act.put, List.getElem_toArray, List.getElem_cons_zero, List.getElem_cons_succ, List.setIfInBounds_toArray, List.set_cons_zero, List.set_cons_succ]
      refine wpAnyH_take (i := 5) (oi := _) (v := ?vn1_5) rfl (by kernel_rfl) (by kernel_rfl) (by kernel_rfl) (fun _ _ _ h => h) (Or.inl ⟨by rfl, ?hyn1_5⟩) (by assumption) ?hRn1_5
      case hyn1_5 => (intro w hSw; (try dsimp only at hSw); go_simp; (try with_reducible rfl))
      try simp only [Act.put, List.getElem_toArray, List.getElem_cons_zero, List.getElem_cons_succ, List.setIfInBounds_toArray, List.set_cons_zero, List.set_cons_succ]
      refine wpAnyH_ready (rs := [6]) (by kernel_rfl) (by simp) ?_
      refine AllReadyH.cons (o := _) rfl (fun K hK => ?_) AllReadyH.nil
      go_simp
      (((fail_if_success (have _q := w58)); go_at_call 11; (with_reducible refine (same_any _ z43 _ _ A43 A49 _ _ _ (Nat.le_refl _) (tr _ A43) (tr _ A49)).mono ?_); rintro e58 w58 ⟨rfl, hb⟩; haveI : Bel _ w58 := ⟨hb⟩; clear hb))
      go_wp2_with fail
      refine hK.out _ _ ?hSn1_6 (fun hHeld => ?hRn1_6)
      case hSn1_6 => ((try dsimp only); exact ⟨has1, has1⟩)
      clear hK K
      try simp only [Act.put, List.getElem_toArray, List.getElem_cons_zero, List.getElem_cons_succ, List.setIfInBounds_toArray, List.set_cons_zero, List.set_cons_succ]
      refine wpAnyH_take (i := 7) (oi := _) (v := ?vn1_7) rfl (by kernel_rfl) (by kernel_rfl) (by kernel_rfl) (fun _ _ _ h => h) (Or.inl ⟨by rfl, ?hyn1_7⟩) (by assumption) ?hRn1_7
      case hyn1_7 => (intro w hSw; (try dsimp only at hSw); go_simp; (try with_reducible rfl))
      try simp only [Act.put, List.getElem_toArray, List.getElem_cons_zero, List.getElem_cons_succ, List.setIfInBounds_toArray, List.set_cons_zero, List.set_cons_succ]
      refine wpAnyH_take (i := 8) (oi := _) (v := ?vn1_8) rfl (by kernel_rfl) (by kernel_rfl) (by kernel_rfl) (fun _ _ _ h => h) (Or.inl ⟨by rfl, ?hyn1_8⟩) (by assumption) ?hRn1_8
      case hyn1_8 => (intro w hSw; (try dsimp only at hSw); go_simp; (try with_reducible rfl))
      try simp only [Act.put, List.getElem_toArray, List.getElem_cons_zero, List.getElem_cons_succ, List.setIfInBounds_toArray, List.set_cons_zero, List.set_cons_succ]
      refine wpAnyH_take (i := 9) (oi := _) (v := ?vn1_9) rfl (by kernel_rfl) (by kernel_rfl) (by kernel_rfl) (fun _ _ _ h => h) (Or.inl ⟨by rfl, ?hyn1_9⟩) (by assumption) ?hRn1_9
      case hyn1_9 => (intro w hSw; (try dsimp only at hSw); go_simp; (try with_reducible rfl))
      try simp only [Act.put, List.getElem_toArray, List.getElem_cons_zero, List.getElem_cons_succ, List.setIfInBounds_toArray, List.set_cons_zero, List.set_cons_succ]
      refine wpAnyH_take (i := 10) (oi := _) (v := ?vn1_10) rfl (by kernel_rfl) (by kernel_rfl) (by kernel_rfl) (fun _ _ _ h => h) (Or.inl ⟨by rfl, ?hyn1_10⟩) (by assumption) ?hRn1_10
      case hyn1_10 => (intro w hSw; (try dsimp only at hSw); go_simp; (try with_reducible rfl))
      try simp only [Act.put, List.getElem_toArray, List.getElem_cons_zero, List.getElem_cons_succ, List.setIfInBounds_toArray, List.set_cons_zero, List.set_cons_succ]
      refine wpAnyH_take (i := 11) (oi := _) (v := ?vn1_11) rfl (by kernel_rfl) (by kernel_rfl) (by kernel_rfl) (fun _ _ _ h => h) (Or.inl ⟨by rfl, ?hyn1_11⟩) (by assumption) ?hRn1_11
      case hyn1_11 => (intro w hSw; (try dsimp only at hSw); go_simp; (try with_reducible rfl))
      try simp only [Act.put, List.getElem_toArray, List.getElem_cons_zero, List.getElem_cons_succ, List.setIfInBounds_toArray, List.set_cons_zero, List.set_cons_succ]
      refine wpAnyH_take (i := 12) (oi := _) (v := undef) rfl (by kernel_rfl) (by kernel_rfl) (by kernel_rfl) (fun _ _ _ h => h) (Or.inr ⟨by rfl, rfl⟩) (by assumption) ?_
      try simp only [Act.put, List.getElem_toArray, List.getElem_cons_zero, List.getElem_cons_succ, List.setIfInBounds_toArray, List.set_cons_zero, List.set_cons_succ]
      refine wpAnyH_take (i := 13) (oi := _) (v := undef) rfl (by kernel_rfl) (by kernel_rfl) (by kernel_rfl) (fun _ _ _ h => h) (Or.inr ⟨by rfl, rfl⟩) (by assumption) ?_
      try simp only [Act.put, List.getElem_toArray, List.getElem_cons_zero, List.getElem_cons_succ, List.setIfInBounds_toArray, List.set_cons_zero, List.set_cons_succ]
      refine wpAnyH_take (i := 14) (oi := _) (v := undef) rfl (by kernel_rfl) (by kernel_rfl) (by kernel_rfl) (fun _ _ _ h => h) (Or.inr ⟨by rfl, rfl⟩) (by assumption) ?_
      try simp only [Act.put, List.getElem_toArray, List.getElem_cons_zero, List.getElem_cons_succ, List.setIfInBounds_toArray, List.set_cons_zero, List.set_cons_succ]
      refine wpAnyH_take (i := 15) (oi := _) (v := undef) rfl (by kernel_rfl) (by kernel_rfl) (by kernel_rfl) (fun _ _ _ h => h) (Or.inr ⟨by rfl, rfl⟩) (by assumption) ?_
      try simp only [Act.put, List.getElem_toArray, List.getElem_cons_zero, List.getElem_cons_succ, List.setIfInBounds_toArray, List.set_cons_zero, List.set_cons_succ]
      refine wpAnyH_take (i := 16) (oi := _) (v := undef) rfl (by kernel_rfl) (by kernel_rfl) (by kernel_rfl) (fun _ _ _ h => h) (Or.inr ⟨by rfl, rfl⟩) (by assumption) ?_
      try simp only [Act.put, List.getElem_toArray, List.getElem_cons_zero, List.getElem_cons_succ, List.setIfInBounds_toArray, List.set_cons_zero, List.set_cons_succ]
      refine wpAnyH_take (i := 17) (oi := _) (v := undef) rfl (by kernel_rfl) (by kernel_rfl) (by kernel_rfl) (fun _ _ _ h => h) (Or.inr ⟨by rfl, rfl⟩) (by assumption) ?_
      try simp only [Act.put, List.getElem_toArray, List.getElem_cons_zero, List.getElem_cons_succ, List.setIfInBounds_toArray, List.set_cons_zero, List.set_cons_succ]
      refine wpAnyH_take (i := 18) (oi := _) (v := undef) rfl (by kernel_rfl) (by kernel_rfl) (by kernel_rfl) (fun _ _ _ h => h) (Or.inr ⟨by rfl, rfl⟩) (by assumption) ?_
      try simp only [Act.put, List.getElem_toArray, List.getElem_cons_zero, List.getElem_cons_succ, List.setIfInBounds_toArray, List.set_cons_zero, List.set_cons_succ]
      refine wpAnyH_take (i := 19) (oi := _) (v := undef) rfl (by kernel_rfl) (by kernel_rfl) (by kernel_rfl) (fun _ _ _ h => h) (Or.inr ⟨by rfl, rfl⟩) (by assumption) ?_
      try simp only [Act.put, List.getElem_toArray, List.getElem_cons_zero, List.getElem_cons_succ, List.setIfInBounds_toArray, List.set_cons_zero, List.set_cons_succ]
      refine wpAnyH_take (i := 20) (oi := _) (v := ?vn1_20) rfl (by kernel_rfl) (by kernel_rfl) (by kernel_rfl) (fun _ _ _ h => h) (Or.inl ⟨by rfl, ?hyn1_20⟩) (by assumption) ?hRn1_20
      case hyn1_20 => (intro w hSw; (try dsimp only at hSw); go_simp; (try with_reducible rfl))
      try simp only [Act.put, List.getElem_toArray, List.getElem_cons_zero, List.getElem_cons_succ, List.setIfInBounds_toArray, List.set_cons_zero, List.set_cons_succ]
      refine wpAnyH_take (i := 21) (oi := _) (v := ?vn1_21) rfl (by kernel_rfl) (by kernel_rfl) (by kernel_rfl) (fun _ _ _ h => h) (Or.inl ⟨by rfl, ?hyn1_21⟩) (by assumption) ?hRn1_21
      case hyn1_21 => (intro w hSw; (try dsimp only at hSw); go_simp; (try with_reducible rfl))
      try simp only [Act.put, List.getElem_toArray, List.getElem_cons_zero, List.getElem_cons_succ, List.setIfInBounds_toArray, List.set_cons_zero, List.set_cons_succ]
      refine wpAnyH_done (by kernel_rfl) ?_ _
      go_wp2
      go_meet
      exact ⟨rfl, ⟨ext _ _⟩⟩
    · have HSG := Lib.hid (sgS_mul G43.some)
      have hsb := sg_mul_bd x y
      have hw : IntKind.i64.wrap (sgS x * sgS y) = sgS x * sgS y := IntWalk.i64_in _ (by omega)
      refine wp_region_held_drew (S := (fun w' => w'.cell? ⟨g7, 0, none⟩ = some (.slice A43 z43.len c43) ∧ w'.cell? ⟨g9, 0, none⟩ = some (.slice A49 z43.len c49) ∧ w'.cell? ⟨g5, 0, none⟩ = some (.slice Ax x.len cx) ∧ w'.cell? ⟨g6, 0, none⟩ = some (.slice Ay y.len cy))) (by kernel_rfl) ?hSn2_ (fun hHeld => ?hRn2_)
      case hSn2_ => (exact ⟨has1, has1, has1, has1⟩)
      refine wpAnyH_take (i := 0) (oi := _) (v := ?vn2_0) rfl (by kernel_rfl) (by kernel_rfl) (by kernel_rfl) (fun _ _ _ h => h) (Or.inl ⟨by rfl, ?hyn2_0⟩) (by assumption) ?hRn2_0
      case hyn2_0 => (intro w hSw; (try dsimp only at hSw); go_simp; (try with_reducible rfl))
      try simp only [Act.put, List.getElem_toArray, List.getElem_cons_zero, List.getElem_cons_succ, List.setIfInBounds_toArray, List.set_cons_zero, List.set_cons_succ]
      refine wpAnyH_take (i := 1) (oi := _) (v := ?vn2_1) rfl (by kernel_rfl) (by kernel_rfl) (by kernel_rfl) (fun _ _ _ h => h) (Or.inl ⟨by rfl, ?hyn2_1⟩) (by assumption) ?hRn2_1
      case hyn2_1 => (intro w hSw; (try dsimp only at hSw); go_simp; (try with_reducible rfl))
      try simp only [Act.put, List.getElem_toArray, List.getElem_cons_zero, List.getElem_cons_succ, List.setIfInBounds_toArray, List.set_cons_zero, List.set_cons_succ]
      refine wpAnyH_take (i := 2) (oi := _) (v := ?vn2_2) rfl (by kernel_rfl) (by kernel_rfl) (by kernel_rfl) (fun _ _ _ h => h) (Or.inl ⟨by rfl, ?hyn2_2⟩) (by assumption) ?hRn2_2
      case hyn2_2 => (intro w hSw; (try dsimp only at hSw); go_simp; (try with_reducible rfl))
      try simp only [Act.put, List.getElem_toArray, List.getElem_cons_zero, List.getElem_cons_succ, List.setIfInBounds_toArray, List.set_cons_zero, List.set_cons_succ]
      refine wpAnyH_take (i := 3) (oi := _) (v := ?vn2_3) rfl (by kernel_rfl) (by kernel_rfl) (by kernel_rfl) (fun _ _ _ h => h) (Or.inl ⟨by rfl, ?hyn2_3⟩) (by assumption) ?hRn2_3
      case hyn2_3 => (intro w hSw; (try dsimp only at hSw); go_simp; (try with_reducible rfl))
      try simp only [Act.put, List.getElem_toArray, List.getElem_cons_zero, List.getElem_cons_succ, List.setIfInBounds_toArray, List.set_cons_zero, List.set_cons_succ]
      refine wpAnyH_take (i := 4) (oi := _) (v := ?vn2_4) rfl (by kernel_rfl) (by kernel_rfl) (by kernel_rfl) (fun _ _ _ h => h) (Or.inl ⟨by rfl, ?hyn2_4⟩) (by assumption) ?hRn2_4
      case hyn2_4 => (intro w hSw; (try dsimp only at hSw); go_simp; (try with_reducible rfl))
      try simp only [Act.put, List.getElem_toArray, List.getElem_cons_zero, List.getElem_cons_succ, List.setIfInBounds_toArray, List.set_cons_zero, List.set_cons_succ]
      refine wpAnyH_take (i := 5) (oi := _) (v := ?vn2_5) rfl (by kernel_rfl) (by kernel_rfl) (by kernel_rfl) (fun _ _ _ h => h) (Or.inl ⟨by rfl, ?hyn2_5⟩) (by assumption) ?hRn2_5
      case hyn2_5 => (intro w hSw; (try dsimp only at hSw); go_simp; (try with_reducible rfl))
      try simp only [Act.put, List.getElem_toArray, List.getElem_cons_zero, List.getElem_cons_succ, List.setIfInBounds_toArray, List.set_cons_zero, List.set_cons_succ]
      refine wpAnyH_ready (rs := [6]) (by kernel_rfl) (by simp) ?_
      refine AllReadyH.cons (o := _) rfl (fun K hK => ?_) AllReadyH.nil
      go_simp
      (((fail_if_success (have _q := w58)); go_at_call 11; (with_reducible refine (same_any _ z43 _ _ A43 A49 _ _ _ (Nat.le_refl _) (tr _ A43) (tr _ A49)).mono ?_); rintro e58 w58 ⟨rfl, hb⟩; haveI : Bel _ w58 := ⟨hb⟩; clear hb))
      go_wp2_with fail
      refine hK.out _ _ ?hSn2_6 (fun hHeld => ?hRn2_6)
      case hSn2_6 => ((try dsimp only); exact ⟨has1, has1, has1, has1⟩)
      clear hK K
      try simp only [Act.put, List.getElem_toArray, List.getElem_cons_zero, List.getElem_cons_succ, List.setIfInBounds_toArray, List.set_cons_zero, List.set_cons_succ]
      refine wpAnyH_take (i := 7) (oi := _) (v := ?vn2_7) rfl (by kernel_rfl) (by kernel_rfl) (by kernel_rfl) (fun _ _ _ h => h) (Or.inl ⟨by rfl, ?hyn2_7⟩) (by assumption) ?hRn2_7
      case hyn2_7 => (intro w hSw; (try dsimp only at hSw); go_simp; (try with_reducible rfl))
      try simp only [Act.put, List.getElem_toArray, List.getElem_cons_zero, List.getElem_cons_succ, List.setIfInBounds_toArray, List.set_cons_zero, List.set_cons_succ]
      refine wpAnyH_take (i := 8) (oi := _) (v := ?vn2_8) rfl (by kernel_rfl) (by kernel_rfl) (by kernel_rfl) (fun _ _ _ h => h) (Or.inl ⟨by rfl, ?hyn2_8⟩) (by assumption) ?hRn2_8
      case hyn2_8 => (intro w hSw; (try dsimp only at hSw); go_simp; (try with_reducible rfl))
      try simp only [Act.put, List.getElem_toArray, List.getElem_cons_zero, List.getElem_cons_succ, List.setIfInBounds_toArray, List.set_cons_zero, List.set_cons_succ]
      refine wpAnyH_take (i := 9) (oi := _) (v := ?vn2_9) rfl (by kernel_rfl) (by kernel_rfl) (by kernel_rfl) (fun _ _ _ h => h) (Or.inl ⟨by rfl, ?hyn2_9⟩) (by assumption) ?hRn2_9
      case hyn2_9 => (intro w hSw; (try dsimp only at hSw); go_simp; (try with_reducible rfl))
      try simp only [Act.put, List.getElem_toArray, List.getElem_cons_zero, List.getElem_cons_succ, List.setIfInBounds_toArray, List.set_cons_zero, List.set_cons_succ]
      refine wpAnyH_take (i := 10) (oi := _) (v := ?vn2_10) rfl (by kernel_rfl) (by kernel_rfl) (by kernel_rfl) (fun _ _ _ h => h) (Or.inl ⟨by rfl, ?hyn2_10⟩) (by assumption) ?hRn2_10
      case hyn2_10 => (intro w hSw; (try dsimp only at hSw); go_simp; (try with_reducible rfl))
      try simp only [Act.put, List.getElem_toArray, List.getElem_cons_zero, List.getElem_cons_succ, List.setIfInBounds_toArray, List.set_cons_zero, List.set_cons_succ]
      refine wpAnyH_take (i := 11) (oi := _) (v := ?vn2_11) rfl (by kernel_rfl) (by kernel_rfl) (by kernel_rfl) (fun _ _ _ h => h) (Or.inl ⟨by rfl, ?hyn2_11⟩) (by assumption) ?hRn2_11
      case hyn2_11 => (intro w hSw; (try dsimp only at hSw); go_simp; (try with_reducible rfl))
      try simp only [Act.put, List.getElem_toArray, List.getElem_cons_zero, List.getElem_cons_succ, List.setIfInBounds_toArray, List.set_cons_zero, List.set_cons_succ]
      refine wpAnyH_take (i := 12) (oi := _) (v := ?vn2_12) rfl (by kernel_rfl) (by kernel_rfl) (by kernel_rfl) (fun _ _ _ h => h) (Or.inl ⟨by rfl, ?hyn2_12⟩) (by assumption) ?hRn2_12
      case hyn2_12 => (intro w hSw; (try dsimp only at hSw); go_simp; (try with_reducible rfl))
      try simp only [Act.put, List.getElem_toArray, List.getElem_cons_zero, List.getElem_cons_succ, List.setIfInBounds_toArray, List.set_cons_zero, List.set_cons_succ]
      refine wpAnyH_take (i := 14) (oi := _) (v := ?vn2_14) rfl (by kernel_rfl) (by kernel_rfl) (by kernel_rfl) (fun _ _ _ h => h) (Or.inl ⟨by rfl, ?hyn2_14⟩) (by assumption) ?hRn2_14
      case hyn2_14 => (intro w hSw; (try dsimp only at hSw); go_simp; (try with_reducible rfl))
      try simp only [Act.put, List.getElem_toArray, List.getElem_cons_zero, List.getElem_cons_succ, List.setIfInBounds_toArray, List.set_cons_zero, List.set_cons_succ]
      refine wpAnyH_take (i := 16) (oi := _) (v := ?vn2_16) rfl (by kernel_rfl) (by kernel_rfl) (by kernel_rfl) (fun _ _ _ h => h) (Or.inl ⟨by rfl, ?hyn2_16⟩) (by assumption) ?hRn2_16
      case hyn2_16 => (intro w hSw; (try dsimp only at hSw); go_simp; (try with_reducible rfl))
      try simp only [Act.put, List.getElem_toArray, List.getElem_cons_zero, List.getElem_cons_succ, List.setIfInBounds_toArray, List.set_cons_zero, List.set_cons_succ]
      refine wpAnyH_ready (rs := [13]) (by kernel_rfl) (by simp) ?_
      refine AllReadyH.cons (o := _) rfl (fun K hK => ?_) AllReadyH.nil
      go_simp
      ((go_at_call 19; (with_reducible refine (qSign_any z43 _ A43 _ _ (tr _ A43)).mono ?_); rintro e65 w65 ⟨he, hb⟩; (try rw [HSG.out] at he); subst he; haveI : Bel _ w65 := ⟨hb⟩; clear hb))
      go_wp2_with fail
      refine hK.out _ _ ?hSn2_13 (fun hHeld => ?hRn2_13)
      case hSn2_13 => ((try dsimp only); exact ⟨has1, has1, has1, has1⟩)
      clear hK K
      try simp only [Act.put, List.getElem_toArray, List.getElem_cons_zero, List.getElem_cons_succ, List.setIfInBounds_toArray, List.set_cons_zero, List.set_cons_succ]
      refine wpAnyH_ready (rs := [15]) (by kernel_rfl) (by simp) ?_
      refine AllReadyH.cons (o := _) rfl (fun K hK => ?_) AllReadyH.nil
      go_simp
      ((go_at_call 19; (with_reducible refine (qSign_any x _ Ax _ _ (tr _ Ax)).mono ?_); rintro e67 w67 ⟨he, hb⟩; (try rw [HSG.out] at he); subst he; haveI : Bel _ w67 := ⟨hb⟩; clear hb))
      go_wp2_with fail
      refine hK.out _ _ ?hSn2_15 (fun hHeld => ?hRn2_15)
      case hSn2_15 => ((try dsimp only); exact ⟨has1, has1, has1, has1⟩)
      clear hK K
      try simp only [Act.put, List.getElem_toArray, List.getElem_cons_zero, List.getElem_cons_succ, List.setIfInBounds_toArray, List.set_cons_zero, List.set_cons_succ]
      refine wpAnyH_ready (rs := [17]) (by kernel_rfl) (by simp) ?_
      refine AllReadyH.cons (o := _) rfl (fun K hK => ?_) AllReadyH.nil
      go_simp
      ((go_at_call 19; (with_reducible refine (qSign_any y _ Ay _ _ (tr _ Ay)).mono ?_); rintro e69 w69 ⟨he, hb⟩; (try rw [HSG.out] at he); subst he; haveI : Bel _ w69 := ⟨hb⟩; clear hb))
      go_wp2_with fail
      refine hK.out _ _ ?hSn2_17 (fun hHeld => ?hRn2_17)
      case hSn2_17 => ((try dsimp only); exact ⟨has1, has1, has1, has1⟩)
      clear hK K
      try simp only [Act.put, List.getElem_toArray, List.getElem_cons_zero, List.getElem_cons_succ, List.setIfInBounds_toArray, List.set_cons_zero, List.set_cons_succ]
      refine wpAnyH_take (i := 18) (oi := _) (v := ?vn2_18) rfl (by kernel_rfl) (by kernel_rfl) (by kernel_rfl) (fun _ _ _ h => h) (Or.inl ⟨by rfl, ?hyn2_18⟩) (by assumption) ?hRn2_18
      case hyn2_18 => (intro w hSw; (try dsimp only at hSw); go_simp; (try with_reducible rfl))
      try simp only [Act.put, List.getElem_toArray, List.getElem_cons_zero, List.getElem_cons_succ, List.setIfInBounds_toArray, List.set_cons_zero, List.set_cons_succ]
      refine wpAnyH_take (i := 19) (oi := _) (v := ?vn2_19) rfl (by kernel_rfl) (by kernel_rfl) (by kernel_rfl) (fun _ _ _ h => h) (Or.inl ⟨by rfl, ?hyn2_19⟩) (by assumption) ?hRn2_19
      case hyn2_19 => (intro w hSw; (try dsimp only at hSw); go_simp; (try with_reducible rfl))
      try simp only [Act.put, List.getElem_toArray, List.getElem_cons_zero, List.getElem_cons_succ, List.setIfInBounds_toArray, List.set_cons_zero, List.set_cons_succ]
      refine wpAnyH_take (i := 20) (oi := _) (v := ?vn2_20) rfl (by kernel_rfl) (by kernel_rfl) (by kernel_rfl) (fun _ _ _ h => h) (Or.inl ⟨by rfl, ?hyn2_20⟩) (by assumption) ?hRn2_20
      case hyn2_20 => (intro w hSw; (try dsimp only at hSw); go_simp; (try with_reducible rfl))
      try simp only [Act.put, List.getElem_toArray, List.getElem_cons_zero, List.getElem_cons_succ, List.setIfInBounds_toArray, List.set_cons_zero, List.set_cons_succ]
      refine wpAnyH_take (i := 21) (oi := _) (v := ?vn2_21) rfl (by kernel_rfl) (by kernel_rfl) (by kernel_rfl) (fun _ _ _ h => h) (Or.inl ⟨by rfl, ?hyn2_21⟩) (by assumption) ?hRn2_21
      case hyn2_21 => (intro w hSw; (try dsimp only at hSw); go_simp; (try with_reducible rfl))
      try simp only [Act.put, List.getElem_toArray, List.getElem_cons_zero, List.getElem_cons_succ, List.setIfInBounds_toArray, List.set_cons_zero, List.set_cons_succ]
      refine wpAnyH_done (by kernel_rfl) ?_ _
      go_wp2
      go_meet
      exact ⟨rfl, ⟨ext _ _⟩⟩
  case rest =>
    rename World => wx
    obtain ⟨rfl, _⟩ := hcut
    go_wp2_with fail
    (go_at_call 8; refine (drawAdd_any B m d _ (hcm.below (ext w _)) hm1).mono ?_; rintro e76 w76 ⟨z, z', Az, Az', cz, cz', rfl, hz, hz', hlz, hlz', hb⟩; haveI : Bel _ w76 := ⟨hb⟩; haveI := Tr.arg hz; haveI := Tr.arg hz'; clear hz hz' hb)
    go_upto_region 12 with (first | ((with_reducible refine at_dst (N := 11) rfl ?_); refine ev_box (cs := #[.slice none 0 0]) (t := 26) rfl ?hr11 ?_; (case hr11 => first | (go_simp; done) | (go_simp; rfl)); intro g11 v11 _ _ _ _) | ((with_reducible refine at_dst (N := 12) rfl ?_); refine ev_box (cs := #[.slice none 0 0]) (t := 26) rfl ?hr12 ?_; (case hr12 => first | (go_simp; done) | (go_simp; rfl)); intro g12 v12 _ _ _ _) | ((fail_if_success (have _q := A82)); go_at_call 9; (with_reducible refine (AddSurreals_any y z _ _ Ay Az _ _ _ (tr _ Ay) (tr _ Az)).mono ?_); rintro e82 w82 ⟨A82, c82, he, hf, hb⟩; obtain ⟨z82, b82, G82⟩ := optG (addS y z); rw [G82.hz, G82.hb] at he; rw [G82.hz] at hf; subst he; haveI : Bel _ w82 := ⟨hb⟩; haveI := Fs.of hf; clear hf hb) | ((with_reducible refine at_dst (N := 13) rfl ?_); refine ev_box (cs := #[.slice none 0 0]) (t := 26) rfl ?hr13 ?_; (case hr13 => first | (go_simp; done) | (go_simp; rfl)); intro g13 v13 _ _ _ _) | ((fail_if_success (have _q := A88)); go_at_call 17; (with_reducible refine (MultiplySurreals_any x z82 _ _ Ax A82 _ _ _ (tr _ Ax) (tr _ A82)).mono ?_); rintro e88 w88 ⟨A88, c88, he, hf, hb⟩; obtain ⟨z88, b88, G88⟩ := optG (mulS x z82); rw [G88.hz, G88.hb] at he; rw [G88.hz] at hf; subst he; haveI : Bel _ w88 := ⟨hb⟩; haveI := Fs.of hf; clear hf hb) | ((with_reducible refine at_dst (N := 15) rfl ?_); refine ev_box (cs := #[.slice none 0 0]) (t := 26) rfl ?hr15 ?_; (case hr15 => first | (go_simp; done) | (go_simp; rfl)); intro g15 v15 _ _ _ _) | ((fail_if_success (have _q := A94)); go_at_call 17; (with_reducible refine (MultiplySurreals_any x z _ _ Ax Az _ _ _ (tr _ Ax) (tr _ Az)).mono ?_); rintro e94 w94 ⟨A94, c94, he, hf, hb⟩; obtain ⟨z94, b94, G94⟩ := optG (mulS x z); rw [G94.hz, G94.hb] at he; rw [G94.hz] at hf; subst he; haveI : Bel _ w94 := ⟨hb⟩; haveI := Fs.of hf; clear hf hb) | ((with_reducible refine at_dst (N := 17) rfl ?_); refine ev_box (cs := #[.slice none 0 0]) (t := 26) rfl ?hr17 ?_; (case hr17 => first | (go_simp; done) | (go_simp; rfl)); intro g17 v17 _ _ _ _))
    go_cut [106] (fun s106 wx' => ∃ ok : Bool, s106 = .bool ok ∧ Hid (ok = true → b43 = true ∧ b82 = true ∧ b88 = true ∧ b94 = true) ∧ Bel (World.setCell v17 ⟨g17, 0, none⟩ (.slice A94 z94.len c94)) wx')
    case first =>
      cases b43
      · go_wp2
        go_meet
        exact ⟨false, rfl, fun h => (by cases h), ⟨ext _ _⟩⟩
      · cases b82
        · go_wp2
          go_meet
          exact ⟨false, rfl, fun h => (by cases h), ⟨ext _ _⟩⟩
        · cases b88
          · go_wp2
            go_meet
            exact ⟨false, rfl, fun h => (by cases h), ⟨ext _ _⟩⟩
          · cases b94
            · go_wp2
              go_meet
              exact ⟨false, rfl, fun h => (by cases h), ⟨ext _ _⟩⟩
            · go_wp2
              go_meet
              exact ⟨true, rfl, (by simp [Hid]), ⟨ext _ _⟩⟩
    case rest =>
      rename World => wy
      obtain ⟨ok, rfl, HOK, _⟩ := hcut
      go_upto_if 106 with fail
      go_cut [] (fun wz => Bel wy wz)
      case first =>
        cases ok
        · go_wp2
          go_meet
          exact ⟨ext _ _⟩
        · obtain ⟨rfl, rfl, rfl, rfl⟩ := HOK.out rfl
          go_upto_region 14 with (first | ((fail_if_success (have _q := A110)); go_at_call 9; (with_reducible refine (AddSurreals_any z43 z94 _ _ A43 A94 _ _ _ (tr _ A43) (tr _ A94)).mono ?_); rintro e110 w110 ⟨A110, c110, he, hf, hb⟩; obtain ⟨z110, b110, G110⟩ := optG (addS z43 z94); rw [G110.hz, G110.hb] at he; rw [G110.hz] at hf; subst he; haveI : Bel _ w110 := ⟨hb⟩; haveI := Fs.of hf; clear hf hb) | ((with_reducible refine at_dst (N := 19) rfl ?_); refine ev_box (cs := #[.slice none 0 0]) (t := 26) rfl ?hr19 ?_; (case hr19 => first | (go_simp; done) | (go_simp; rfl)); intro g19 v19 _ _ _ _))
          cases b110
          · go_wp2
            go_meet
            exact ⟨ext _ _⟩
          · obtain rfl := mulS_distrib G82.some G88.some G43.some G94.some G110.some
            go_wp2_with (((fail_if_success (have _q := w117)); go_at_call 11; (with_reducible refine (same_any _ z88 _ _ A88 A110 _ _ _ (Nat.le_refl _) (tr _ A88) (tr _ A110)).mono ?_); rintro e117 w117 ⟨rfl, hb⟩; haveI : Bel _ w117 := ⟨hb⟩; clear hb))
            go_meet
            exact ⟨ext _ _⟩
      case rest =>
        rename World => wz
        haveI : Bel wy wz := hcut
        clear HOK
        go_upto_region 19 with (first | ((fail_if_success (have _q := A122)); go_at_call 20; (with_reducible refine (OmegaTo_any x _ Ax _ _ (tr _ Ax)).mono ?_); rintro e122 w122 ⟨A122, c122, he, hf, hb⟩; obtain ⟨z122, b122, G122⟩ := optG (omS x); rw [G122.hz, G122.hb] at he; rw [G122.hz] at hf; subst he; haveI : Bel _ w122 := ⟨hb⟩; haveI := Fs.of hf; clear hf hb) | ((with_reducible refine at_dst (N := 21) rfl ?_); refine ev_box (cs := #[.slice none 0 0]) (t := 26) rfl ?hr21 ?_; (case hr21 => first | (go_simp; done) | (go_simp; rfl)); intro g21 v21 _ _ _ _) | ((fail_if_success (have _q := A127)); go_at_call 20; (with_reducible refine (OmegaTo_any y _ Ay _ _ (tr _ Ay)).mono ?_); rintro e127 w127 ⟨A127, c127, he, hf, hb⟩; obtain ⟨z127, b127, G127⟩ := optG (omS y); rw [G127.hz, G127.hb] at he; rw [G127.hz] at hf; subst he; haveI : Bel _ w127 := ⟨hb⟩; haveI := Fs.of hf; clear hf hb) | ((with_reducible refine at_dst (N := 23) rfl ?_); refine ev_box (cs := #[.slice none 0 0]) (t := 26) rfl ?hr23 ?_; (case hr23 => first | (go_simp; done) | (go_simp; rfl)); intro g23 v23 _ _ _ _) | ((fail_if_success (have _q := A133)); go_at_call 17; (with_reducible refine (MultiplySurreals_any z122 z127 _ _ A122 A127 _ _ _ (tr _ A122) (tr _ A127)).mono ?_); rintro e133 w133 ⟨A133, c133, he, hf, hb⟩; obtain ⟨z133, b133, G133⟩ := optG (mulS z122 z127); rw [G133.hz, G133.hb] at he; rw [G133.hz] at hf; subst he; haveI : Bel _ w133 := ⟨hb⟩; haveI := Fs.of hf; clear hf hb) | ((with_reducible refine at_dst (N := 25) rfl ?_); refine ev_box (cs := #[.slice none 0 0]) (t := 26) rfl ?hr25 ?_; (case hr25 => first | (go_simp; done) | (go_simp; rfl)); intro g25 v25 _ _ _ _))
        go_cut [142] (fun s142 wx' => ∃ ok : Bool, s142 = .bool ok ∧ Hid (ok = true → b122 = true ∧ b127 = true ∧ b133 = true) ∧ Bel (World.setCell v25 ⟨g25, 0, none⟩ (.slice A133 z133.len c133)) wx')
        case first =>
          cases b122
          · go_wp2
            go_meet
            exact ⟨false, rfl, fun h => (by cases h), ⟨ext _ _⟩⟩
          · cases b127
            · go_wp2
              go_meet
              exact ⟨false, rfl, fun h => (by cases h), ⟨ext _ _⟩⟩
            · cases b133
              · go_wp2
                go_meet
                exact ⟨false, rfl, fun h => (by cases h), ⟨ext _ _⟩⟩
              · go_wp2
                go_meet
                exact ⟨true, rfl, (by simp [Hid]), ⟨ext _ _⟩⟩
        case rest =>
          rename World => wq
          obtain ⟨ok, rfl, HOK, _⟩ := hcut
          cases ok
          · clear HOK
            go_wp2
            go_ret
            exact ⟨rfl, ext w _⟩
          · obtain ⟨rfl, rfl, rfl⟩ := HOK.out rfl
            have HG := GoodM.mk (mulS_some G133.some).2.2.2
            obtain ⟨e, he, rfl⟩ := omS_mul G122.some G127.some G133.some
            have HM := HidM.mk he
            have hl1 : (Sur.cons e 1 1 .nil).len = 1 := rfl
            clear he HOK
            go_wp2_with (first | ((fail_if_success (have _q := A146)); go_at_call 9; (with_reducible refine (AddSurreals_any x y _ _ Ax Ay _ _ _ (tr _ Ax) (tr _ Ay)).mono ?_); rintro e146 w146 ⟨A146, c146, he, hf, hb⟩; rw [HM.out] at he hf; simp only [Option.getD_some, Option.isSome_some] at he hf; subst he; haveI : Bel _ w146 := ⟨hb⟩; haveI := Fs.of hf; clear hf hb) | ((with_reducible refine at_dst (N := 27) rfl ?_); refine ev_box (cs := #[.slice none 0 0]) (t := 26) rfl ?hr27 ?_; (case hr27 => first | (go_simp; done) | (go_simp; rfl)); intro g27 v27 _ _ _ _) | (go_at_call 21; refine (LeadingOf_cons e .nil 1 1 _ A133 c133 _ (tr _ A133) HG.out).mono ?_; rintro e151 w151 ⟨A151, c151, rfl, hf, hb⟩; haveI : Bel _ w151 := ⟨hb⟩; haveI := Fs.of hf; clear hf hb) | ((with_reducible refine at_dst (N := 29) rfl ?_); refine ev_box (cs := #[.slice none 0 0]) (t := 26) rfl ?hr29 ?_; (case hr29 => first | (go_simp; done) | (go_simp; rfl)); intro g29 v29 _ _ _ _) | ((with_reducible refine at_dst (N := 30) rfl ?_); refine ev_box (cs := #[.int .i64 0, .int .i64 0]) (t := 34) rfl ?hr30 ?_; (case hr30 => first | (go_simp; done) | (go_simp; rfl)); intro g30 v30 _ _ _ _) | ((fail_if_success (have _q := w162)); go_at_call 11; (with_reducible refine (same_any _ e _ _ A151 A146 _ _ _ (Nat.le_refl _) (tr _ A151) (tr _ A146)).mono ?_); rintro e162 w162 ⟨rfl, hb⟩; haveI : Bel _ w162 := ⟨hb⟩; clear hb))
            go_ret
            exact ⟨rfl, ext w _⟩
end Go.Proofs.Ytdcnmaklnciofaa
