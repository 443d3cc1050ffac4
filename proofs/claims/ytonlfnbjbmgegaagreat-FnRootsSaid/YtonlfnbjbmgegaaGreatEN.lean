/-
  Walks: powers by multiplying; what is negligible; PowerOfSurreal, IsNegligible.
-/
import Derived.Test.YtonlfnbjbmgegaaGreatBL
import Derived.Test.YtonlfnbjbmgegaaGreatBG
namespace Go.Proofs.YtonlfnbjbmgegaaGreat
open Go.RowKit
open List renaming getElem_toArray → zp1, getElem_cons_zero → zp2, getElem_cons_succ → zp3, setIfInBounds_toArray → zp4, set_cons_zero → zp5, set_cons_succ → zp6
set_option linter.unusedSimpArgs false
set_option linter.unusedVariables false

/-- a number that can be read, apart from all that was, and whether there is one -/
def RetSB (w : World) (o : Option Sur) (e : Ending) (w' : World) : Prop :=
  ∃ A c, e = .returned (.tuple #[.agg #[.slice A (o.getD .nil).len c], .bool o.isSome]) ∧ SSl (XL w) w' (o.getD .nil) A c ∧ Below w.heap.size w w'
/-- the same, apart from X -/
def RetSX (X : Nat → Prop) (w : World) (o : Option Sur) (e : Ending) (w' : World) : Prop :=
  ∃ A c, e = .returned (.tuple #[.agg #[.slice A (o.getD .nil).len c], .bool o.isSome]) ∧ SSl X w' (o.getD .nil) A c ∧ Below w.heap.size w w'
theorem SSl.hd1 {X : Nat → Prop} {w : World} {e r : Sur} {n d : Int} {A : Option Addr} {c : Nat} (h : SSl X w (.cons e n d r) A c) : SSl X w (.cons e n d .nil) A c := by
  obtain ⟨h1, h2, h3⟩ := h
  simp only [Sur.len] at h1
  refine ⟨by simp only [Sur.len]; omega, h2, ?_⟩
  cases A with
  | none => simp [Sur.len] at h3
  | some a =>
    obtain ⟨ha, k1, k2, k3, k4, k5, k6, _⟩ := h3
    exact ⟨ha, k1, k2, k3, k4, k5, k6, trivial⟩
attribute [local go_sem high] has_cell has_frozen
set_option synthInstance.maxHeartbeats 2000000 in
set_option synthInstance.maxSize 4000 in
set_option maxHeartbeats 4000000 in
set_option maxRecDepth 100000 in
theorem mpower_any (x : Sur) (k : Int) (bad : Bool) (mb : Nat) (X : Nat → Prop) (A : Option Addr) (c : Nat) (w : World) [Has w mb (.cells #[.bool bad] 61)] [XOk X mb] (sx : SSl X w x A c) (h0 : 0 ≤ k) (h1 : k ≤ 12) :
    Calls Tryz.prog 38 #[.pointer (some ⟨mb, 0, none⟩), .agg #[.slice A x.len c], .int .i64 k] w fun e w' => ∃ A' c', e = .returned (.agg #[.slice A' (mpow x k bad).2.len c']) ∧ SSl (XL w) w' (mpow x k bad).2 A' c' ∧ Below w.heap.size (w.setCell ⟨mb, 0, none⟩ (.bool (mpow x k bad).1)) w' := by
  haveI := Tr.arg sx
  clear sx
  go_enter Tryz.func38, Tryz.ntmps38
  go_wp2_with (first | ((with_reducible refine at_dst (N := 4) rfl ?_); refine ev_box (cs := #[.slice A x.len c]) (t := 26) rfl ?hr4 ?_; (case hr4 => first | (go_simp; done) | (go_simp; rfl)); intro g4 v4 _ _ _ _) | ((with_reducible refine at_dst (N := 6) rfl ?_); refine ev_box (cs := #[.slice none 0 0]) (t := 26) rfl ?hr6 ?_; (case hr6 => first | (go_simp; done) | (go_simp; rfl)); intro g6 v6 _ _ _ _) | ((with_reducible refine at_dst (N := 7) rfl ?_); refine ev_box (cs := #[.slice none 0 0]) (t := 26) rfl ?hr7 ?_; (case hr7 => first | (go_simp; done) | (go_simp; rfl)); intro g7 v7 _ _ _ _) | (go_at_call 85; refine (whole_any 1 _).mono ?_; rintro e5 w5 ⟨rfl, hb⟩; haveI : Bel _ w5 := ⟨hb⟩; clear hb) | (go_at_call 89; refine (real_any 1 1 (XL _) _ (fun k hk => hk) ⟨by decide, by decide⟩ ⟨by decide, by decide⟩).mono ?_; rintro e6 w6 ⟨Ap, cp, rfl, hs, hb⟩; haveI : Bel _ w6 := ⟨hb⟩; haveI := Tr.arg hs; clear hs hb))
  have hone : termP .nil 1 1 = oneS := rfl
  simp only [hone] at *
  clear hone
  go_loopw [8] (fun s wr => ∃ (i : Nat) (b : Bool) (Ao : Option Addr) (co : Nat) (out : Sur), s = .int .i64 i ∧ (i : Int) ≤ k ∧ Has wr mb (.cells #[.bool b] 61) ∧ Has wr g7 (.cells #[.slice Ao out.len co] 26) ∧
      Tr wr Ao (XV wr (XU (XE mb) (XU (XE g6) (XU (XE g7) (XL w))))) out co ∧ Kp v7 (XU (XE mb) (XE g7)) wr ∧ Hid (mpow x k bad = mpowGo x k (13 - i) i b out)) (fun s _ => 20 - (intOf s).toNat)
  case atStart => exact ⟨0, bad, Ap, cp, oneS, rfl, h0, inferInstance, inferInstance, Tr.lp (XU (XE mb) (XU (XE g6) (XU (XE g7) (XL w)))), kp _ _ _, rfl⟩
  case round =>
    obtain ⟨i, b, Ao, co, out, rfl, hi, _, _, _, _, HS⟩ := hrel
    by_cases hgo : (i : Int) < k ∧ b = false
    · obtain ⟨hgi, rfl⟩ := hgo
      have HN := Lib.hid (HS.out.trans (mpowGo_step x k i out hgi (by omega)))
      clear HS
      go_wp2_with (first | (go_at_call 51; refine (mmul_any out x false mb _ _ _ _ _ _ _ (tr _ Ao) (tr _ A) has1 has_frozen).mono ?_; rintro e7 w7 ⟨A7, c7, rfl, hf, hb⟩; haveI := belM hb; haveI := Fs.of hf; clear hf hb))
      exact ⟨⟨i + 1, _, A7, c7, _, by go_num, by omega, inferInstance, inferInstance, Tr.lp (XU (XE mb) (XU (XE g6) (XU (XE g7) (XL w)))), kp _ _ _, by rw [HN.out]; rfl⟩, by simp [intOf]; omega⟩
    · have HE := Lib.hid (HS.out.trans (mpowGo_stop x k _ _ _ _ hgo))
      clear HS
      cases b
      · have hni : ¬ (i : Int) < k := fun h => hgo ⟨h, rfl⟩
        clear hgo
        go_wp2
        refine bodyPost_ret (v := .agg #[.slice Ao out.len co]) (by simp [results, Tryz.results38, go_sem]) rfl ?_
        rw [HE.out]
        exact ⟨Ao, co, rfl, (trx (XL w) _ Ao : SSl (XL w) _ out Ao co), marked w _ mb⟩
      · clear hgo
        by_cases hle : (i : Int) < k
        all_goals
          go_wp2
          refine bodyPost_ret (v := .agg #[.slice Ao out.len co]) (by simp [results, Tryz.results38, go_sem]) rfl ?_
          rw [HE.out]
          exact ⟨Ao, co, rfl, (trx (XL w) _ Ao : SSl (XL w) _ out Ao co), marked w _ mb⟩

set_option maxHeartbeats 1600000 in
set_option maxRecDepth 100000 in
theorem mtold_s (x : Sur) (bad : Bool) (mb : Nat) (X : Nat → Prop) (A : Option Addr) (c : Nat) (w : World) [Has w mb (.cells #[.bool bad] 61)] (sx : SSl X w x A c) :
    Calls Tryz.prog 45 #[.pointer (some ⟨mb, 0, none⟩), .agg #[.slice A x.len c]] w (RetSX X w (if bad = true then none else some x)) := by
  haveI := Tr.arg sx
  clear sx
  cases bad
  · go_enter Tryz.func45, Tryz.ntmps45
    go_wp2_with (first | ((with_reducible refine at_dst (N := 3) rfl ?_); refine ev_box (cs := #[.slice A x.len c]) (t := 26) rfl ?hr3 ?_; (case hr3 => first | (go_simp; done) | (go_simp; rfl)); intro g3 v3 _ _ _ _) | ((with_reducible refine at_dst (N := 4) rfl ?_); refine ev_box (cs := #[.slice none 0 0]) (t := 26) rfl ?hr4 ?_; (case hr4 => first | (go_simp; done) | (go_simp; rfl)); intro g4 v4 _ _ _ _))
    refine bodyPost_ret (v := .tuple #[.agg #[.slice A x.len c], .bool true]) (by simp [results, Tryz.results45, go_sem]) rfl ?_
    exact ⟨A, c, rfl, (trx X _ A : SSl X _ x A c), ext _ _⟩
  · go_enter Tryz.func45, Tryz.ntmps45
    go_wp2_with (first | ((with_reducible refine at_dst (N := 3) rfl ?_); refine ev_box (cs := #[.slice A x.len c]) (t := 26) rfl ?hr3 ?_; (case hr3 => first | (go_simp; done) | (go_simp; rfl)); intro g3 v3 _ _ _ _) | ((with_reducible refine at_dst (N := 4) rfl ?_); refine ev_box (cs := #[.slice none 0 0]) (t := 26) rfl ?hr4 ?_; (case hr4 => first | (go_simp; done) | (go_simp; rfl)); intro g4 v4 _ _ _ _))
    refine bodyPost_ret (v := .tuple #[.agg #[.slice none 0 0], .bool false]) (by simp [results, Tryz.results45, go_sem]) rfl ?_
    exact ⟨none, 0, rfl, SSl.nil _ _, ext _ _⟩

set_option synthInstance.maxHeartbeats 2000000 in
set_option synthInstance.maxSize 4000 in
set_option maxHeartbeats 3200000 in
set_option maxRecDepth 100000 in
theorem PowerOfSurreal_any (x : Sur) (k : Int) (X : Nat → Prop) (A : Option Addr) (c : Nat) (w : World) (sx : SSl X w x A c) :
    Calls Tryz.prog 10 #[.agg #[.slice A x.len c], .int .i64 k] w (RetSB w (powK x k)) := by
  haveI := Tr.arg (sx.more (Y := XN) (fun _ h => h.elim))
  clear sx
  cases hg : sGood x
  · have H := Lib.hid (show powK x k = none by simp only [powK, hg]; rfl)
    go_enter Tryz.func10, Tryz.ntmps10
    go_wp2_with (first | ((with_reducible refine at_dst (N := 2) rfl ?_); refine ev_box (cs := #[.slice A x.len c]) (t := 26) rfl ?hr2 ?_; (case hr2 => first | (go_simp; done) | (go_simp; rfl)); intro g2 v2 _ _ _ _) | ((with_reducible refine at_dst (N := 4) rfl ?_); refine ev_box (cs := #[.slice none 0 0]) (t := 26) rfl ?hr4 ?_; (case hr4 => first | (go_simp; done) | (go_simp; rfl)); intro g4 v4 _ _ _ _) | (go_at_call 29; refine (IsSurreal_any x _ A c _ (tr _ A)).mono ?_; rintro e8 w8 ⟨rfl, hb⟩; haveI : Bel _ w8 := ⟨hb⟩; clear hb))
    refine bodyPost_ret (v := .tuple #[.agg #[.slice none 0 0], .bool false]) (by simp [results, Tryz.results10, go_sem]) rfl ?_
    rw [H.out]
    exact ⟨none, 0, rfl, SSl.nil _ _, ext _ _⟩
  · cases hn : stepsB k
    · have H := Lib.hid (show powK x k = none by simp only [powK, hg, hn]; rfl)
      go_enter Tryz.func10, Tryz.ntmps10
      go_wp2_with (first | ((with_reducible refine at_dst (N := 2) rfl ?_); refine ev_box (cs := #[.slice A x.len c]) (t := 26) rfl ?hr2 ?_; (case hr2 => first | (go_simp; done) | (go_simp; rfl)); intro g2 v2 _ _ _ _) | ((with_reducible refine at_dst (N := 4) rfl ?_); refine ev_box (cs := #[.slice none 0 0]) (t := 26) rfl ?hr4 ?_; (case hr4 => first | (go_simp; done) | (go_simp; rfl)); intro g4 v4 _ _ _ _) | (go_at_call 29; refine (IsSurreal_any x _ A c _ (tr _ A)).mono ?_; rintro e8 w8 ⟨rfl, hb⟩; haveI : Bel _ w8 := ⟨hb⟩; clear hb) | (go_at_call 31; refine (stepsOk_any k _).mono ?_; rintro e3 w3 ⟨rfl, rfl⟩))
      refine bodyPost_ret (v := .tuple #[.agg #[.slice none 0 0], .bool false]) (by simp [results, Tryz.results10, go_sem]) rfl ?_
      rw [H.out]
      exact ⟨none, 0, rfl, SSl.nil _ _, ext _ _⟩
    · have H := Lib.hid (show (if (mpow x k false).1 = true then none else some (mpow x k false).2) = powK x k by simp only [powK, hg, hn]; rfl)
      have hk := stepsB_true hn
      go_enter Tryz.func10, Tryz.ntmps10
      go_wp2_with (first | ((with_reducible refine at_dst (N := 2) rfl ?_); refine ev_box (cs := #[.slice A x.len c]) (t := 26) rfl ?hr2 ?_; (case hr2 => first | (go_simp; done) | (go_simp; rfl)); intro g2 v2 _ _ _ _) | ((with_reducible refine at_dst (N := 4) rfl ?_); refine ev_box (cs := #[.slice none 0 0]) (t := 26) rfl ?hr4 ?_; (case hr4 => first | (go_simp; done) | (go_simp; rfl)); intro g4 v4 _ _ _ _) | (go_at_call 29; refine (IsSurreal_any x _ A c _ (tr _ A)).mono ?_; rintro e8 w8 ⟨rfl, hb⟩; haveI : Bel _ w8 := ⟨hb⟩; clear hb) | (go_at_call 31; refine (stepsOk_any k _).mono ?_; rintro e3 w3 ⟨rfl, rfl⟩) | ((with_reducible refine at_dst (N := 6) rfl ?_); refine ev_box (cs := #[.bool false]) (t := 61) rfl ?hr6 ?_; (case hr6 => first | (go_simp; done) | (go_simp; rfl)); intro g6 v6 _ _ _ _) | (go_at_call 38; refine (mpower_any x k false g6 (XE g6) A c _ (trx (XE g6) _ A) hk.1 hk.2).mono ?_; rintro e19 w19 ⟨A19, c19, rfl, hs, hb⟩; haveI := belM hb; haveI := Tr.arg hs; clear hs hb) | (go_at_call 45; refine (mtold_s (mpow x k false).2 (mpow x k false).1 g6 (XL v6) A19 c19 _ (trx (XL v6) _ A19)).mono ?_; rintro e20 w20 ⟨A20, c20, he, hs, hb⟩; rw [H.out] at he hs; subst he; haveI : Bel _ w20 := ⟨hb⟩; haveI := Tr.arg hs; clear hs hb))
      refine bodyPost_ret (v := .tuple #[.agg #[.slice A20 ((powK x k).getD .nil).len c20], .bool (powK x k).isSome]) (by simp [results, Tryz.results10, go_sem]) rfl ?_
      exact ⟨A20, c20, rfl, trx (XL w) _ A20, ext _ _⟩

theorem neglB_nil (x : Sur) : neglB x .nil = false := by cases x <;> rfl
set_option synthInstance.maxHeartbeats 2000000 in
set_option maxHeartbeats 3200000 in
set_option maxRecDepth 100000 in
theorem negligible_any (x y : Sur) (X Y : Nat → Prop) (A A' : Option Addr) (c c' : Nat) (w : World) (sx : SSl X w x A c) (sy : SSl Y w y A' c') (hx : x.All Bd) (hy : y.All Bd) :
    Calls Tryz.prog 50 #[.agg #[.slice A x.len c], .agg #[.slice A' y.len c']] w fun e w' => e = .returned (.bool (neglB x y)) ∧ Below w.heap.size w w' := by
  have lx := sx.cap
  have lx' := sx.le
  have ly := sy.cap
  have ly' := sy.le
  unfold maxLen at lx ly
  cases y with
  | nil =>
    have E := Lib.hid (neglB_nil x)
    simp only [Sur.len] at *
    go_enter Tryz.func50, Tryz.ntmps50
    go_wp2_with (first | ((with_reducible refine at_dst (N := 2) rfl ?_); refine ev_box (cs := #[.slice A x.len c]) (t := 26) rfl ?hr2 ?_; (case hr2 => first | (go_simp; done) | (go_simp; rfl)); intro g2 v2 _ _ _ _) | ((with_reducible refine at_dst (N := 3) rfl ?_); refine ev_box (cs := #[.slice A' 0 c']) (t := 26) rfl ?hr3 ?_; (case hr3 => first | (go_simp; done) | (go_simp; rfl)); intro g3 v3 _ _ _ _))
    go_ret
    exact ⟨by rw [E.out]; rfl, ext _ _⟩
  | cons e' n' d' r' =>
    have hl1 : ((r'.len : Int) + 1 == 0) = false := by simp; omega
    have hl2 : (0 : Int) < (r'.len : Int) + 1 := by omega
    cases x with
    | nil =>
      simp only [Sur.len] at *
      go_enter Tryz.func50, Tryz.ntmps50
      go_wp2_with (first | ((with_reducible refine at_dst (N := 2) rfl ?_); refine ev_box (cs := #[.slice A 0 c]) (t := 26) rfl ?hr2 ?_; (case hr2 => first | (go_simp; done) | (go_simp; rfl)); intro g2 v2 _ _ _ _) | ((with_reducible refine at_dst (N := 3) rfl ?_); refine ev_box (cs := #[.slice A' (r'.len + 1) c']) (t := 26) rfl ?hr3 ?_; (case hr3 => first | (go_simp; done) | (go_simp; rfl)); intro g3 v3 _ _ _ _))
      go_ret
      exact ⟨rfl, ext _ _⟩
    | cons e n d r =>
      have hl3 : ((r.len : Int) + 1 == 0) = false := by simp; omega
      obtain ⟨b, o, e1, n1, dd1, A1, d1, rfl, hxk, q0, _, _, se, _, _, _, hbl⟩ := sx.at_ (k := 0) (by simp [Sur.len])
      simp only [Sur.drop] at hxk
      injection hxk with h1 h2 h3
      subst h1 h2 h3
      obtain ⟨b', o', e2, n2, dd2, A2, d2, rfl, hyk, q0', _, _, se', _, _, _, hbl'⟩ := sy.at_ (k := 0) (by simp [Sur.len])
      simp only [Sur.drop] at hyk
      injection hyk with h1 h2 h3
      subst h1 h2 h3
      simp only [Nat.zero_mul, Nat.add_zero] at q0 q0'
      haveI := Tr.arg se
      haveI := Tr.arg se'
      clear se sx se' sy
      have HB : Hid (e.All Bd ∧ e'.All Bd) := ⟨hx.1, hy.1⟩
      have Q0 : ∀ W, Ext w W → W.cell? ⟨b, o, none⟩ = some (.slice A1 e.len d1) := fun W h => ((h.h).cell hbl).trans q0
      have Q1 : ∀ W, Ext w W → W.cell? ⟨b', o', none⟩ = some (.slice A2 e'.len d2) := fun W h => ((h.h).cell hbl').trans q0'
      simp only [Sur.len] at *
      go_enter Tryz.func50, Tryz.ntmps50
      go_upto_region 3 with (first | ((with_reducible refine at_dst (N := 2) rfl ?_); refine ev_box (cs := #[.slice (some ⟨b, o, none⟩) (r.len + 1) c]) (t := 26) rfl ?hr2 ?_; (case hr2 => first | (go_simp; done) | (go_simp; rfl)); intro g2 v2 _ _ _ _) | ((with_reducible refine at_dst (N := 3) rfl ?_); refine ev_box (cs := #[.slice (some ⟨b', o', none⟩) (r'.len + 1) c']) (t := 26) rfl ?hr3 ?_; (case hr3 => first | (go_simp; done) | (go_simp; rfl)); intro g3 v3 _ _ _ _))
      refine wp_region_held_drew (S := (fun w' => w'.cell? ⟨g2, 0, none⟩ = some (.slice (some ⟨b, o, none⟩) (r.len + 1) c) ∧ w'.cell? ⟨g3, 0, none⟩ = some (.slice (some ⟨b', o', none⟩) (r'.len + 1) c') ∧ w'.cell? ⟨b, o, none⟩ = some (.slice A1 e.len d1) ∧ w'.cell? ⟨b', o', none⟩ = some (.slice A2 e'.len d2))) (by kernel_rfl) ?hSn1_ (fun hHeld => ?hRn1_)
      case hSn1_ => (exact ⟨has1, has1, Q0 _ inferInstance, Q1 _ inferInstance⟩)
      refine wpAnyH_take (i := 0) (v := ?vn1_1) rfl (by kernel_rfl) (by kernel_rfl) (by kernel_rfl) (fun _ _ _ h => h) (Or.inl ⟨by rfl, ?hyn1_1⟩) (by assumption) ?hRn1_1
      case hyn1_1 => (intro w hSw; (try dsimp only at hSw); go_simp; (try with_reducible rfl))
      try simp only [Act.put, zp1, zp2, zp3, zp4, zp5, zp6]
      refine wpAnyH_take (i := 1) (v := ?vn1_2) rfl (by kernel_rfl) (by kernel_rfl) (by kernel_rfl) (fun _ _ _ h => h) (Or.inl ⟨by rfl, ?hyn1_2⟩) (by assumption) ?hRn1_2
      case hyn1_2 => (intro w hSw; (try dsimp only at hSw); go_simp; (try with_reducible rfl))
      try simp only [Act.put, zp1, zp2, zp3, zp4, zp5, zp6]
      refine wpAnyH_take (i := 2) (v := ?vn1_3) rfl (by kernel_rfl) (by kernel_rfl) (by kernel_rfl) (fun _ _ _ h => h) (Or.inl ⟨by rfl, ?hyn1_3⟩) (by assumption) ?hRn1_3
      case hyn1_3 => (intro w hSw; (try dsimp only at hSw); go_simp; (try with_reducible rfl))
      try simp only [Act.put, zp1, zp2, zp3, zp4, zp5, zp6]
      refine wpAnyH_take (i := 3) (v := ?vn1_4) rfl (by kernel_rfl) (by kernel_rfl) (by kernel_rfl) (fun _ _ _ h => h) (Or.inl ⟨by rfl, ?hyn1_4⟩) (by assumption) ?hRn1_4
      case hyn1_4 => (intro w hSw; (try dsimp only at hSw); go_simp; (try with_reducible rfl))
      try simp only [Act.put, zp1, zp2, zp3, zp4, zp5, zp6]
      refine wpAnyH_take (i := 4) (v := ?vn1_5) rfl (by kernel_rfl) (by kernel_rfl) (by kernel_rfl) (fun _ _ _ h => h) (Or.inl ⟨by rfl, ?hyn1_5⟩) (by assumption) ?hRn1_5
      case hyn1_5 => (intro w hSw; (try dsimp only at hSw); go_simp; (try with_reducible rfl))
      try simp only [Act.put, zp1, zp2, zp3, zp4, zp5, zp6]
      refine wpAnyH_take (i := 5) (v := ?vn1_6) rfl (by kernel_rfl) (by kernel_rfl) (by kernel_rfl) (fun _ _ _ h => h) (Or.inl ⟨by rfl, ?hyn1_6⟩) (by assumption) ?hRn1_6
      case hyn1_6 => (intro w hSw; (try dsimp only at hSw); go_simp; (try with_reducible rfl))
      try simp only [Act.put, zp1, zp2, zp3, zp4, zp5, zp6]
      refine wpAnyH_take (i := 6) (v := ?vn1_7) rfl (by kernel_rfl) (by kernel_rfl) (by kernel_rfl) (fun _ _ _ h => h) (Or.inl ⟨by rfl, ?hyn1_7⟩) (by assumption) ?hRn1_7
      case hyn1_7 => (intro w hSw; (try dsimp only at hSw); go_simp; (try with_reducible rfl))
      try simp only [Act.put, zp1, zp2, zp3, zp4, zp5, zp6]
      refine wpAnyH_take (i := 7) (v := ?vn1_8) rfl (by kernel_rfl) (by kernel_rfl) (by kernel_rfl) (fun _ _ _ h => h) (Or.inl ⟨by rfl, ?hyn1_8⟩) (by assumption) ?hRn1_8
      case hyn1_8 => (intro w hSw; (try dsimp only at hSw); go_simp; (try with_reducible rfl))
      try simp only [Act.put, zp1, zp2, zp3, zp4, zp5, zp6]
      refine wpAnyH_take (i := 8) (v := ?vn1_9) rfl (by kernel_rfl) (by kernel_rfl) (by kernel_rfl) (fun _ _ _ h => h) (Or.inl ⟨by rfl, ?hyn1_9⟩) (by assumption) ?hRn1_9
      case hyn1_9 => (intro w hSw; (try dsimp only at hSw); go_simp; (try with_reducible rfl))
      try simp only [Act.put, zp1, zp2, zp3, zp4, zp5, zp6]
      refine wpAnyH_take (i := 9) (v := ?vn1_10) rfl (by kernel_rfl) (by kernel_rfl) (by kernel_rfl) (fun _ _ _ h => h) (Or.inl ⟨by rfl, ?hyn1_10⟩) (by assumption) ?hRn1_10
      case hyn1_10 => (intro w hSw; (try dsimp only at hSw); go_simp; (try with_reducible rfl))
      try simp only [Act.put, zp1, zp2, zp3, zp4, zp5, zp6]
      refine wpAnyH_ready (rs := [10]) (by kernel_rfl) (by simp) ?_
      refine AllReadyH.cons rfl (fun K hK => ?_) AllReadyH.nil
      go_simp
      ((go_at_call 49; refine (order_any _ e e' _ _ A1 A2 d1 d2 _ (Nat.le_refl _) HB.out.1 HB.out.2 (tr _ A1) (tr _ A2)).mono ?_; rintro e29 w29 ⟨rfl, hb⟩; haveI : Bel _ w29 := ⟨hb⟩; clear hb))
      go_wp2_with fail
      refine hK.out _ _ ?hSn1_11 (fun hHeld => ?hRn1_11)
      case hSn1_11 => ((try dsimp only); exact ⟨has1, has1, Q0 _ inferInstance, Q1 _ inferInstance⟩)
      clear hK K
      try simp only [Act.put, zp1, zp2, zp3, zp4, zp5, zp6]
      refine wpAnyH_take (i := 11) (v := ?vn1_12) rfl (by kernel_rfl) (by kernel_rfl) (by kernel_rfl) (fun _ _ _ h => h) (Or.inl ⟨by rfl, ?hyn1_12⟩) (by assumption) ?hRn1_12
      case hyn1_12 => (intro w hSw; (try dsimp only at hSw); go_simp; (try with_reducible rfl))
      try simp only [Act.put, zp1, zp2, zp3, zp4, zp5, zp6]
      refine wpAnyH_take (i := 12) (v := ?vn1_13) rfl (by kernel_rfl) (by kernel_rfl) (by kernel_rfl) (fun _ _ _ h => h) (Or.inl ⟨by rfl, ?hyn1_13⟩) (by assumption) ?hRn1_13
      case hyn1_13 => (intro w hSw; (try dsimp only at hSw); go_simp; (try with_reducible rfl))
      try simp only [Act.put, zp1, zp2, zp3, zp4, zp5, zp6]
      refine wpAnyH_done (by kernel_rfl) ?_ _
      go_wp2
      go_ret
      exact ⟨rfl, ext _ _⟩

def RetNegl (w : World) (x y : Sur) (e : Ending) (w' : World) : Prop := e = .returned (.tuple #[.bool ((sGood x && sGood y) && neglB x y), .bool (sGood x && sGood y)]) ∧ Below w.heap.size w w'
end Go.Proofs.YtonlfnbjbmgegaaGreat
