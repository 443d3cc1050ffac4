/-
  Walks: RootTerms, the program's.
-/
import Derived.Test.YtonlfnbjbmgegaaGreatWRt0
import Derived.Test.YtonlfnbjbmgegaaGreatWQuo2
namespace Go.Proofs.YtonlfnbjbmgegaaGreat
open Go.RowKit
open List renaming getElem_toArray → zp1, getElem_cons_zero → zp2, getElem_cons_succ → zp3, setIfInBounds_toArray → zp4, set_cons_zero → zp5, set_cons_succ → zp6
set_option linter.unusedSimpArgs false
set_option linter.unusedVariables false

attribute [local go_sem high] has_cell has_frozen
/-- two numbers with blocks of their own, the first one's made first, and whether there are any -/
def RetTw (w : World) (o : Option (Sur × Sur)) (e : Ending) (w' : World) : Prop :=
  ∃ A1 c1 A2 c2, ∃ U : World, e = .returned (.tuple #[.agg #[.slice A1 (o.getD (.nil, .nil)).1.len c1], .agg #[.slice A2 (o.getD (.nil, .nil)).2.len c2], .bool o.isSome]) ∧ Fs w' A1 w U (o.getD (.nil, .nil)).1 c1 ∧ Fs w' A2 U w' (o.getD (.nil, .nil)).2 c2 ∧ LeB w U ∧ LeB U w' ∧ Below w.heap.size w w'
theorem RetTw.none {w w' : World} (hb : Below w.heap.size w w') {o : Option (Sur × Sur)} (h : o = .none) : RetTw w o (.returned (.tuple #[.agg #[.slice .none 0 0], .agg #[.slice .none 0 0], .bool false])) w' := by
  subst h
  exact ⟨.none, 0, .none, 0, w, rfl, Fs.nil, Fs.nil, inferInstance, ⟨hb.size⟩, hb⟩
theorem Fs.down {W U v U' : World} {A : Option Addr} {x : Sur} {c : Nat} [b : Fs W A U v x c] [a : LeB U' U] : Fs W A U' v x c := ⟨by
  obtain ⟨bs, h1, h2, h3⟩ := b.h
  exact ⟨bs, h1, h2, fun k hk => ⟨Nat.le_trans a.h (h3 k hk).1, (h3 k hk).2⟩⟩⟩
theorem RetTw.q {w w' : World} {o : Option (Sur × Sur)} {e : Ending} (h : RetTw w o e w') : RetQ w o e w' := by
  obtain ⟨A1, c1, A2, c2, U, he, h1, h2, h3, h4, hb⟩ := h
  haveI := h1
  haveI := h2
  haveI := h3
  exact ⟨A1, c1, A2, c2, he, (fs w' A1 w).toS fun k hk => hk, (fs w' A2 w).toS fun k hk => hk, hb⟩
set_option synthInstance.maxHeartbeats 2000000 in
set_option maxHeartbeats 1600000 in
set_option maxRecDepth 100000 in
/-- twoTold, the slices themselves -/
theorem mtwo_val (n n' : Nat) (bad : Bool) (mb : Nat) (A A' : Option Addr) (c c' : Nat) (w : World) [Has w mb (.cells #[.bool bad] 61 (0, 0))] :
    Calls Tryz.prog 39 #[.pointer (some ⟨mb, 0, none⟩), .agg #[.slice A n c], .agg #[.slice A' n' c']] w fun e w' => e = .returned (if bad = true then .tuple #[.agg #[.slice none 0 0], .agg #[.slice none 0 0], .bool false] else .tuple #[.agg #[.slice A n c], .agg #[.slice A' n' c'], .bool true]) ∧ Below w.heap.size w w' := by
  cases bad
  · go_enter Tryz.func39, Tryz.ntmps39
    go_upto_region 3 with (first | ((with_reducible refine at_dst (N := 4) rfl ?_); refine ev_box (cs := #[.slice A n c]) (t := 26) rfl ?hr4 ?_; (case hr4 => first | (go_simp; done) | (go_simp; rfl)); intro g4 v4 _ _ _ _) | ((with_reducible refine at_dst (N := 5) rfl ?_); refine ev_box (cs := #[.slice A' n' c']) (t := 26) rfl ?hr5 ?_; (case hr5 => first | (go_simp; done) | (go_simp; rfl)); intro g5 v5 _ _ _ _) | ((with_reducible refine at_dst (N := 6) rfl ?_); refine ev_box (cs := #[.slice none 0 0]) (t := 26) rfl ?hr6 ?_; (case hr6 => first | (go_simp; done) | (go_simp; rfl)); intro g6 v6 _ _ _ _) | ((with_reducible refine at_dst (N := 7) rfl ?_); refine ev_box (cs := #[.slice none 0 0]) (t := 26) rfl ?hr7 ?_; (case hr7 => first | (go_simp; done) | (go_simp; rfl)); intro g7 v7 _ _ _ _))
    refine wp_region_held_drew (S := (fun w' => w'.cell? ⟨g4, 0, none⟩ = some (.slice A n c) ∧ w'.cell? ⟨g5, 0, none⟩ = some (.slice A' n' c'))) (by kernel_rfl) ?hSn1_ (fun hHeld => ?hRn1_)
    case hSn1_ => (exact ⟨has1, has1⟩)
    refine wpAnyH_take (i := 0) (v := ?vn1_1) rfl (by kernel_rfl) (by kernel_rfl) (by kernel_rfl) (fun _ _ _ h => h) (Or.inl ⟨by rfl, ?hyn1_1⟩) (by assumption) ?hRn1_1
    case hyn1_1 => (intro w hSw; (try dsimp only at hSw); go_simp; (try with_reducible rfl))
    try simp only [Act.put, zp1, zp2, zp3, zp4, zp5, zp6]
    refine wpAnyH_take (i := 1) (v := ?vn1_2) rfl (by kernel_rfl) (by kernel_rfl) (by kernel_rfl) (fun _ _ _ h => h) (Or.inl ⟨by rfl, ?hyn1_2⟩) (by assumption) ?hRn1_2
    case hyn1_2 => (intro w hSw; (try dsimp only at hSw); go_simp; (try with_reducible rfl))
    try simp only [Act.put, zp1, zp2, zp3, zp4, zp5, zp6]
    refine wpAnyH_ready (rs := [2]) (by kernel_rfl) (by simp) ?_
    refine AllReadyH.cons rfl (fun K hK => ?_) AllReadyH.nil
    go_simp
    refine hK.out _ _ ?hSn1_3 (fun hHeld => ?hRn1_3)
    case hSn1_3 => ((try dsimp only); exact ⟨has1, has1⟩)
    clear hK K
    try simp only [Act.put, zp1, zp2, zp3, zp4, zp5, zp6]
    refine wpAnyH_ready (rs := [3]) (by kernel_rfl) (by simp) ?_
    refine AllReadyH.cons rfl (fun K hK => ?_) AllReadyH.nil
    go_simp
    refine hK.out _ _ ?hSn1_4 (fun hHeld => ?hRn1_4)
    case hSn1_4 => ((try dsimp only); exact ⟨has1, has1⟩)
    clear hK K
    try simp only [Act.put, zp1, zp2, zp3, zp4, zp5, zp6]
    refine wpAnyH_take (i := 4) (v := ?vn1_5) rfl (by kernel_rfl) (by kernel_rfl) (by kernel_rfl) (fun _ _ _ h => h) (Or.inl ⟨by rfl, ?hyn1_5⟩) (by assumption) ?hRn1_5
    case hyn1_5 => (intro w hSw; (try dsimp only at hSw); go_simp; (try with_reducible rfl))
    try simp only [Act.put, zp1, zp2, zp3, zp4, zp5, zp6]
    refine wpAnyH_done (by kernel_rfl) ?_ _
    all_goals
      go_wp2
      refine bodyPost_ret (v := .tuple #[.agg #[.slice A n c], .agg #[.slice A' n' c'], .bool true]) (by simp [results, Tryz.results39, go_sem]) rfl ?_
      exact ⟨rfl, ext w _⟩
  · go_enter Tryz.func39, Tryz.ntmps39
    go_wp2_with (first | ((with_reducible refine at_dst (N := 4) rfl ?_); refine ev_box (cs := #[.slice A n c]) (t := 26) rfl ?hr4 ?_; (case hr4 => first | (go_simp; done) | (go_simp; rfl)); intro g4 v4 _ _ _ _) | ((with_reducible refine at_dst (N := 5) rfl ?_); refine ev_box (cs := #[.slice A' n' c']) (t := 26) rfl ?hr5 ?_; (case hr5 => first | (go_simp; done) | (go_simp; rfl)); intro g5 v5 _ _ _ _) | ((with_reducible refine at_dst (N := 6) rfl ?_); refine ev_box (cs := #[.slice none 0 0]) (t := 26) rfl ?hr6 ?_; (case hr6 => first | (go_simp; done) | (go_simp; rfl)); intro g6 v6 _ _ _ _) | ((with_reducible refine at_dst (N := 7) rfl ?_); refine ev_box (cs := #[.slice none 0 0]) (t := 26) rfl ?hr7 ?_; (case hr7 => first | (go_simp; done) | (go_simp; rfl)); intro g7 v7 _ _ _ _))
    refine bodyPost_ret (v := .tuple #[.agg #[.slice none 0 0], .agg #[.slice none 0 0], .bool false]) (by simp [results, Tryz.results39, go_sem]) rfl ?_
    exact ⟨rfl, ext w _⟩
theorem nextRoot_all (s r : Sur) (k : Nat) (mb : Nat) (X Y : Nat → Prop) (A A' : Option Addr) (c c' : Nat) (w : World) [hmb : Has w mb (.cells #[.bool false] 61 (0, 0))] [hX : XOk X mb] [hY : XOk Y mb] (ss : SSl X w s A c) (sr : SSl Y w r A' c') (gs : sGood s = true) (gr : sGood r = true) (nr : r.len ≠ 0) (h2 : 2 ≤ k) (h4 : k ≤ 4) :
    Calls Tryz.prog 35 #[.pointer (some ⟨mb, 0, none⟩), .agg #[.slice A s.len c], .agg #[.slice A' r.len c'], .int .i64 k] w fun e w' => ∃ A' c', e = .returned (.agg #[.slice A' (rnT s r k).len c']) ∧ SSl (XL w) w' (rnT s r k) A' c' ∧ Below w.heap.size (w.setCell ⟨mb, 0, none⟩ (.bool (rnB s r k))) w' := by
  by_cases ns : s.len = 0
  · exact nextRoot0_any s r k mb A A' c c' w ns
  · exact nextRoot_any s r k mb X Y A A' c c' w ss sr gs gr ns nr h2 h4
theorem rs_addG (x y : Sur) (h : (addS x y).isSome = true) : sGood ((addS x y).getD .nil) = true := by
  cases hz : addS x y with
  | none => rw [hz] at h; cases h
  | some z => exact (addS_some hz).2.2.2
theorem rs_subG (x y : Sur) (hy : y.All FOk) (h : (subS x y).isSome = true) : sGood ((subS x y).getD .nil) = true := by
  cases hz : subS x y with
  | none => rw [hz] at h; cases h
  | some z => exact (subS_some hz hy).2.1
set_option synthInstance.maxHeartbeats 2000000 in
set_option synthInstance.maxSize 4000 in
set_option maxHeartbeats 3200000 in
set_option maxRecDepth 100000 in
theorem RootTerms_bad (x : Sur) (k n : Int) (X : Nat → Prop) (A : Option Addr) (c : Nat) (w : World) (sx : SSl X w x A c) (hbad : (sGood x && (inB k 2 4 && stepsB n)) = false) :
    Calls Tryz.prog 7 #[.agg #[.slice A x.len c], .int .i64 k, .int .i64 n] w (RetTw w (rootT x k n)) := by
  haveI := Tr.arg (sx.more (Y := XN) (fun _ h => h.elim))
  clear sx
  have H := Lib.hid (show rootT x k n = none by unfold rootT; rw [hbad]; rfl)
  cases hg : sGood x
  · go_enter Tryz.func7, Tryz.ntmps7
    go_wp2_with (first | ((with_reducible refine at_dst (N := 3) rfl ?_); refine ev_box (cs := #[.slice A x.len c]) (t := 26) rfl ?hr3 ?_; (case hr3 => first | (go_simp; done) | (go_simp; rfl)); intro g3 v3 _ _ _ _) | ((with_reducible refine at_dst (N := 6) rfl ?_); refine ev_box (cs := #[.slice none 0 0]) (t := 26) rfl ?hr6 ?_; (case hr6 => first | (go_simp; done) | (go_simp; rfl)); intro g6 v6 _ _ _ _) | ((with_reducible refine at_dst (N := 7) rfl ?_); refine ev_box (cs := #[.slice none 0 0]) (t := 26) rfl ?hr7 ?_; (case hr7 => first | (go_simp; done) | (go_simp; rfl)); intro g7 v7 _ _ _ _) | (go_at_call 29; refine (IsSurreal_any x _ A c _ (tr _ A)).mono ?_; rintro e15 w15 ⟨rfl, hb⟩; haveI : Bel _ w15 := ⟨hb⟩; clear hb))
    (refine bodyPost_ret (v := .tuple #[.agg #[.slice none 0 0], .agg #[.slice none 0 0], .bool false]) (by simp [results, Tryz.results7, go_sem]) rfl ?_; exact RetTw.none (ext w _) H.out)
  · cases hk : inB k 2 4
    · go_enter Tryz.func7, Tryz.ntmps7
      go_wp2_with (first | ((with_reducible refine at_dst (N := 3) rfl ?_); refine ev_box (cs := #[.slice A x.len c]) (t := 26) rfl ?hr3 ?_; (case hr3 => first | (go_simp; done) | (go_simp; rfl)); intro g3 v3 _ _ _ _) | ((with_reducible refine at_dst (N := 6) rfl ?_); refine ev_box (cs := #[.slice none 0 0]) (t := 26) rfl ?hr6 ?_; (case hr6 => first | (go_simp; done) | (go_simp; rfl)); intro g6 v6 _ _ _ _) | ((with_reducible refine at_dst (N := 7) rfl ?_); refine ev_box (cs := #[.slice none 0 0]) (t := 26) rfl ?hr7 ?_; (case hr7 => first | (go_simp; done) | (go_simp; rfl)); intro g7 v7 _ _ _ _) | (go_at_call 29; refine (IsSurreal_any x _ A c _ (tr _ A)).mono ?_; rintro e15 w15 ⟨rfl, hb⟩; haveI : Bel _ w15 := ⟨hb⟩; clear hb) | (go_at_call 30; refine (in_any k 2 4 _).mono ?_; rintro e19 w19 ⟨rfl, rfl⟩))
      (refine bodyPost_ret (v := .tuple #[.agg #[.slice none 0 0], .agg #[.slice none 0 0], .bool false]) (by simp [results, Tryz.results7, go_sem]) rfl ?_; exact RetTw.none (ext w _) H.out)
    · have hn : stepsB n = false := by rw [hg, hk] at hbad; simpa using hbad
      go_enter Tryz.func7, Tryz.ntmps7
      go_wp2_with (first | ((with_reducible refine at_dst (N := 3) rfl ?_); refine ev_box (cs := #[.slice A x.len c]) (t := 26) rfl ?hr3 ?_; (case hr3 => first | (go_simp; done) | (go_simp; rfl)); intro g3 v3 _ _ _ _) | ((with_reducible refine at_dst (N := 6) rfl ?_); refine ev_box (cs := #[.slice none 0 0]) (t := 26) rfl ?hr6 ?_; (case hr6 => first | (go_simp; done) | (go_simp; rfl)); intro g6 v6 _ _ _ _) | ((with_reducible refine at_dst (N := 7) rfl ?_); refine ev_box (cs := #[.slice none 0 0]) (t := 26) rfl ?hr7 ?_; (case hr7 => first | (go_simp; done) | (go_simp; rfl)); intro g7 v7 _ _ _ _) | (go_at_call 29; refine (IsSurreal_any x _ A c _ (tr _ A)).mono ?_; rintro e15 w15 ⟨rfl, hb⟩; haveI : Bel _ w15 := ⟨hb⟩; clear hb) | (go_at_call 30; refine (in_any k 2 4 _).mono ?_; rintro e19 w19 ⟨rfl, rfl⟩) | (go_at_call 31; refine (stepsOk_any n _).mono ?_; rintro e24 w24 ⟨rfl, rfl⟩))
      (refine bodyPost_ret (v := .tuple #[.agg #[.slice none 0 0], .agg #[.slice none 0 0], .bool false]) (by simp [results, Tryz.results7, go_sem]) rfl ?_; exact RetTw.none (ext w _) H.out)

theorem mpow_true (x : Sur) (k : Int) : (mpow x k true).1 = true := by unfold mpow; rw [mpowGo_stop x k 13 0 true oneS (by simp)]
theorem mpowGo_len (x : Sur) (k : Int) : ∀ (f : Nat) (i : Int) (bad : Bool) (out : Sur), out.len ≤ 60 → (mpowGo x k f i bad out).2.len ≤ 60
  | 0, _, _, _, h => h
  | f + 1, i, bad, out, h => by
    simp only [mpowGo]
    split
    · exact mpowGo_len x k f _ _ _ (getD_len fun z h => (mulS_some h).2.2.2)
    · exact h
theorem mpow_len (x : Sur) (k : Int) (b : Bool) : (mpow x k b).2.len ≤ 60 := mpowGo_len x k 13 0 b oneS (by decide)
theorem rs_subG' (x y : Sur) (h : (subS x y).isSome = true) : sGood ((subS x y).getD .nil) = true := by
  cases hz : subS x y with
  | none => rw [hz] at h; cases h
  | some z => unfold subS at hz; exact (addS_some hz).2.2.2
set_option synthInstance.maxHeartbeats 2000000 in
set_option synthInstance.maxSize 4000 in
set_option maxHeartbeats 8000000 in
set_option maxRecDepth 100000 in
theorem RootTerms_good (x : Sur) (KK N : Nat) (X : Nat → Prop) (A : Option Addr) (c : Nat) (w : World) (sx : SSl X w x A c) (gx : sGood x = true) (gk : inB (KK : Int) 2 4 = true) (gn : stepsB (N : Int) = true) :
    Calls Tryz.prog 7 #[.agg #[.slice A x.len c], .int .i64 KK, .int .i64 N] w (RetTw w (rootT x KK N)) := by
  haveI := Tr.arg (sx.more (Y := XN) (fun _ h => h.elim))
  clear sx
  have hk : 2 ≤ (KK : Int) ∧ (KK : Int) ≤ 4 := by simpa [inB] using gk
  have hn := stepsB_true gn
  have HG : Hid (sGood x = true ∧ 2 ≤ KK ∧ KK ≤ 4) := ⟨gx, by omega, by omega⟩
  have HK : Hid (0 ≤ (KK : Int) ∧ (KK : Int) ≤ 12) := ⟨by omega, by omega⟩
  have HN : Hid (x.nodes ≤ 100) := by have := (sGood_len gx).2.1; show _ ≤ _; omega
  have H0 : Hid (rootT x KK N = if (rootsGo x KK N N false .nil x).1 = true then none else some (rootsGo x KK N N false .nil x).2) := by
    show _ = _
    unfold rootT
    rw [if_pos (by rw [gx, gk, gn]; rfl)]
    rfl
  go_enter Tryz.func7, Tryz.ntmps7
  go_wp2_with (first | ((with_reducible refine at_dst (N := 3) rfl ?_); refine ev_box (cs := #[.slice A x.len c]) (t := 26) rfl ?hr3 ?_; (case hr3 => first | (go_simp; done) | (go_simp; rfl)); intro g3 v3 _ _ _ _) | ((with_reducible refine at_dst (N := 6) rfl ?_); refine ev_box (cs := #[.slice none 0 0]) (t := 26) rfl ?hr6 ?_; (case hr6 => first | (go_simp; done) | (go_simp; rfl)); intro g6 v6 _ _ _ _) | ((with_reducible refine at_dst (N := 7) rfl ?_); refine ev_box (cs := #[.slice none 0 0]) (t := 26) rfl ?hr7 ?_; (case hr7 => first | (go_simp; done) | (go_simp; rfl)); intro g7 v7 _ _ _ _) | (go_at_call 29; refine (IsSurreal_any x _ A c _ (tr _ A)).mono ?_; rintro e15 w15 ⟨rfl, hb⟩; haveI : Bel _ w15 := ⟨hb⟩; clear hb) | (go_at_call 30; with_reducible refine (in_any (KK : Int) 2 4 _).mono ?_; rintro e19 w19 ⟨rfl, rfl⟩) | (go_at_call 31; with_reducible refine (stepsOk_any (N : Int) _).mono ?_; rintro e24 w24 ⟨rfl, rfl⟩) | ((with_reducible refine at_dst (N := 9) rfl ?_); refine ev_box (cs := #[.bool false]) (t := 61) rfl ?hr9 ?_; (case hr9 => first | (go_simp; done) | (go_simp; rfl)); intro g9 v9 _ _ _ _) | (go_at_call 32; refine (clone_any 100 (by omega) x _ A c _ HN.out (tr _ A)).mono ?_; rintro e32 w32 ⟨A18, c18, rfl, hf, hb⟩; haveI : Bel _ w32 := ⟨hb⟩; haveI := Fs.of hf; clear hf hb) | ((with_reducible refine at_dst (N := 10) rfl ?_); refine ev_box (cs := #[.slice none 0 0]) (t := 26) rfl ?hr10 ?_; (case hr10 => first | (go_simp; done) | (go_simp; rfl)); intro g10 v10 _ _ _ _) | ((with_reducible refine at_dst (N := 11) rfl ?_); refine ev_box (cs := #[.slice none 0 0]) (t := 26) rfl ?hr11 ?_; (case hr11 => first | (go_simp; done) | (go_simp; rfl)); intro g11 v11 _ _ _ _))
  go_loopw [12] (fun si wr => ∃ (i : Nat) (bad : Bool) (As : Option Addr) (cs : Nat) (s : Sur) (Ar : Option Addr) (cr : Nat) (r : Sur), si = .int .i64 i ∧ i ≤ N ∧ Has wr g9 (.cells #[.bool bad] 61 (0, 0)) ∧ Has wr g10 (.cells #[.slice As s.len cs] 26 (0, 0)) ∧ Has wr g11 (.cells #[.slice Ar r.len cr] 26 (0, 0)) ∧
      (∃ U : World, Fs wr As v9 U s cs ∧ Fs wr Ar U wr r cr ∧ LeB v9 U ∧ LeB U wr) ∧ Kp v11 (XU (XE g9) (XU (XE g10) (XE g11))) wr ∧ Hid (rootsGo x KK N N false .nil x = rootsGo x KK N (N - i) bad s r ∧ (bad = false → sGood s = true ∧ sGood r = true) ∧ (i = 0 → r = x))) (fun si _ => 20 - (intOf si).toNat)
  case atStart => exact ⟨0, false, none, 0, .nil, A18, c18, x, rfl, by omega, inferInstance, inferInstance, inferInstance, ⟨v9, Fs.nil, Fs.lp, inferInstance, inferInstance⟩, kp _ _ _, rfl, fun _ => ⟨by decide, HG.out.1⟩, fun _ => rfl⟩
  case round =>
    obtain ⟨i, bad, As, cs, s, Ar, cr, r, rfl, hi, _, _, _, ⟨U, _, _, _, _⟩, _, HS⟩ := hrel
    haveI : Aft v9 U := ⟨LeB.h⟩
    by_cases hgo : i < N ∧ bad = false ∧ r.len ≠ 0
    · obtain ⟨hiN, rfl, nr⟩ := hgo
      obtain ⟨bt, hbt⟩ : ∃ bt, rsB x s r KK i = bt := ⟨_, rfl⟩
      obtain ⟨t, ht⟩ : ∃ t, rsT x s r KK i = t := ⟨_, rfl⟩
      obtain ⟨S', hS⟩ : ∃ S', rsS x s r KK i = S' := ⟨_, rfl⟩
      obtain ⟨⟨pb, pp⟩, hP⟩ : ∃ P, rsP x s r KK i = P := ⟨_, rfl⟩
      obtain ⟨R, hR⟩ : ∃ R, rsR x s r KK i = R := ⟨_, rfl⟩
      have HS' : Hid (addS s t = S') := by show _ = _; rw [← ht]; exact hS
      have HP : Hid (mpow (S'.getD .nil) KK (bt || !S'.isSome) = (pb, pp)) := by show _ = _; have h := hP; unfold rsP rsB2 at h; rw [hS, hbt] at h; exact h
      have HRR : Hid (subS x pp = R) := by show _ = _; have h := hR; unfold rsR at h; rw [hP] at h; exact h
      have HLp : Hid (pp.len ≤ 1099511627776) := by have := mpow_len (S'.getD .nil) KK (bt || !S'.isSome); rw [HP.out] at this; show _ ≤ _; simp only at this; omega
      have HN2 : Hid (rootsGo x KK N N false .nil x = rootsGo x KK N (N - (i + 1)) (pb || !R.isSome) (S'.getD .nil) (R.getD .nil) ∧ ((pb || !R.isSome) = false → sGood (S'.getD .nil) = true ∧ sGood (R.getD .nil) = true) ∧ (i + 1 = 0 → R.getD .nil = x)) := by
        refine ⟨?_, ?_, fun h => by omega⟩
        · rw [HS.out.1, rootsGo_step hiN nr]
          unfold rsB3
          rw [hS, hP, hR]
        · intro h
          rw [Bool.or_eq_false_iff] at h
          have h1 : (bt || !S'.isSome) = false := by
            cases hb : (bt || !S'.isSome)
            · rfl
            · have h2 := HP.out
              rw [hb] at h2
              have h3 := mpow_true (S'.getD .nil) KK
              rw [h2] at h3
              simp only at h3
              rw [h3] at h
              exact absurd h.1 (by decide)
          rw [Bool.or_eq_false_iff] at h1
          have h4 := h1.2
          have h5 := h.2
          constructor
          · rw [← HS'.out] at h4 ⊢; exact rs_addG _ _ (by simpa using h4)
          · rw [← HRR.out] at h5 ⊢; exact rs_subG' _ _ (by simpa using h5)
      have HGs : Hid (sGood s = true ∧ sGood r = true) := HS.out.2.1 rfl
      have HR0 : Hid (r.len ≠ 0) := nr
      have hr1 : ((r.len : Int) == 0) = false := by simp; omega
      have hr0n : 0 < r.len := by omega
      have hiN' : (i : Int) < (N : Int) := by omega
      by_cases hi0 : i = 0
      · have HX : Hid (x.len ≠ 0) := by have := HS.out.2.2 hi0; rw [← this]; exact nr
        have HT : Hid (rfT x KK = t) := by have h := ht; unfold rsT at h; rw [if_pos hi0] at h; exact h
        have HB : Hid (rfB x KK = bt) := by have h := hbt; unfold rsB at h; rw [if_pos hi0] at h; exact h
        clear HS hbt ht hS hP hR nr
        subst hi0
        go_upto_region 13 with (first | (go_at_call 33; refine (isNothing_any r Ar cr _).mono ?_; rintro e43 w43 ⟨rfl, hb⟩; haveI : Bel _ w43 := ⟨hb⟩; clear hb) | ((with_reducible refine at_dst (N := 13) rfl ?_); refine ev_box (cs := #[.slice none 0 0]) (t := 26) rfl ?hr13 ?_; (case hr13 => first | (go_simp; done) | (go_simp; rfl)); intro g13 v13 _ _ _ _) | (go_at_call 34; (with_reducible refine (firstRoot_any x KK g9 (XE g9) A c _ (trx (XE g9) _ A) HG.out.1 HX.out HG.out.2.1 HG.out.2.2).mono ?_); rintro e53 w53 ⟨A53, c53, he, hs, hb⟩; rw [HT.out] at he hs; rw [HB.out] at hb; subst he; haveI := belM hb; haveI := Tr.arg hs; clear hs hb) | (go_at_call 36; (with_reducible refine (madd_any s t _ g9 _ _ As A53 _ _ _ (tr _ As) (tr _ A53) has1 has_frozen).mono ?_); rintro e60 w60 ⟨A60, c60, he, hf, hb⟩; rw [HS'.out] at he hf hb; subst he; haveI := belM hb; haveI := Fs.of hf; clear hf hb))
        refine wp_region_held_drew (S := (fun w' => w'.cell? ⟨g3, 0, none⟩ = some (.slice A x.len c) ∧ w'.cell? ⟨g10, 0, none⟩ = some (.slice A60 (S'.getD .nil).len c60))) (by kernel_rfl) ?hSn2_ (fun hHeld => ?hRn2_)
        case hSn2_ => (exact ⟨has1, has1⟩)
        refine wpAnyH_take (i := 0) (v := ?vn2_1) rfl (by kernel_rfl) (by kernel_rfl) (by kernel_rfl) (fun _ _ _ h => h) (Or.inl ⟨by rfl, ?hyn2_1⟩) (by assumption) ?hRn2_1
        case hyn2_1 => (intro w hSw; (try dsimp only at hSw); go_simp; (try with_reducible rfl))
        try simp only [Act.put, zp1, zp2, zp3, zp4, zp5, zp6]
        refine wpAnyH_take (i := 1) (v := ?vn2_2) rfl (by kernel_rfl) (by kernel_rfl) (by kernel_rfl) (fun _ _ _ h => h) (Or.inl ⟨by rfl, ?hyn2_2⟩) (by assumption) ?hRn2_2
        case hyn2_2 => (intro w hSw; (try dsimp only at hSw); go_simp; (try with_reducible rfl))
        try simp only [Act.put, zp1, zp2, zp3, zp4, zp5, zp6]
        refine wpAnyH_take (i := 2) (v := ?vn2_3) rfl (by kernel_rfl) (by kernel_rfl) (by kernel_rfl) (fun _ _ _ h => h) (Or.inl ⟨by rfl, ?hyn2_3⟩) (by assumption) ?hRn2_3
        case hyn2_3 => (intro w hSw; (try dsimp only at hSw); go_simp; (try with_reducible rfl))
        try simp only [Act.put, zp1, zp2, zp3, zp4, zp5, zp6]
        refine wpAnyH_ready (rs := [3]) (by kernel_rfl) (by simp) ?_
        refine AllReadyH.cons rfl (fun K hK => ?_) AllReadyH.nil
        go_simp
        ((go_at_call 38; (with_reducible refine (mpower_any (S'.getD .nil) KK (bt || !S'.isSome) g9 (XE g9) A60 c60 _ (trx (XE g9) _ A60) HK.out.1 HK.out.2).mono ?_); rintro e64 w64 ⟨A64, c64, he, hs, hb⟩; rw [HP.out] at he hs hb; subst he; haveI := belM hb; haveI := Tr.arg hs; clear hs hb))
        go_wp2_with fail
        refine hK.out _ _ ?hSn2_4 (fun hHeld => ?hRn2_4)
        case hSn2_4 => ((try dsimp only); exact ⟨has1, has1⟩)
        clear hK K
        try simp only [Act.put, zp1, zp2, zp3, zp4, zp5, zp6]
        refine wpAnyH_ready (rs := [4]) (by kernel_rfl) (by simp) ?_
        refine AllReadyH.cons rfl (fun K hK => ?_) AllReadyH.nil
        go_simp
        ((go_at_call 37; (with_reducible refine (msub_any x pp pb g9 _ _ A A64 c c64 _ (tr _ A) (tr _ A64) has1 has_frozen HLp.out).mono ?_); rintro e65 w65 ⟨A65, c65, he, hf, hb⟩; rw [HRR.out] at he hf hb; subst he; haveI := belM hb; haveI := Fs.of hf; clear hf hb))
        go_wp2_with fail
        refine hK.out _ _ ?hSn2_5 (fun hHeld => ?hRn2_5)
        case hSn2_5 => ((try dsimp only); exact ⟨has1, has1⟩)
        clear hK K
        try simp only [Act.put, zp1, zp2, zp3, zp4, zp5, zp6]
        refine wpAnyH_ready (rs := [5]) (by kernel_rfl) (by simp) ?_
        refine AllReadyH.cons rfl (fun K hK => ?_) AllReadyH.nil
        go_simp
        refine hK.out _ _ ?hSn2_6 (fun hHeld => ?hRn2_6)
        case hSn2_6 => ((try dsimp only); exact ⟨has1, has1⟩)
        clear hK K
        try simp only [Act.put, zp1, zp2, zp3, zp4, zp5, zp6]
        refine wpAnyH_done (by kernel_rfl) ?_ _
        all_goals
          go_wp2
          exact ⟨⟨0 + 1, _, A60, c60, _, A65, c65, _, by go_num, by omega, inferInstance, inferInstance, inferInstance, ⟨w60, Fs.down, Fs.lp, inferInstance, inferInstance⟩, kp _ _ _, HN2⟩, by first | (simp [intOf]; done) | (simp [intOf]; omega)⟩
      · have HT : Hid (rnT s r KK = t) := by have h := ht; unfold rsT at h; rw [if_neg hi0] at h; exact h
        have HB : Hid (rnB s r KK = bt) := by have h := hbt; unfold rsB at h; rw [if_neg hi0] at h; exact h
        have hi1 : ((i : Int) == 0) = false := by simp; omega
        clear HS hbt ht hS hP hR nr
        go_upto_region 13 with (first | (go_at_call 33; refine (isNothing_any r Ar cr _).mono ?_; rintro e43 w43 ⟨rfl, hb⟩; haveI : Bel _ w43 := ⟨hb⟩; clear hb) | ((with_reducible refine at_dst (N := 13) rfl ?_); refine ev_box (cs := #[.slice none 0 0]) (t := 26) rfl ?hr13 ?_; (case hr13 => first | (go_simp; done) | (go_simp; rfl)); intro g13 v13 _ _ _ _) | (go_at_call 35; (with_reducible refine (nextRoot_all s r KK g9 (XE g9) (XE g9) As Ar cs cr _ (trx (XE g9) _ As) (trx (XE g9) _ Ar) HGs.out.1 HGs.out.2 HR0.out HG.out.2.1 HG.out.2.2).mono ?_); rintro e53 w53 ⟨A53, c53, he, hs, hb⟩; rw [HT.out] at he hs; rw [HB.out] at hb; subst he; haveI := belM hb; haveI := Tr.arg hs; clear hs hb) | (go_at_call 36; (with_reducible refine (madd_any s t _ g9 _ _ As A53 _ _ _ (tr _ As) (tr _ A53) has1 has_frozen).mono ?_); rintro e60 w60 ⟨A60, c60, he, hf, hb⟩; rw [HS'.out] at he hf hb; subst he; haveI := belM hb; haveI := Fs.of hf; clear hf hb))
        refine wp_region_held_drew (S := (fun w' => w'.cell? ⟨g3, 0, none⟩ = some (.slice A x.len c) ∧ w'.cell? ⟨g10, 0, none⟩ = some (.slice A60 (S'.getD .nil).len c60))) (by kernel_rfl) ?hSn3_ (fun hHeld => ?hRn3_)
        case hSn3_ => (exact ⟨has1, has1⟩)
        refine wpAnyH_take (i := 0) (v := ?vn3_1) rfl (by kernel_rfl) (by kernel_rfl) (by kernel_rfl) (fun _ _ _ h => h) (Or.inl ⟨by rfl, ?hyn3_1⟩) (by assumption) ?hRn3_1
        case hyn3_1 => (intro w hSw; (try dsimp only at hSw); go_simp; (try with_reducible rfl))
        try simp only [Act.put, zp1, zp2, zp3, zp4, zp5, zp6]
        refine wpAnyH_take (i := 1) (v := ?vn3_2) rfl (by kernel_rfl) (by kernel_rfl) (by kernel_rfl) (fun _ _ _ h => h) (Or.inl ⟨by rfl, ?hyn3_2⟩) (by assumption) ?hRn3_2
        case hyn3_2 => (intro w hSw; (try dsimp only at hSw); go_simp; (try with_reducible rfl))
        try simp only [Act.put, zp1, zp2, zp3, zp4, zp5, zp6]
        refine wpAnyH_take (i := 2) (v := ?vn3_3) rfl (by kernel_rfl) (by kernel_rfl) (by kernel_rfl) (fun _ _ _ h => h) (Or.inl ⟨by rfl, ?hyn3_3⟩) (by assumption) ?hRn3_3
        case hyn3_3 => (intro w hSw; (try dsimp only at hSw); go_simp; (try with_reducible rfl))
        try simp only [Act.put, zp1, zp2, zp3, zp4, zp5, zp6]
        refine wpAnyH_ready (rs := [3]) (by kernel_rfl) (by simp) ?_
        refine AllReadyH.cons rfl (fun K hK => ?_) AllReadyH.nil
        go_simp
        ((go_at_call 38; (with_reducible refine (mpower_any (S'.getD .nil) KK (bt || !S'.isSome) g9 (XE g9) A60 c60 _ (trx (XE g9) _ A60) HK.out.1 HK.out.2).mono ?_); rintro e64 w64 ⟨A64, c64, he, hs, hb⟩; rw [HP.out] at he hs hb; subst he; haveI := belM hb; haveI := Tr.arg hs; clear hs hb))
        go_wp2_with fail
        refine hK.out _ _ ?hSn3_4 (fun hHeld => ?hRn3_4)
        case hSn3_4 => ((try dsimp only); exact ⟨has1, has1⟩)
        clear hK K
        try simp only [Act.put, zp1, zp2, zp3, zp4, zp5, zp6]
        refine wpAnyH_ready (rs := [4]) (by kernel_rfl) (by simp) ?_
        refine AllReadyH.cons rfl (fun K hK => ?_) AllReadyH.nil
        go_simp
        ((go_at_call 37; (with_reducible refine (msub_any x pp pb g9 _ _ A A64 c c64 _ (tr _ A) (tr _ A64) has1 has_frozen HLp.out).mono ?_); rintro e65 w65 ⟨A65, c65, he, hf, hb⟩; rw [HRR.out] at he hf hb; subst he; haveI := belM hb; haveI := Fs.of hf; clear hf hb))
        go_wp2_with fail
        refine hK.out _ _ ?hSn3_5 (fun hHeld => ?hRn3_5)
        case hSn3_5 => ((try dsimp only); exact ⟨has1, has1⟩)
        clear hK K
        try simp only [Act.put, zp1, zp2, zp3, zp4, zp5, zp6]
        refine wpAnyH_ready (rs := [5]) (by kernel_rfl) (by simp) ?_
        refine AllReadyH.cons rfl (fun K hK => ?_) AllReadyH.nil
        go_simp
        refine hK.out _ _ ?hSn3_6 (fun hHeld => ?hRn3_6)
        case hSn3_6 => ((try dsimp only); exact ⟨has1, has1⟩)
        clear hK K
        try simp only [Act.put, zp1, zp2, zp3, zp4, zp5, zp6]
        refine wpAnyH_done (by kernel_rfl) ?_ _
        all_goals
          go_wp2
          exact ⟨⟨i + 1, _, A60, c60, _, A65, c65, _, by go_num, by omega, inferInstance, inferInstance, inferInstance, ⟨w60, Fs.down, Fs.lp, inferInstance, inferInstance⟩, kp _ _ _, HN2⟩, by first | (simp [intOf]; done) | (simp [intOf]; omega)⟩
    · have HR1 : Hid (rootsGo x KK N N false .nil x = (bad, s, r)) := by
        show _ = _
        rw [HS.out.1]
        by_cases hkN : i < N
        · exact rootsGo_stop (N - i) fun h => hgo ⟨hkN, h.1, h.2⟩
        · rw [show N - i = 0 by omega]; rfl
      have HE : Hid ((if bad = true then none else some (s, r)) = rootT x KK N) := by
        show _ = _
        rw [H0.out, HR1.out]
      clear HS
      cases bad
      · replace HE : Hid (some (s, r) = rootT x KK N) := HE.out
        by_cases hkN : (i : Int) < (N : Int)
        · have hr0 : r.len = 0 := Classical.byContradiction fun h => hgo ⟨by omega, rfl, h⟩
          have hr1 : ((r.len : Int) == 0) = true := by simpa using hr0
          clear hgo hr0
          go_wp2_with (first | (go_at_call 33; refine (isNothing_any r Ar cr _).mono ?_; rintro e43 w43 ⟨rfl, hb⟩; haveI : Bel _ w43 := ⟨hb⟩; clear hb) | (go_at_call 39; (with_reducible refine (mtwo_val s.len r.len _ g9 As Ar cs cr _).mono ?_); rintro e68 w68 ⟨he, hb⟩; subst he; haveI : Bel _ w68 := ⟨hb⟩; clear hb))
          (refine bodyPost_ret (v := .tuple #[.agg #[.slice As s.len cs], .agg #[.slice Ar r.len cr], .bool true]) (by simp [results, Tryz.results7, go_sem]) rfl ?_; rw [← HE.out]; exact ⟨As, cs, Ar, cr, U, rfl, Fs.down, Fs.lp, inferInstance, inferInstance, ext w _⟩)
        · clear hgo
          go_wp2_with (first | (go_at_call 33; refine (isNothing_any r Ar cr _).mono ?_; rintro e43 w43 ⟨rfl, hb⟩; haveI : Bel _ w43 := ⟨hb⟩; clear hb) | (go_at_call 39; (with_reducible refine (mtwo_val s.len r.len _ g9 As Ar cs cr _).mono ?_); rintro e68 w68 ⟨he, hb⟩; subst he; haveI : Bel _ w68 := ⟨hb⟩; clear hb))
          (refine bodyPost_ret (v := .tuple #[.agg #[.slice As s.len cs], .agg #[.slice Ar r.len cr], .bool true]) (by simp [results, Tryz.results7, go_sem]) rfl ?_; rw [← HE.out]; exact ⟨As, cs, Ar, cr, U, rfl, Fs.down, Fs.lp, inferInstance, inferInstance, ext w _⟩)
      · replace HE : Hid (none = rootT x KK N) := HE.out
        by_cases hkN : (i : Int) < (N : Int)
        all_goals
          clear hgo
          go_wp2_with (first | (go_at_call 33; refine (isNothing_any r Ar cr _).mono ?_; rintro e43 w43 ⟨rfl, hb⟩; haveI : Bel _ w43 := ⟨hb⟩; clear hb) | (go_at_call 39; (with_reducible refine (mtwo_val s.len r.len _ g9 As Ar cs cr _).mono ?_); rintro e68 w68 ⟨he, hb⟩; subst he; haveI : Bel _ w68 := ⟨hb⟩; clear hb))
          (refine bodyPost_ret (v := .tuple #[.agg #[.slice none 0 0], .agg #[.slice none 0 0], .bool false]) (by simp [results, Tryz.results7, go_sem]) rfl ?_; exact RetTw.none (ext w _) HE.out.symm)
theorem RootTerms_any (x : Sur) (k n : Int) (X : Nat → Prop) (A : Option Addr) (c : Nat) (w : World) (sx : SSl X w x A c) :
    Calls Tryz.prog 7 #[.agg #[.slice A x.len c], .int .i64 k, .int .i64 n] w (RetTw w (rootT x k n)) := by
  cases hg : (sGood x && (inB k 2 4 && stepsB n))
  · exact RootTerms_bad x k n X A c w sx hg
  · simp only [Bool.and_eq_true] at hg
    have hk : 2 ≤ k ∧ k ≤ 4 := by simpa [inB] using hg.2.1
    have hn := stepsB_true hg.2.2
    obtain ⟨KK, rfl⟩ : ∃ KK : Nat, k = KK := ⟨k.toNat, by omega⟩
    obtain ⟨N, rfl⟩ : ∃ N : Nat, n = N := ⟨n.toNat, by omega⟩
    exact RootTerms_good x KK N X A c w sx hg.1 hg.2.1 hg.2.2
end Go.Proofs.YtonlfnbjbmgegaaGreat
