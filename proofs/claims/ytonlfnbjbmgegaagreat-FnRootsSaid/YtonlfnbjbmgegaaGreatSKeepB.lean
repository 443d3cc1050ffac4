/-
  Walks, the reference's side: differences and terms until something fails.
-/
import Derived.Test.YtonlfnbjbmgegaaGreatBJ
import Derived.Test.YtonlfnbjbmgegaaGreatSP
import Derived.Test.YtonlfnbjbmgegaaGreatBG
namespace Go.Proofs.YtonlfnbjbmgegaaGreat
open Go.RowKit
open List renaming getElem_toArray → zp1, getElem_cons_zero → zp2, getElem_cons_succ → zp3, setIfInBounds_toArray → zp4, set_cons_zero → zp5, set_cons_succ → zp6
set_option linter.unusedSimpArgs false
set_option linter.unusedVariables false

attribute [local go_sem high] has_cell has_frozen
set_option synthInstance.maxHeartbeats 2000000 in
set_option synthInstance.maxSize 4000 in
set_option maxHeartbeats 3200000 in
set_option maxRecDepth 100000 in
theorem ksub_any (x y : Sur) (bad : Bool) (mb : Nat) (X Y : Nat → Prop) (A A' : Option Addr) (c c' : Nat) (w : World) [hmb : Has w mb (.cells #[.bool bad] 76 (0, 0))] [hX : XOk X mb] [hY : XOk Y mb] (sx : SSl X w x A c) (sy : SSl Y w y A' c') (gx : sGood x = true) (gy : sGood y = true) :
    Calls Tryz.prog 97 #[.pointer (some ⟨mb, 0, none⟩), .agg #[.slice A x.len c], .agg #[.slice A' y.len c']] w (RetK w mb bad (sumS x (negP y))) := by
  haveI := Tr.arg sx
  haveI := Tr.arg sy
  have hX2 := hX
  have hY2 := hY
  have hgx := sGood_len gx
  have hgy := sGood_len gy
  have hgn := sGood_len (sGood_neg gy)
  have HY : Hid (y.len ≤ 1099511627776) := by show _ ≤ _; omega
  have HX : Hid (x.All FOk ∧ (negP y).All FOk ∧ x.len + (negP y).len ≤ 1099511627776) := ⟨hgx.2.2, hgn.2.2, by omega⟩
  clear sx sy hgx hgy hgn
  go_enter Tryz.func97, Tryz.ntmps97
  go_upto_region 1 with (first | ((with_reducible refine at_dst (N := 4) rfl ?_); refine ev_box (cs := #[.slice A x.len c]) (t := 26) rfl ?hr4 ?_; (case hr4 => first | (go_simp; done) | (go_simp; rfl)); intro g4 v4 _ _ _ _) | ((with_reducible refine at_dst (N := 5) rfl ?_); refine ev_box (cs := #[.slice A' y.len c']) (t := 26) rfl ?hr5 ?_; (case hr5 => first | (go_simp; done) | (go_simp; rfl)); intro g5 v5 _ _ _ _) | ((with_reducible refine at_dst (N := 6) rfl ?_); refine ev_box (cs := #[.slice none 0 0]) (t := 26) rfl ?hr6 ?_; (case hr6 => first | (go_simp; done) | (go_simp; rfl)); intro g6 v6 _ _ _ _))
  refine wp_region_held_drew (S := (fun w' => w'.cell? ⟨g4, 0, none⟩ = some (.slice A x.len c) ∧ w'.cell? ⟨g5, 0, none⟩ = some (.slice A' y.len c'))) (by kernel_rfl) ?hSn1_ (fun hHeld => ?hRn1_)
  case hSn1_ => (exact ⟨has1, has1⟩)
  refine wpAnyH_take (i := 0) (v := ?vn1_1) rfl (by kernel_rfl) (by kernel_rfl) (by kernel_rfl) (fun _ _ _ h => h) (Or.inl ⟨by rfl, ?hyn1_1⟩) (by assumption) ?hRn1_1
  case hyn1_1 => (intro w hSw; (try dsimp only at hSw); go_simp; (try with_reducible rfl))
  try simp only [Act.put, zp1, zp2, zp3, zp4, zp5, zp6]
  refine wpAnyH_take (i := 1) (v := ?vn1_2) rfl (by kernel_rfl) (by kernel_rfl) (by kernel_rfl) (fun _ _ _ h => h) (Or.inl ⟨by rfl, ?hyn1_2⟩) (by assumption) ?hRn1_2
  case hyn1_2 => (intro w hSw; (try dsimp only at hSw); go_simp; (try with_reducible rfl))
  try simp only [Act.put, zp1, zp2, zp3, zp4, zp5, zp6]
  refine wpAnyH_take (i := 2) (v := ?vn1_3) rfl (by kernel_rfl) (by kernel_rfl) (by kernel_rfl) (fun _ _ _ h => h) (Or.inl ⟨by rfl, ?hyn1_3⟩) (by assumption) ?hRn1_3
  case hyn1_3 => (intro w hSw; (try dsimp only at hSw); go_simp; (try with_reducible rfl))
  try simp only [Act.put, zp1, zp2, zp3, zp4, zp5, zp6]
  refine wpAnyH_ready (rs := [3]) (by kernel_rfl) (by simp) ?_
  refine AllReadyH.cons rfl (fun K hK => ?_) AllReadyH.nil
  go_simp
  ((go_at_call 132; refine (suNeg_any y (XE mb) A' c' _ (fun k hk => by have : k = mb := hk; subst this; exact LtB.h) (trx (XE mb) _ A') HY.out).mono ?_; rintro e10 w10 ⟨A10, c10, rfl, hs, hb⟩; haveI : Bel _ w10 := ⟨hb⟩; haveI := Tr.arg hs; clear hs hb))
  go_wp2_with fail
  refine hK.out _ _ ?hSn1_4 (fun hHeld => ?hRn1_4)
  case hSn1_4 => ((try dsimp only); exact ⟨has1, has1⟩)
  clear hK K
  try simp only [Act.put, zp1, zp2, zp3, zp4, zp5, zp6]
  refine wpAnyH_ready (rs := [4]) (by kernel_rfl) (by simp) ?_
  refine AllReadyH.cons rfl (fun K hK => ?_) AllReadyH.nil
  go_simp
  ((go_at_call 108; refine (suSum_any x (negP y) _ _ A A10 _ _ _ (tr _ A) (tr _ A10) HX.out.1 HX.out.2.1 HX.out.2.2).mono ?_; rintro e11 w11 ⟨A11, c11, rfl, hf, hb⟩; haveI : Bel _ w11 := ⟨hb⟩; haveI := Fs.of hf; clear hf hb))
  go_wp2_with fail
  refine hK.out _ _ ?hSn1_5 (fun hHeld => ?hRn1_5)
  case hSn1_5 => ((try dsimp only); exact ⟨has1, has1⟩)
  clear hK K
  try simp only [Act.put, zp1, zp2, zp3, zp4, zp5, zp6]
  refine wpAnyH_take (i := 5) (v := ?vn1_6) rfl (by kernel_rfl) (by kernel_rfl) (by kernel_rfl) (fun _ _ _ h => h) (Or.inl ⟨by rfl, ?hyn1_6⟩) (by assumption) ?hRn1_6
  case hyn1_6 => (intro w hSw; (try dsimp only at hSw); go_simp; (try with_reducible rfl))
  try simp only [Act.put, zp1, zp2, zp3, zp4, zp5, zp6]
  refine wpAnyH_take (i := 6) (v := ?vn1_7) rfl (by kernel_rfl) (by kernel_rfl) (by kernel_rfl) (fun _ _ _ h => h) (Or.inl ⟨by rfl, ?hyn1_7⟩) (by assumption) ?hRn1_7
  case hyn1_7 => (intro w hSw; (try dsimp only at hSw); go_simp; (try with_reducible rfl))
  try simp only [Act.put, zp1, zp2, zp3, zp4, zp5, zp6]
  refine wpAnyH_ready (rs := [7]) (by kernel_rfl) (by simp) ?_
  refine AllReadyH.cons rfl (fun K hK => ?_) AllReadyH.nil
  go_simp
  ((go_at_call 107; refine (keep_any (sumS x (negP y)).isSome bad mb A11 _ c11 _ has1 has_frozen).mono ?_; rintro e14 w14 ⟨rfl, hb⟩; haveI := belM hb; clear hb; obtain ⟨A14, c14, hv14, hf⟩ := keepV_len (bad := bad) (o := sumS x (negP y)) (fs w14 A11 v6); (try rw [hv14]); haveI : Fs w14 A14 v6 w14 (keepS bad (sumS x (negP y))) c14 := Fs.of hf; clear hf hv14))
  go_wp2_with fail
  refine hK.out _ _ ?hSn1_8 (fun hHeld => ?hRn1_8)
  case hSn1_8 => ((try dsimp only); exact ⟨has1, has1⟩)
  clear hK K
  try simp only [Act.put, zp1, zp2, zp3, zp4, zp5, zp6]
  refine wpAnyH_ready (rs := [8]) (by kernel_rfl) (by simp) ?_
  refine AllReadyH.cons rfl (fun K hK => ?_) AllReadyH.nil
  go_simp
  refine hK.out _ _ ?hSn1_9 (fun hHeld => ?hRn1_9)
  case hSn1_9 => ((try dsimp only); exact ⟨has1, has1⟩)
  clear hK K
  try simp only [Act.put, zp1, zp2, zp3, zp4, zp5, zp6]
  refine wpAnyH_done (by kernel_rfl) ?_ _
  all_goals
    go_wp2
    refine bodyPost_ret (v := .agg #[.slice A14 (keepS bad (sumS x (negP y))).len c14]) (by simp [results, Tryz.results97, go_sem]) rfl ?_
    exact ⟨A14, c14, rfl, fs _ A14 w, marked w _ mb⟩

set_option synthInstance.maxHeartbeats 2000000 in
set_option synthInstance.maxSize 4000 in
set_option maxHeartbeats 3200000 in
set_option maxRecDepth 100000 in
theorem kterm_any (x : Sur) (n d : Int) (bad : Bool) (mb : Nat) (X : Nat → Prop) (A : Option Addr) (c : Nat) (w : World) [hmb : Has w mb (.cells #[.bool bad] 76 (0, 0))] [hX : XOk X mb] (sx : SSl X w x A c) (in_ : I64 n) (id_ : I64 d) :
    Calls Tryz.prog 94 #[.pointer (some ⟨mb, 0, none⟩), .agg #[.slice A x.len c], .agg #[.int .i64 n, .int .i64 d]] w (RetK w mb bad (told (termP x n d) true)) := by
  haveI := Tr.arg sx
  have hX2 := hX
  clear sx
  go_enter Tryz.func94, Tryz.ntmps94
  go_wp2_with (first | ((with_reducible refine at_dst (N := 4) rfl ?_); refine ev_box (cs := #[.slice A x.len c]) (t := 26) rfl ?hr4 ?_; (case hr4 => first | (go_simp; done) | (go_simp; rfl)); intro g4 v4 _ _ _ _) | ((with_reducible refine at_dst (N := 5) rfl ?_); refine ev_box (cs := #[.int .i64 n, .int .i64 d]) (t := 68) rfl ?hr5 ?_; (case hr5 => first | (go_simp; done) | (go_simp; rfl)); intro g5 v5 _ _ _ _) | ((with_reducible refine at_dst (N := 6) rfl ?_); refine ev_box (cs := #[.slice none 0 0]) (t := 26) rfl ?hr6 ?_; (case hr6 => first | (go_simp; done) | (go_simp; rfl)); intro g6 v6 _ _ _ _) | (go_at_call 80; refine (suTerm_any x n d (XE mb) A c _ (fun k hk => by have : k = mb := hk; subst this; exact LtB.h) (trx (XE mb) _ A) in_ id_).mono ?_; rintro e10 w10 ⟨A10, c10, rfl, hs, hb⟩; haveI : Bel _ w10 := ⟨hb⟩; haveI := Tr.arg hs; clear hs hb) | (go_at_call 73; refine (suIf_any (termP x n d) _ A10 c10 _ (tr _ A10)).mono ?_; rintro e11 w11 ⟨A11, c11, rfl, hf, hb⟩; haveI : Bel _ w11 := ⟨hb⟩; haveI := Fs.of hf; clear hf hb) | (go_at_call 107; refine (keep_any (told (termP x n d) true).isSome bad mb A11 _ c11 _ has1 has_frozen).mono ?_; rintro e14 w14 ⟨rfl, hb⟩; haveI := belM hb; clear hb; obtain ⟨A14, c14, hv14, hf⟩ := keepV_len (bad := bad) (o := told (termP x n d) true) (fs w14 A11 v6); (try rw [hv14]); haveI : Fs w14 A14 v6 w14 (keepS bad (told (termP x n d) true)) c14 := Fs.of hf; clear hf hv14))
  refine bodyPost_ret (v := .agg #[.slice A14 (keepS bad (told (termP x n d) true)).len c14]) (by simp [results, Tryz.results94, go_sem]) rfl ?_
  exact ⟨A14, c14, rfl, fs _ A14 w, marked w _ mb⟩
end Go.Proofs.YtonlfnbjbmgegaaGreat
