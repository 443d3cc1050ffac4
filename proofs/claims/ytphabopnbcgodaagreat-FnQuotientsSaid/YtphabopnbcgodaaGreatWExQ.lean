/-
  Walks: ExactQuotient, the program's and the reference's.
-/
import Derived.Test.YtphabopnbcgodaaGreatSChk
namespace Go.Proofs.YtphabopnbcgodaaGreat
open Go.RowKit
set_option linter.unusedSimpArgs false
set_option linter.unusedVariables false

structure OptQ (o : Option (Sur × Sur)) (q r : Sur) (b : Bool) : Prop where
  h1 : (o.getD (.nil, .nil)).1 = q
  h2 : (o.getD (.nil, .nil)).2 = r
  hb : o.isSome = b
theorem optQ (o : Option (Sur × Sur)) : ∃ q r b, OptQ o q r b := ⟨_, _, _, rfl, rfl, rfl⟩
theorem OptQ.some {o : Option (Sur × Sur)} {q r : Sur} (h : OptQ o q r true) : o = .some (q, r) := by
  cases o with
  | none => have := h.hb; simp at this
  | some v =>
    obtain ⟨h1, h2, _⟩ := h
    simp only [Option.getD_some] at h1 h2
    rw [← h1, ← h2]
theorem OptQ.none {o : Option (Sur × Sur)} {q r : Sur} (h : OptQ o q r false) : o = .none := by
  cases o with
  | none => rfl
  | some v => have := h.hb; simp at this
attribute [local go_sem high] has_cell has_frozen
set_option synthInstance.maxHeartbeats 2000000 in
set_option maxHeartbeats 3200000 in
set_option maxRecDepth 100000 in
theorem ExactQuotient_any (x y : Sur) (X Y : Nat → Prop) (A A' : Option Addr) (c c' : Nat) (w : World) (sx : SSl X w x A c) (sy : SSl Y w y A' c') :
    Calls Tryz.prog 23 #[.agg #[.slice A x.len c], .agg #[.slice A' y.len c']] w (RetSB w (exQ x y)) := by
  haveI := Tr.arg (sx.more (Y := XN) (fun _ h => h.elim))
  haveI := Tr.arg (sy.more (Y := XN) (fun _ h => h.elim))
  clear sx sy
  obtain ⟨q, r, ok, GQ⟩ := optQ (quoT x y 12)
  cases ok
  · have H := Lib.hid (show exQ x y = none by unfold exQ; rw [GQ.none]; rfl)
    go_enter Tryz.func23, Tryz.ntmps23
    go_wp2_with (first | ((with_reducible refine at_dst (N := 2) rfl ?_); refine ev_box (cs := #[.slice A x.len c]) (t := 26) rfl ?hr2 ?_; (case hr2 => first | (go_simp; done) | (go_simp; rfl)); intro g2 v2 _ _ _ _) | ((with_reducible refine at_dst (N := 3) rfl ?_); refine ev_box (cs := #[.slice A' y.len c']) (t := 26) rfl ?hr3 ?_; (case hr3 => first | (go_simp; done) | (go_simp; rfl)); intro g3 v3 _ _ _ _) | ((with_reducible refine at_dst (N := 4) rfl ?_); refine ev_box (cs := #[.slice none 0 0]) (t := 26) rfl ?hr4 ?_; (case hr4 => first | (go_simp; done) | (go_simp; rfl)); intro g4 v4 _ _ _ _) | (go_at_call 19; (refine (QuotientTerms_any x y 12 _ _ A A' _ _ _ (tr _ A) (tr _ A')).mono ?_); (try simp only [squo_quoT]); rintro e12 w12 ⟨A1, c1, A2, c2, he, hs, hs', hb⟩; rw [GQ.h1, GQ.h2, GQ.hb] at he; rw [GQ.h1] at hs; rw [GQ.h2] at hs'; subst he; haveI : Bel _ w12 := ⟨hb⟩; haveI := Tr.arg hs; haveI := Tr.arg hs'; clear hs hs' hb) | ((with_reducible refine at_dst (N := 6) rfl ?_); refine ev_box (cs := #[.slice none 0 0]) (t := 26) rfl ?hr6 ?_; (case hr6 => first | (go_simp; done) | (go_simp; rfl)); intro g6 v6 _ _ _ _) | ((with_reducible refine at_dst (N := 7) rfl ?_); refine ev_box (cs := #[.slice none 0 0]) (t := 26) rfl ?hr7 ?_; (case hr7 => first | (go_simp; done) | (go_simp; rfl)); intro g7 v7 _ _ _ _) | (go_at_call 87; (with_reducible refine (isNothing_any r A2 c2 _).mono ?_); rintro e20 w20 ⟨rfl, hb⟩; haveI : Bel _ w20 := ⟨hb⟩; clear hb))
    refine bodyPost_ret (v := .tuple #[.agg #[.slice none 0 0], .bool false]) (by simp [results, Tryz.results23, go_sem]) rfl ?_
    rw [H.out]
    exact ⟨none, 0, rfl, SSl.nil _ _, ext w _⟩
  · by_cases hr : r.len = 0
    · have H := Lib.hid (show exQ x y = some q by unfold exQ; rw [GQ.some]; simp [hr])
      have hr' : ((r.len : Int) == 0) = true := by simpa using hr
      clear hr
      go_enter Tryz.func23, Tryz.ntmps23
      go_wp2_with (first | ((with_reducible refine at_dst (N := 2) rfl ?_); refine ev_box (cs := #[.slice A x.len c]) (t := 26) rfl ?hr2 ?_; (case hr2 => first | (go_simp; done) | (go_simp; rfl)); intro g2 v2 _ _ _ _) | ((with_reducible refine at_dst (N := 3) rfl ?_); refine ev_box (cs := #[.slice A' y.len c']) (t := 26) rfl ?hr3 ?_; (case hr3 => first | (go_simp; done) | (go_simp; rfl)); intro g3 v3 _ _ _ _) | ((with_reducible refine at_dst (N := 4) rfl ?_); refine ev_box (cs := #[.slice none 0 0]) (t := 26) rfl ?hr4 ?_; (case hr4 => first | (go_simp; done) | (go_simp; rfl)); intro g4 v4 _ _ _ _) | (go_at_call 19; (refine (QuotientTerms_any x y 12 _ _ A A' _ _ _ (tr _ A) (tr _ A')).mono ?_); (try simp only [squo_quoT]); rintro e12 w12 ⟨A1, c1, A2, c2, he, hs, hs', hb⟩; rw [GQ.h1, GQ.h2, GQ.hb] at he; rw [GQ.h1] at hs; rw [GQ.h2] at hs'; subst he; haveI : Bel _ w12 := ⟨hb⟩; haveI := Tr.arg hs; haveI := Tr.arg hs'; clear hs hs' hb) | ((with_reducible refine at_dst (N := 6) rfl ?_); refine ev_box (cs := #[.slice none 0 0]) (t := 26) rfl ?hr6 ?_; (case hr6 => first | (go_simp; done) | (go_simp; rfl)); intro g6 v6 _ _ _ _) | ((with_reducible refine at_dst (N := 7) rfl ?_); refine ev_box (cs := #[.slice none 0 0]) (t := 26) rfl ?hr7 ?_; (case hr7 => first | (go_simp; done) | (go_simp; rfl)); intro g7 v7 _ _ _ _) | (go_at_call 87; (with_reducible refine (isNothing_any r A2 c2 _).mono ?_); rintro e20 w20 ⟨rfl, hb⟩; haveI : Bel _ w20 := ⟨hb⟩; clear hb))
      refine bodyPost_ret (v := .tuple #[.agg #[.slice A1 q.len c1], .bool true]) (by simp [results, Tryz.results23, go_sem]) rfl ?_
      rw [H.out]
      exact ⟨A1, c1, rfl, trx (XL w) _ A1, ext w _⟩
    · have H := Lib.hid (show exQ x y = none by unfold exQ; rw [GQ.some]; simp [hr])
      have hr' : ((r.len : Int) == 0) = false := by simp; omega
      clear hr
      go_enter Tryz.func23, Tryz.ntmps23
      go_wp2_with (first | ((with_reducible refine at_dst (N := 2) rfl ?_); refine ev_box (cs := #[.slice A x.len c]) (t := 26) rfl ?hr2 ?_; (case hr2 => first | (go_simp; done) | (go_simp; rfl)); intro g2 v2 _ _ _ _) | ((with_reducible refine at_dst (N := 3) rfl ?_); refine ev_box (cs := #[.slice A' y.len c']) (t := 26) rfl ?hr3 ?_; (case hr3 => first | (go_simp; done) | (go_simp; rfl)); intro g3 v3 _ _ _ _) | ((with_reducible refine at_dst (N := 4) rfl ?_); refine ev_box (cs := #[.slice none 0 0]) (t := 26) rfl ?hr4 ?_; (case hr4 => first | (go_simp; done) | (go_simp; rfl)); intro g4 v4 _ _ _ _) | (go_at_call 19; (refine (QuotientTerms_any x y 12 _ _ A A' _ _ _ (tr _ A) (tr _ A')).mono ?_); (try simp only [squo_quoT]); rintro e12 w12 ⟨A1, c1, A2, c2, he, hs, hs', hb⟩; rw [GQ.h1, GQ.h2, GQ.hb] at he; rw [GQ.h1] at hs; rw [GQ.h2] at hs'; subst he; haveI : Bel _ w12 := ⟨hb⟩; haveI := Tr.arg hs; haveI := Tr.arg hs'; clear hs hs' hb) | ((with_reducible refine at_dst (N := 6) rfl ?_); refine ev_box (cs := #[.slice none 0 0]) (t := 26) rfl ?hr6 ?_; (case hr6 => first | (go_simp; done) | (go_simp; rfl)); intro g6 v6 _ _ _ _) | ((with_reducible refine at_dst (N := 7) rfl ?_); refine ev_box (cs := #[.slice none 0 0]) (t := 26) rfl ?hr7 ?_; (case hr7 => first | (go_simp; done) | (go_simp; rfl)); intro g7 v7 _ _ _ _) | (go_at_call 87; (with_reducible refine (isNothing_any r A2 c2 _).mono ?_); rintro e20 w20 ⟨rfl, hb⟩; haveI : Bel _ w20 := ⟨hb⟩; clear hb))
      refine bodyPost_ret (v := .tuple #[.agg #[.slice none 0 0], .bool false]) (by simp [results, Tryz.results23, go_sem]) rfl ?_
      rw [H.out]
      exact ⟨none, 0, rfl, SSl.nil _ _, ext w _⟩
set_option synthInstance.maxHeartbeats 2000000 in
set_option maxHeartbeats 3200000 in
set_option maxRecDepth 100000 in
theorem sExactQuotient_any (x y : Sur) (X Y : Nat → Prop) (A A' : Option Addr) (c c' : Nat) (w : World) (sx : SSl X w x A c) (sy : SSl Y w y A' c') :
    Calls Tryz.prog 24 #[.agg #[.slice A x.len c], .agg #[.slice A' y.len c']] w (RetSB w (exQ x y)) := by
  haveI := Tr.arg (sx.more (Y := XN) (fun _ h => h.elim))
  haveI := Tr.arg (sy.more (Y := XN) (fun _ h => h.elim))
  clear sx sy
  obtain ⟨q, r, ok, GQ⟩ := optQ (quoT x y 12)
  cases ok
  · have H := Lib.hid (show exQ x y = none by unfold exQ; rw [GQ.none]; rfl)
    go_enter Tryz.func24, Tryz.ntmps24
    go_wp2_with (first | ((with_reducible refine at_dst (N := 2) rfl ?_); refine ev_box (cs := #[.slice A x.len c]) (t := 26) rfl ?hr2 ?_; (case hr2 => first | (go_simp; done) | (go_simp; rfl)); intro g2 v2 _ _ _ _) | ((with_reducible refine at_dst (N := 3) rfl ?_); refine ev_box (cs := #[.slice A' y.len c']) (t := 26) rfl ?hr3 ?_; (case hr3 => first | (go_simp; done) | (go_simp; rfl)); intro g3 v3 _ _ _ _) | ((with_reducible refine at_dst (N := 4) rfl ?_); refine ev_box (cs := #[.slice none 0 0]) (t := 26) rfl ?hr4 ?_; (case hr4 => first | (go_simp; done) | (go_simp; rfl)); intro g4 v4 _ _ _ _) | (go_at_call 20; (refine (sQuotientTerms_any x y 12 _ _ A A' _ _ _ (tr _ A) (tr _ A')).mono ?_); (try simp only [squo_quoT]); rintro e12 w12 ⟨A1, c1, A2, c2, he, hs, hs', hb⟩; rw [GQ.h1, GQ.h2, GQ.hb] at he; rw [GQ.h1] at hs; rw [GQ.h2] at hs'; subst he; haveI : Bel _ w12 := ⟨hb⟩; haveI := Tr.arg hs; haveI := Tr.arg hs'; clear hs hs' hb) | ((with_reducible refine at_dst (N := 6) rfl ?_); refine ev_box (cs := #[.slice none 0 0]) (t := 26) rfl ?hr6 ?_; (case hr6 => first | (go_simp; done) | (go_simp; rfl)); intro g6 v6 _ _ _ _) | ((with_reducible refine at_dst (N := 7) rfl ?_); refine ev_box (cs := #[.slice none 0 0]) (t := 26) rfl ?hr7 ?_; (case hr7 => first | (go_simp; done) | (go_simp; rfl)); intro g7 v7 _ _ _ _) | (go_at_call 90; (with_reducible refine (suZero_any r A2 c2 _).mono ?_); rintro e20 w20 ⟨rfl, hb⟩; haveI : Bel _ w20 := ⟨hb⟩; clear hb))
    refine bodyPost_ret (v := .tuple #[.agg #[.slice none 0 0], .bool false]) (by simp [results, Tryz.results24, go_sem]) rfl ?_
    rw [H.out]
    exact ⟨none, 0, rfl, SSl.nil _ _, ext w _⟩
  · by_cases hr : r.len = 0
    · have H := Lib.hid (show exQ x y = some q by unfold exQ; rw [GQ.some]; simp [hr])
      have hr' : ((r.len : Int) == 0) = true := by simpa using hr
      clear hr
      go_enter Tryz.func24, Tryz.ntmps24
      go_wp2_with (first | ((with_reducible refine at_dst (N := 2) rfl ?_); refine ev_box (cs := #[.slice A x.len c]) (t := 26) rfl ?hr2 ?_; (case hr2 => first | (go_simp; done) | (go_simp; rfl)); intro g2 v2 _ _ _ _) | ((with_reducible refine at_dst (N := 3) rfl ?_); refine ev_box (cs := #[.slice A' y.len c']) (t := 26) rfl ?hr3 ?_; (case hr3 => first | (go_simp; done) | (go_simp; rfl)); intro g3 v3 _ _ _ _) | ((with_reducible refine at_dst (N := 4) rfl ?_); refine ev_box (cs := #[.slice none 0 0]) (t := 26) rfl ?hr4 ?_; (case hr4 => first | (go_simp; done) | (go_simp; rfl)); intro g4 v4 _ _ _ _) | (go_at_call 20; (refine (sQuotientTerms_any x y 12 _ _ A A' _ _ _ (tr _ A) (tr _ A')).mono ?_); (try simp only [squo_quoT]); rintro e12 w12 ⟨A1, c1, A2, c2, he, hs, hs', hb⟩; rw [GQ.h1, GQ.h2, GQ.hb] at he; rw [GQ.h1] at hs; rw [GQ.h2] at hs'; subst he; haveI : Bel _ w12 := ⟨hb⟩; haveI := Tr.arg hs; haveI := Tr.arg hs'; clear hs hs' hb) | ((with_reducible refine at_dst (N := 6) rfl ?_); refine ev_box (cs := #[.slice none 0 0]) (t := 26) rfl ?hr6 ?_; (case hr6 => first | (go_simp; done) | (go_simp; rfl)); intro g6 v6 _ _ _ _) | ((with_reducible refine at_dst (N := 7) rfl ?_); refine ev_box (cs := #[.slice none 0 0]) (t := 26) rfl ?hr7 ?_; (case hr7 => first | (go_simp; done) | (go_simp; rfl)); intro g7 v7 _ _ _ _) | (go_at_call 90; (with_reducible refine (suZero_any r A2 c2 _).mono ?_); rintro e20 w20 ⟨rfl, hb⟩; haveI : Bel _ w20 := ⟨hb⟩; clear hb))
      refine bodyPost_ret (v := .tuple #[.agg #[.slice A1 q.len c1], .bool true]) (by simp [results, Tryz.results24, go_sem]) rfl ?_
      rw [H.out]
      exact ⟨A1, c1, rfl, trx (XL w) _ A1, ext w _⟩
    · have H := Lib.hid (show exQ x y = none by unfold exQ; rw [GQ.some]; simp [hr])
      have hr' : ((r.len : Int) == 0) = false := by simp; omega
      clear hr
      go_enter Tryz.func24, Tryz.ntmps24
      go_wp2_with (first | ((with_reducible refine at_dst (N := 2) rfl ?_); refine ev_box (cs := #[.slice A x.len c]) (t := 26) rfl ?hr2 ?_; (case hr2 => first | (go_simp; done) | (go_simp; rfl)); intro g2 v2 _ _ _ _) | ((with_reducible refine at_dst (N := 3) rfl ?_); refine ev_box (cs := #[.slice A' y.len c']) (t := 26) rfl ?hr3 ?_; (case hr3 => first | (go_simp; done) | (go_simp; rfl)); intro g3 v3 _ _ _ _) | ((with_reducible refine at_dst (N := 4) rfl ?_); refine ev_box (cs := #[.slice none 0 0]) (t := 26) rfl ?hr4 ?_; (case hr4 => first | (go_simp; done) | (go_simp; rfl)); intro g4 v4 _ _ _ _) | (go_at_call 20; (refine (sQuotientTerms_any x y 12 _ _ A A' _ _ _ (tr _ A) (tr _ A')).mono ?_); (try simp only [squo_quoT]); rintro e12 w12 ⟨A1, c1, A2, c2, he, hs, hs', hb⟩; rw [GQ.h1, GQ.h2, GQ.hb] at he; rw [GQ.h1] at hs; rw [GQ.h2] at hs'; subst he; haveI : Bel _ w12 := ⟨hb⟩; haveI := Tr.arg hs; haveI := Tr.arg hs'; clear hs hs' hb) | ((with_reducible refine at_dst (N := 6) rfl ?_); refine ev_box (cs := #[.slice none 0 0]) (t := 26) rfl ?hr6 ?_; (case hr6 => first | (go_simp; done) | (go_simp; rfl)); intro g6 v6 _ _ _ _) | ((with_reducible refine at_dst (N := 7) rfl ?_); refine ev_box (cs := #[.slice none 0 0]) (t := 26) rfl ?hr7 ?_; (case hr7 => first | (go_simp; done) | (go_simp; rfl)); intro g7 v7 _ _ _ _) | (go_at_call 90; (with_reducible refine (suZero_any r A2 c2 _).mono ?_); rintro e20 w20 ⟨rfl, hb⟩; haveI : Bel _ w20 := ⟨hb⟩; clear hb))
      refine bodyPost_ret (v := .tuple #[.agg #[.slice none 0 0], .bool false]) (by simp [results, Tryz.results24, go_sem]) rfl ?_
      rw [H.out]
      exact ⟨none, 0, rfl, SSl.nil _ _, ext w _⟩
end Go.Proofs.YtphabopnbcgodaaGreat
