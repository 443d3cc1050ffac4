/-
  Draws of small numbers.
  The draws of ExpTerms and LogTerms.
  The draw of PowerTerms.
-/
import Derived.Test.YtonlfnbjbmgegaaGreatSD
import Derived.Test.YtonlfnbjbmgegaaGreatSParts
import Derived.Test.YtonlfnbjbmgegaaGreatSP
namespace Go.Proofs.YtonlfnbjbmgegaaGreat
open Go.RowKit
set_option linter.unusedSimpArgs false
set_option linter.unusedVariables false

theorem mk_ok {n d : Int} (hn : -1000000 ≤ n ∧ n ≤ 1000000) (hd : 1 ≤ d ∧ d ≤ 1000000) : FOk (mkN n d) (mkD n d) := by
  obtain ⟨_, h2, h3⟩ := mk_cross n d (by omega)
  have e1 : (mkN n d).natAbs ≤ n.natAbs := by unfold mkN; rw [Int.natAbs_tdiv]; exact Nat.div_le_self _ _
  have e2 : (mkD n d).natAbs ≤ d.natAbs := by unfold mkD; rw [Int.natAbs_tdiv]; exact Nat.div_le_self _ _
  exact fracOk_iff.2 ⟨by omega, by omega, by omega, by omega, h3⟩
/- what an easy number is: right, of few nodes and small depth -/
def mE : Nat → Nat
  | 0 => 3
  | d + 1 => 4 + 3 * mE d
theorem mE_ge : ∀ d, 3 ≤ mE d
  | 0 => by simp [mE]
  | d + 1 => by have := mE_ge d; simp only [mE]; omega
def ExT (D : Int) (M : Nat) : Sur → Prop
  | .nil => True
  | .cons e _ _ r => (formT (D + 1) none e = true ∧ e.nodes ≤ M) ∧ ExT D M r
def EN (dp : Nat) (x : Sur) : Prop := x.All GOk ∧ Dec x ∧ ExT (4 - (dp : Int)) (mE dp) x
def ENX (dp : Nat) (e : Sur) : Prop := formT (5 - (dp : Int)) none e = true ∧ e.nodes ≤ mE dp
theorem formT_of {D : Int} {M : Nat} (hD : D + 1 ≤ 6) : ∀ {z : Sur} {prev : Option Sur}, z.All GOk → (∀ p, prev = some p → Lt p z) → Dec z → ExT D M z → formT D prev z = true
  | .nil, _, _, _, _, _ => rfl
  | .cons e n d r, prev, hg, hp, dz, hx => by
    simp only [formT, Bool.and_eq_true, decide_eq_true_eq]
    refine ⟨hg.2.1.1, hg.2.1.2, hD, hx.1.1, ?_, formT_of hD hg.2.2 (fun p hp' => by injection hp' with hp'; subst hp'; exact dz.1) dz.2 hx.2⟩
    cases prev with
    | none => rfl
    | some p =>
      have := (hp p rfl).1
      simp only [prevOk, decide_eq_true_eq]
      omega
theorem ExT.nodes {D : Int} {M : Nat} : ∀ {z : Sur}, ExT D M z → z.nodes ≤ 1 + z.len * (1 + M)
  | .nil, _ => by simp [Sur.nodes]
  | .cons e n d r, h => by
    have ih := ExT.nodes h.2
    have := h.1.2
    simp only [Sur.nodes, Sur.len]
    rw [Nat.add_mul]
    omega
theorem ExT.put {D : Int} {M : Nat} {e : Sur} {n d : Int} (he : formT (D + 1) none e = true ∧ e.nodes ≤ M) : ∀ {x z : Sur}, ExT D M x → putP e n d x = some z → ExT D M z
  | .nil, z, _, hp => by
    simp only [putP, Option.some.injEq] at hp
    subst hp
    exact ⟨he, trivial⟩
  | .cons f a b r, z, hx, hp => by
    simp only [putP] at hp
    split at hp
    · obtain ⟨u, hu, rfl⟩ := Option.map_eq_some_iff.1 hp
      exact ⟨hx.1, ExT.put he hx.2 hu⟩
    · split at hp
      · split at hp
        · simp only [Option.some.injEq] at hp
          subst hp
          unfold termP
          split
          · exact hx.2
          · exact ⟨he, hx.2⟩
        · cases hp
      · simp only [Option.some.injEq] at hp
        subst hp
        exact ⟨he, hx⟩
theorem EN.nil (dp : Nat) : EN dp .nil := ⟨trivial, trivial, trivial⟩
theorem EN.put {dp : Nat} {e x z : Sur} {n d : Int} (hx : EN dp x) (he : ENX dp e) (h : GOk n d) (hp : putP e n d x = some z) : EN dp z := by
  obtain ⟨a, b, _⟩ := putP_g (formT_g he.1) h hx.1 hx.2.1 hp
  exact ⟨a, b, ExT.put (by rw [show (4 - (dp : Int)) + 1 = 5 - dp by omega]; exact he) hx.2.2 hp⟩
theorem EN.putD {dp : Nat} {e x : Sur} {n d : Int} (hx : EN dp x) (he : ENX dp e) (h : GOk n d) : EN dp ((putP e n d x).getD .nil) := by
  rcases hq : putP e n d x with _ | z
  · exact EN.nil dp
  · exact hx.put he h hq
theorem EN.exp {dp : Nat} {x : Sur} (h : EN dp x) (hl : x.len ≤ 3) : ENX (dp + 1) x := by
  refine ⟨?_, ?_⟩
  · have := formT_of (D := 4 - (dp : Int)) (prev := none) (by omega) h.1 (fun p hp => by cases hp) h.2.1 h.2.2
    rw [show (5 - ((dp + 1 : Nat) : Int)) = 4 - dp by omega]
    exact this
  · have h1 := h.2.2.nodes
    have h2 : x.len * (1 + mE dp) ≤ 3 * (1 + mE dp) := Nat.mul_le_mul_right _ hl
    simp only [mE]
    omega
theorem EN.good {dp : Nat} {x : Sur} (h : EN dp x) (hl : x.len ≤ 3) (hd : dp ≤ 1) : sGood x = true := by
  have h1 := h.2.2.nodes
  have h2 : x.len * (1 + mE dp) ≤ 3 * (1 + mE dp) := Nat.mul_le_mul_right _ hl
  have h3 : mE dp ≤ 13 := by
    rcases (by omega : dp = 0 ∨ dp = 1) with rfl | rfl <;> simp [mE]
  have h4 := formT_of (D := 4 - (dp : Int)) (prev := none) (by omega) h.1 (fun p hp => by cases hp) h.2.1 h.2.2
  simp only [sGood, sOk, Bool.and_eq_true, decide_eq_true_eq]
  exact ⟨by omega, by omega, formT_less (by omega) h4⟩
theorem ENX.real (dp : Nat) {n d : Int} (h : FOk n d) : ENX dp (termP .nil n d) := by
  have := mE_ge dp
  unfold termP ENX
  split
  · exact ⟨rfl, by simp only [Sur.nodes]; omega⟩
  · rename_i h0
    refine ⟨?_, by simp only [Sur.nodes]; omega⟩
    simp only [formT, Bool.and_eq_true, decide_eq_true_eq]
    exact ⟨h, h0, by omega, trivial, rfl, trivial⟩
theorem mk_gok {n d : Int} (hn : -1000000 ≤ n ∧ n ≤ 1000000) (h0 : n ≠ 0) (hd : 1 ≤ d ∧ d ≤ 1000000) : GOk (mkN n d) (mkD n d) := ⟨mk_ok hn hd, mkN_ne h0 (by omega)⟩
attribute [local go_sem high] has_cell has_frozen
set_option synthInstance.maxHeartbeats 2000000 in
set_option synthInstance.maxSize 4000 in
set_option maxHeartbeats 6400000 in
set_option maxRecDepth 100000 in
theorem easy_step (dp : Nat) (hdp : dp ≤ 100) (K : Int) (hK : 0 ≤ K)
    (ih : ∀ dq, dp = dq + 1 → ∀ (q : Int) (g : Nat) (k : Int) (w : World) [hc : Cur w g k], q = dq → k + K ≤ 70368744177664 →
      Calls Tryz.prog 23 #[.pointer (some ⟨g, 0, none⟩), .int .i64 q] w fun e w' => ∃ (x : Sur) (A : Option Addr) (c : Nat), e = .returned (.agg #[.slice A x.len c]) ∧ Ro w' A w w' x c ∧ x.All FOk ∧ x.len ≤ 3 ∧ EN dq x ∧ Drew w g (k + K) w')
    (g : Nat) (k : Int) (w : World) [hc : Cur w g k] (hk : k + 1000 + 4 * K ≤ 70368744177664) :
    Calls Tryz.prog 23 #[.pointer (some ⟨g, 0, none⟩), .int .i64 dp] w fun e w' => ∃ (x : Sur) (A : Option Addr) (c : Nat), e = .returned (.agg #[.slice A x.len c]) ∧ Ro w' A w w' x c ∧ x.All FOk ∧ x.len ≤ 3 ∧ EN dp x ∧ Drew w g (k + (1000 + 4 * K)) w' := by
  go_enter Tryz.func23, Tryz.ntmps23
  go_wp2_with (first | ((with_reducible refine at_dst (N := 4) rfl ?_); refine ev_box (cs := #[.slice none 0 0]) (t := 26) rfl ?hr4 ?_; (case hr4 => first | (go_simp; done) | (go_simp; rfl)); intro g4 v4 _ _ _ _) | ((with_reducible refine at_dst (N := 5) rfl ?_); refine ev_box (cs := #[.slice none 0 0]) (t := 26) rfl ?hr5 ?_; (case hr5 => first | (go_simp; done) | (go_simp; rfl)); intro g5 v5 _ _ _ _) | ((fail_if_success (have _q := r14)); go_at_call 24; (with_reducible refine (among_any (fun j => 0 ≤ j ∧ j ≤ 3) _ 5 _ g _ _ (by omega) (by omega) (fun W hW => by haveI := hW; exact ListOk.of (by simp) rfl)).mono ?_); rintro e14 w14 ⟨r14, rfl, hp14, h1, h2⟩; haveI := h1; haveI := h2; clear h1 h2))
  go_loopw [6] (fun s wr => ∃ (m : Nat) (out : Sur) (Ao : Option Addr) (co : Nat), s = .int .i64 m ∧ out.len + m ≤ 3 ∧ out.All FOk ∧ Hid (EN dp out) ∧ Has wr g5 (.cells #[.slice Ao out.len co] 26 (0, 0)) ∧ Ro wr Ao v5 wr out co ∧ Kp v5 (XU (XE g) (XE g5)) wr ∧ Cur wr g (k + 1000 + 4 * K - (300 + K) * m)) (fun s _ => (intOf s).toNat)
  case atStart =>
    exact ⟨r14.toNat, .nil, none, 0, by go_num, by simp [Sur.len]; omega, trivial, EN.nil dp, inferInstance, Ro.nil _ _ _, kp _ _ _, Cur.le inferInstance (by have : (300 + K) * (r14.toNat : Int) ≤ (300 + K) * 3 := Int.mul_le_mul_of_nonneg_left (by omega) (by omega); omega)⟩
  case round =>
    obtain ⟨m, out, Ao, co, rfl, hm, hao, HEO, _, _, _, hcr⟩ := hrel
    haveI := hcr
    by_cases hm0 : m = 0
    · subst hm0
      go_wp2
      refine bodyPost_ret (v := .agg #[.slice Ao out.len co]) (by simp [results, Tryz.results23, go_sem]) rfl ?_
      exact ⟨out, Ao, co, rfl, Ro.lp, hao, by omega, HEO.out, drew _ _ _ (by omega)⟩
    · have hm1 : (1 : Int) ≤ m := by omega
      have hp1 : k + 1000 + 4 * K - (300 + K) * (m : Int) + 300 + K ≤ k + 1000 + 4 * K := by
        have : (300 + K) * 1 ≤ (300 + K) * (m : Int) := Int.mul_le_mul_of_nonneg_left hm1 (by omega)
        omega
      have hp2 : k + 1000 + 4 * K - (300 + K) * (m : Int) + 300 + K = k + 1000 + 4 * K - (300 + K) * ((m - 1 : Nat) : Int) := by
        rw [show ((m - 1 : Nat) : Int) = (m : Int) - 1 by omega, Int.mul_sub]; omega
      generalize k + 1000 + 4 * K - (300 + K) * (m : Int) = p0 at *
      go_upto_region 6 with (first | ((fail_if_success (have _q := r20)); go_at_call 70; (with_reducible refine (pick_any 9 g _ _ (by omega) (by omega)).mono ?_); rintro e20 w20 ⟨r20, rfl, hp20, hq20, h1, h2⟩; haveI := h1; haveI := h2; clear h1 h2) | ((fail_if_success (have _q := r23)); go_at_call 70; (with_reducible refine (pick_any 2 g _ _ (by omega) (by omega)).mono ?_); rintro e23 w23 ⟨r23, rfl, hp23, hq23, h1, h2⟩; haveI := h1; haveI := h2; clear h1 h2) | ((fail_if_success (have _q := w25)); go_at_call 69; refine (shMake_any _ _ (by omega) (by omega) (by omega) _).mono ?_; rintro e25 w25 ⟨rfl, hb⟩; haveI : Bel _ w25 := ⟨hb⟩; clear hb) | ((fail_if_success (have _q := A26)); go_at_call 68; refine (suReal_any (mkN (r20 - 4) (1 + r23)) (mkD (r20 - 4) (1 + r23)) (XL _) _ (fun k hk => hk) (mk_I64 (by omega) (by omega)).1 (mk_I64 (by omega) (by omega)).2).mono ?_; rintro e26 w26 ⟨A26, c26, rfl, hs, hb⟩; haveI : Bel _ w26 := ⟨hb⟩; haveI := Tr.arg hs; clear hs hb) | ((with_reducible refine at_dst (N := 7) rfl ?_); refine ev_box (cs := #[.slice none 0 0]) (t := 26) rfl ?hr7 ?_; (case hr7 => first | (go_simp; done) | (go_simp; rfl)); intro g7 v7 _ _ _ _))
      go_cut [32] (fun s32 wx => ∃ b : Bool, s32 = .bool b ∧ (b = true → 0 < dp) ∧ Kp (World.setCell v7 ⟨g7, 0, none⟩ (.slice A26 (termP .nil (mkN (r20 - 4) (1 + r23)) (mkD (r20 - 4) (1 + r23))).len c26)) (XE g) wx ∧ Cur wx g (p0 + 10))
      case first =>
        by_cases hd : (0 : Int) < (dp : Int)
        · go_wp2_with (first | ((fail_if_success (have _q := r31)); go_at_call 25; refine (one_any _ g _ _ (by omega) (by omega)).mono ?_; rintro e31 w31 ⟨r31, rfl, h1, h2⟩; haveI := h1; haveI := h2; clear h1 h2))
          go_meet
          exact ⟨_, rfl, fun _ => by omega, kp _ _ _, Cur.le inferInstance (by omega)⟩
        · go_wp2
          go_meet
          exact ⟨_, rfl, (by simp), kp _ _ _, Cur.le inferInstance (by omega)⟩
      case rest =>
        rename World => wv
        obtain ⟨b, rfl, hbd, _, hcv⟩ := hcut
        haveI := hcv
        go_upto_if 32 with fail
        go_cut [] (fun wx => ∃ (ex : Sur) (Ae : Option Addr) (ce : Nat), Has wx g7 (.cells #[.slice Ae ex.len ce] 26 (0, 0)) ∧ Tr wx Ae (XV wx (XL v5)) ex ce ∧ ex.All FOk ∧ Hid (ENX dp ex) ∧ Kp wr (XE g) wx ∧ Cur wx g (p0 + 100 + K))
        case first =>
          cases b
          · go_wp2
            go_meet
            exact ⟨_, A26, c26, inferInstance, Tr.lp (XL v5), (termP_all (z := .nil) trivial (mk_ok (by omega) (by omega))).1, ENX.real dp (mk_ok (by omega) (by omega)), kp _ _ _, Cur.le inferInstance (by omega)⟩
          · have hd := hbd rfl
            go_wp2_with (first | ((fail_if_success (have _q := A36)); go_at_call 23; obtain ⟨dq, rfl⟩ : ∃ dq, dp = dq + 1 := ⟨dp - 1, by omega⟩; refine (ih dq rfl _ g _ _ (by first | omega | (unfold wrap64; omega)) (by omega)).mono ?_; rintro e36 w36 ⟨x36, A36, c36, rfl, h0, hx36, hl36, hen36, h1, h2⟩; haveI := h0; haveI := h1; haveI := h2; clear h0 h1 h2))
            go_meet
            exact ⟨x36, A36, c36, inferInstance, Tr.lp (XL v5), hx36, hen36.exp hl36, kp _ _ _, Cur.le inferInstance (by omega)⟩
        case rest =>
          rename World => wx
          obtain ⟨ex, Ae, ce, _, _, hae, HEX, _, hcx⟩ := hcut
          haveI := hcx
          haveI : Ro wx Ao v5 wx out co := Ro.lp
          go_upto_region 9 with (first | ((fail_if_success (have _q := r39)); go_at_call 24; (with_reducible refine (among_any (fun j => (-100 ≤ j ∧ j ≤ 100) ∧ j ≠ 0) _ 7 _ g _ _ (by omega) (by omega) (fun W hW => by haveI := hW; exact ListOk.of (by simp) rfl)).mono ?_); rintro e39 w39 ⟨r39, rfl, hp39, h1, h2⟩; haveI := h1; haveI := h2; clear h1 h2) | ((fail_if_success (have _q := r42)); go_at_call 24; (with_reducible refine (among_any (fun j => 1 ≤ j ∧ j ≤ 100) _ 5 _ g _ _ (by omega) (by omega) (fun W hW => by haveI := hW; exact ListOk.of (by simp) rfl)).mono ?_); rintro e42 w42 ⟨r42, rfl, hp42, h1, h2⟩; haveI := h1; haveI := h2; clear h1 h2) | ((fail_if_success (have _q := w43)); go_at_call 69; refine (shMake_any _ _ (by omega) (by omega) (by omega) _).mono ?_; rintro e43 w43 ⟨rfl, hb⟩; haveI : Bel _ w43 := ⟨hb⟩; clear hb) | ((with_reducible refine at_dst (N := 8) rfl ?_); refine ev_box (cs := #[.int .i64 0, .int .i64 0]) (t := 68) rfl ?hr8 ?_; (case hr8 => first | (go_simp; done) | (go_simp; rfl)); intro g8 v8 _ _ _ _))
          have hf43 : FOk (mkN r39 r42) (mkD r39 r42) := mk_ok (by omega) (by omega)
          have HG43 : Hid (GOk (mkN r39 r42) (mkD r39 r42)) := mk_gok (by omega) hp39.2 (by omega)
          generalize mkN r39 r42 = n43 at *
          generalize mkD r39 r42 = d43 at *
          go_cut [9, 10] (fun s9 s10 wx' => ∃ (z : Sur) (ok : Bool) (g9 : Nat) (Az : Option Addr) (cz : Nat), s10 = .bool ok ∧ s9 = .pointer (some ⟨g9, 0, none⟩) ∧ Has wx' g9 (.cells #[.slice Az z.len cz] 26 (0, 0)) ∧ Ro wx' Az v5 wx' z cz ∧ z.All FOk ∧ z.len ≤ out.len + 1 ∧ Hid (EN dp z) ∧ Kp wx (XE g) wx' ∧ Cur wx' g (p0 + 200 + K) ∧ GeB wx g9)
          case first =>
            go_wp2_with (first | (go_at_call 71; (with_reducible refine (suPut_own out ex n43 d43 (XV wx (XL v5)) Ao Ae _ _ _ (trx (XV wx (XL v5)) _ Ao) (trx (XV wx (XL v5)) _ Ae) hao hae hf43 (by omega)).mono ?_); rintro e54 w54 ⟨A54, c54, xs54, rfl, hs, ht, hb⟩; haveI : Bel _ w54 := ⟨hb⟩; haveI := Own.of hs; haveI := Own.rg w54 (.slice A54 ((putP ex n43 d43 out).getD .nil).len c54); haveI := TR.of (X := XV wx (XL v5)) ht.unlow; clear hs ht hb) | ((with_reducible refine at_dst (N := 9) rfl ?_); refine ev_box (cs := #[.slice none 0 0]) (t := 26) rfl ?hr9 ?_; (case hr9 => first | (go_simp; done) | (go_simp; rfl)); intro g9 v9 _ _ _ _))
            go_meet
            have hz : ((putP ex n43 d43 out).getD .nil).All FOk ∧ ((putP ex n43 d43 out).getD .nil).len ≤ out.len + 1 := by
              rcases hq : putP ex n43 d43 out with _ | z
              · exact ⟨trivial, by simp [Sur.len]⟩
              · exact putP_all hae hf43 hao hq
            exact ⟨_, _, _, A54, c54, rfl, rfl, inferInstance, Ro.made v5 wx, hz.1, hz.2, HEO.out.putD HEX.out HG43.out, kp _ _ _, Cur.le inferInstance (by omega), inferInstance⟩
          case rest =>
            rename World => wy
            obtain ⟨z, ok, g9, Az, cz, rfl, rfl, _, _, haz, hlz, HEZ, _, hcy, _⟩ := hcut
            haveI := hcy
            cases ok
            · go_wp2
              exact ⟨⟨m - 1, out, Ao, co, by go_num, by omega, hao, HEO, inferInstance, Ro.lp, kp _ _ _, Cur.le inferInstance (by omega)⟩, by simp [intOf]; omega⟩
            · go_wp2
              exact ⟨⟨m - 1, z, Az, cz, by go_num, by omega, haz, HEZ, inferInstance, Ro.lp, kp _ _ _, Cur.le inferInstance (by omega)⟩, by simp [intOf]; omega⟩

/-- the places that a drawn number takes at most -/
def cE : Nat → Int
  | 0 => 1000
  | d + 1 => 1000 + 4 * cE d
theorem cE_pos : ∀ d, 0 ≤ cE d
  | 0 => by simp [cE]
  | d + 1 => by have := cE_pos d; simp only [cE]; omega
theorem easy_any (dp : Nat) (hdp : dp ≤ 100) : ∀ (q : Int) (g : Nat) (k : Int) (w : World) [hc : Cur w g k], q = dp → k + cE dp ≤ 70368744177664 →
    Calls Tryz.prog 23 #[.pointer (some ⟨g, 0, none⟩), .int .i64 q] w fun e w' => ∃ (x : Sur) (A : Option Addr) (c : Nat), e = .returned (.agg #[.slice A x.len c]) ∧ Ro w' A w w' x c ∧ x.All FOk ∧ x.len ≤ 3 ∧ EN dp x ∧ Drew w g (k + cE dp) w' := by
  induction dp with
  | zero =>
    rintro q g k w hc rfl hk
    exact easy_step 0 hdp 0 (by omega) (fun dq h => by omega) g k w (by simp only [cE] at hk; omega)
  | succ dp ih =>
    rintro q g k w hc rfl hk
    have hp := cE_pos dp
    exact easy_step (dp + 1) hdp (cE dp) hp (fun dq h => by cases h; exact ih (by omega)) g k w (by simp only [cE] at hk; omega)
end Go.Proofs.YtonlfnbjbmgegaaGreat

namespace Go.Proofs.YtonlfnbjbmgegaaGreat
open Go.RowKit
set_option linter.unusedSimpArgs false
set_option linter.unusedVariables false

theorem lowP_allF : ∀ {x : Sur}, x.All FOk → (lowP x).All FOk
  | .nil, _ => trivial
  | .cons e n d r, h => by
    simp only [lowP]
    split
    · exact ⟨h.1, h.2.1, lowP_allF h.2.2⟩
    · exact lowP_allF h.2.2
theorem lowP_lenF : ∀ (x : Sur), (lowP x).len ≤ x.len
  | .nil => Nat.le_refl _
  | .cons e n d r => by
    have := lowP_lenF r
    simp only [lowP]
    split <;> simp only [Sur.len] <;> omega
attribute [local go_sem high] has_cell has_frozen
set_option maxHeartbeats 1600000 in
theorem steps_any (g : Nat) (k : Int) (w : World) [hc : Cur w g k] (hk : k ≤ 70368744170000) :
    Calls Tryz.prog 28 #[.pointer (some ⟨g, 0, none⟩)] w fun e w' => ∃ n : Int, e = .returned (.int .i64 n) ∧ (-1 ≤ n ∧ n ≤ 13) ∧ Drew w g (k + 2) w' := by
  go_enter Tryz.func28, Tryz.ntmps28
  go_wp2_with (first | ((fail_if_success (have _q := r5)); go_at_call 24; (with_reducible refine (among_any (fun j => -1 ≤ j ∧ j ≤ 13) _ 10 _ g _ _ (by omega) (by omega) (fun W hW => by haveI := hW; exact ListOk.of (by simp) rfl)).mono ?_); rintro e5 w5 ⟨r5, rfl, hp5, h1, h2⟩; haveI := h1; haveI := h2; clear h1 h2))
  go_ret
  exact ⟨r5, rfl, hp5, drew _ _ _ (by omega)⟩

end Go.Proofs.YtonlfnbjbmgegaaGreat

namespace Go.Proofs.YtonlfnbjbmgegaaGreat
open Go.RowKit
set_option linter.unusedSimpArgs false
set_option linter.unusedVariables false

attribute [local go_sem high] has_cell has_frozen
end Go.Proofs.YtonlfnbjbmgegaaGreat
