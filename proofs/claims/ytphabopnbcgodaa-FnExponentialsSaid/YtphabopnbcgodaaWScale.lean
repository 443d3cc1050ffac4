/-
  Walks: a number times a fraction.
-/
import Derived.Test.YtphabopnbcgodaaWNeg
namespace Go.Proofs.Ytphabopnbcgodaa
open Go.RowKit
set_option linter.unusedSimpArgs false
set_option linter.unusedVariables false

def scaleT (a b : Int) : Sur → Option Sur
  | .nil => some .nil
  | .cons e n d r => match fMultiply n d a b with | none => none | some (p, q) => (scaleT a b r).map (.cons e p q ·)
/-- a number times a fraction; none where a fraction is too great -/
def scaleP (x : Sur) (a b : Int) : Option Sur := if a = 0 then some .nil else scaleT a b x

def ScaleAt (a b : Int) (x : Sur) (i : Nat) (acc : Sur) : Prop := scaleT a b x = (scaleT a b (x.drop i)).map (acc.app ·)
theorem ScaleAt.step {a b : Int} {x : Sur} {i : Nat} {acc e : Sur} {n d p q : Int} (h : ScaleAt a b x i acc) (hx : x.drop i = .cons e n d (x.drop (i + 1))) (hf : fMultiply n d a b = some (p, q)) :
    ScaleAt a b x (i + 1) (acc.app (.cons e p q .nil)) := by
  unfold ScaleAt at *
  rw [h, hx, scaleT, hf]
  simp only [Option.map_map]
  congr 1
  funext z
  simp [Sur.app_assoc, Sur.app]
theorem ScaleAt.fail {a b : Int} {x : Sur} {i : Nat} {acc e : Sur} {n d : Int} (h : ScaleAt a b x i acc) (hx : x.drop i = .cons e n d (x.drop (i + 1))) (hf : fMultiply n d a b = none) : scaleT a b x = none := by
  unfold ScaleAt at h
  rw [h, hx, scaleT, hf]; rfl
theorem ScaleAt.done {a b : Int} {x : Sur} {i : Nat} {acc : Sur} (h : ScaleAt a b x i acc) (hi : x.len ≤ i) : scaleT a b x = some acc := by
  unfold ScaleAt at h
  rw [h, x.drop_of_ge i hi]; simp [scaleT, Sur.app_nil]
theorem fMul_I64 {a b a' b' p q : Int} (h : fMultiply a b a' b' = some (p, q)) : I64 p ∧ I64 q := fracOk_I64 (two_ok h)

set_option maxHeartbeats 1600000 in
set_option maxRecDepth 100000 in
theorem scaled_any (x : Sur) (fa fb : Int) (X : Nat → Prop) (A : Option Addr) (c : Nat) (w : World) (hX : ∀ k, X k → k < w.heap.size) (sx : SSl X w x A c) (hl : x.len ≤ 1099511627776) :
    Calls Try.prog 116 #[.agg #[.slice A x.len c], .agg #[.int .i64 fa, .int .i64 fb]] w (RetSh X w (scaleP x fa fb)) := by
  obtain ⟨i0, hi0, iz0, iz1, iz2⟩ := info_parts infoST
  have lx := sx.cap
  have lx' := sx.le
  unfold maxLen at lx
  have k0 := ((((Blk.new w 26 #[.slice A x.len c]).alloc (.cells #[.int .i64 fa, .int .i64 fb] 29)).alloc (.cells #[.slice none 0 0] 26)).alloc (.cells #[.slice none 0 0] 26))
  have k1 := (((Blk.new' (g := w.heap.size + 1) (w.alloc (.cells #[.slice A x.len c] 26)) 29 #[.int .i64 fa, .int .i64 fb] (by simp)).alloc (.cells #[.slice none 0 0] 26)).alloc (.cells #[.slice none 0 0] 26))
  have k2 := ((Blk.new' (g := w.heap.size + 1 + 1) ((w.alloc (.cells #[.slice A x.len c] 26)).alloc (.cells #[.int .i64 fa, .int .i64 fb] 29)) 26 #[.slice none 0 0] (by simp)).alloc (.cells #[.slice none 0 0] 26))
  have k3 := (Blk.new' (g := w.heap.size + 1 + 1 + 1) (((w.alloc (.cells #[.slice A x.len c] 26)).alloc (.cells #[.int .i64 fa, .int .i64 fb] 29)).alloc (.cells #[.slice none 0 0] 26)) 26 #[.slice none 0 0] (by simp))
  have hB0 : Below w.heap.size w ((((w.alloc (.cells #[.slice A x.len c] 26)).alloc (.cells #[.int .i64 fa, .int .i64 fb] 29)).alloc (.cells #[.slice none 0 0] 26)).alloc (.cells #[.slice none 0 0] 26)) := by go_grown
  by_cases ha : fa = 0
  · have H := Lib.hid (show scaleP x fa fb = some .nil by simp [scaleP, ha])
    have e0 : (fa == 0) = true := by simpa using ha
    clear ha
    go_enter Try.func116, Try.ntmps116
    go_wp2
    refine bodyPost_ret (v := .tuple #[.agg #[.slice none 0 0], .bool true]) (by simp [results, Try.results116, go_sem]) rfl ?_
    rw [H.out]
    exact ⟨none, 0, rfl, SSl.nil _ _, by go_grown⟩
  · have H := Lib.hid (show scaleP x fa fb = scaleT fa fb x by simp [scaleP, ha])
    have e0 : (fa == 0) = false := by simpa using ha
    clear ha
    have tx := sx.low
    clear sx
    go_enter Try.func116, Try.ntmps116
    go_wp2
    go_loopw [19] (fun s wr => ∃ (i : Nat) (v : Value) (xs : List Value) (acc : Sur), s = .int .i64 i ∧ i ≤ x.len ∧ acc.len ≤ i ∧ Blk wr (w.heap.size + 1) 29 #[.int .i64 fa, .int .i64 fb] ∧
        Blk wr (w.heap.size + 1 + 1) 26 #[.slice none 0 0] ∧ Blk wr (w.heap.size + 1 + 1 + 1) 26 #[v] ∧
        wr.ownsRow (w.heap.size + 4) 58 3 v acc.len xs ∧ TRow (Low X w.heap.size) wr acc xs ∧ Hid (ScaleAt fa fb x i acc) ∧ Below w.heap.size w wr) (fun s _ => x.len - (intOf s).toNat)
    case atStart => exact ⟨0, .slice none 0 0, [], .nil, rfl, Nat.zero_le _, Nat.zero_le _, k1, k2, k3, World.ownsRow_nil _ _ _ _, rfl, by simp [Hid, ScaleAt, Sur.drop, Sur.app], hB0⟩
    case round =>
      obtain ⟨i, v, xs, acc, rfl, hi, hal, m1, m2, m3, hown, hrow, HS, hB⟩ := hrel
      clear k0 k1 k2 k3 hB0
      obtain ⟨p10, p11, _, _⟩ := m1.c2
      obtain ⟨p2, pf2⟩ := m2.c1
      obtain ⟨p3, pf3⟩ := m3.c1
      have z3 := m3.lt
      have z2 := m2.lt
      have z1 := m1.lt
      have ag := own_ne hown (k := w.heap.size + 1 + 1 + 1) (.inl (by omega))
      have hi0' : (0 : Int) ≤ (i : Int) := by omega
      by_cases h1 : i < x.len
      · obtain ⟨b, o, e, n, d, A1, d1, rfl, hxk, f0, f1, f2, se, in_, id_, hXb, hbl⟩ := (tx.lowTo (Below.refl _ _) hB).at_ h1
        have HXK := Lib.hid hxk
        clear hxk
        have kt := Blk.new wr 58 #[.slice A1 e.len d1, .int .i64 n, .int .i64 d]
        go_wp2_with fail
        refine (MultiplyFractions_any n d fa fb _).mono ?_
        rintro e5 w5 ⟨rfl, hb5⟩
        have hB5 : Below w.heap.size w w5 := hB.trans (Below.call (w := wr) (by go_grown) (by go_size) hb5)
        have l1 := Blk.thru m1 (by go_grown) hb5
        have l2 := Blk.thru m2 (by go_grown) hb5
        have l3 := Blk.thru m3 (by go_grown) hb5
        have lt := kt.call hb5
        have hown5 := own_thru hown (by go_grown) hb5
        obtain ⟨a2, af2⟩ := l2.c1
        obtain ⟨a3, af3⟩ := l3.c1
        obtain ⟨t0, t1, t2, _, _, _⟩ := lt.c3
        have y2 := l2.lt
        have y3 := l3.lt
        have y4 := lt.lt
        have hrow5 := hrow.lowTo hB hB5
        have se5 := se.lowTo hB hB5
        rcases hfa : fMultiply n d fa fb with _ | ⟨p, pq⟩
        · have HF := Lib.hid (HS.out.fail HXK.out hfa)
          clear hfa
          simp only [optF]
          go_wp2
          refine bodyPost_ret (v := .tuple #[.agg #[.slice none 0 0], .bool false]) (by simp [results, Try.results116, go_sem, a2, y2]) rfl ?_
          rw [H.out, HF.out]
          exact ⟨none, 0, rfl, SSl.nil _ _, by go_grown⟩
        · have HT := Lib.hid (HS.out.step HXK.out hfa)
          have hIp := fMul_I64 hfa
          clear hfa
          simp only [optF]
          go_wp2_with (at_builtin; go_must (refine wpList_append_lies _ rfl _ _ _ rfl (w.heap.size + 4) 58 i0 _ 3 40 Try.underlying24 hi0 iz0 iz1 iz2 rfl (by omega) v acc.len xs (by rfl) ((hown5.alloc _).alloc _) ⟨w5.heap.size + 1, 0, none⟩ 1 1 [.slice A1 e.len d1, .int .i64 p, .int .i64 pq] (by rfl) (by rfl) (World.news_of_block (cs := #[.slice A1 e.len d1, .int .i64 p, .int .i64 pq]) (t := 58) (fr := (0, 0)) (Blk.new' (g := w5.heap.size + 1) (w5.alloc (.cells #[.int .i64 p, .int .i64 pq] 29)) 58 #[.slice A1 e.len d1, .int .i64 p, .int .i64 pq] (by simp))) (by simp [Value.oneCell']) (by omega) (by unfold maxLen; omega) (by omega) (by go_size) (w5.heap.size + 1 + 1) (by simp) ?_); intro gg cap w2 hown1 hgrow hat hlt; obtain ⟨u3, uf3⟩ := (Blk.app l3 (by go_grown) hgrow (Ne.symm ag)).c1)
          obtain ⟨t1, t2, t3, t4, t5⟩ := low_step (ob := w.heap.size + 1 + 1 + 1) hB5 hown5 hrow5 se5 hIp.1 hIp.2 (by go_grown) hown1 hgrow (by omega) hB5.size (by omega) (by omega)
          exact ⟨⟨i + 1, _, _, _, by go_num, by omega, by rw [Sur.len_snoc]; omega, t4 _ _ _ (by omega) (by omega) l1, t4 _ _ _ (by omega) (by omega) l2, t5 _ _ l3, t2, t3, HT, t1⟩, by simp [intOf]; omega⟩
      · have HF := Lib.hid (HS.out.done (by omega))
        obtain ⟨Av, cv, rfl⟩ := own_slice hown
        have hB3 := hB.setCell (p := ⟨w.heap.size + 1 + 1, 0, none⟩) (by simp; omega) (.slice Av acc.len cv)
        have hsl := (SSl.of_own (own_setCell hown (p := ⟨w.heap.size + 1 + 1, 0, none⟩) (own_ne hown (.inl (by simp))) (.slice Av acc.len cv)) (hrow.lowTo hB hB3).unlow (fun k hk hXk => by have := hown.lt k hk; have := hX k hXk; omega)).2
        go_wp2
        refine bodyPost_ret (v := .tuple #[.agg #[.slice Av acc.len cv], .bool true]) (by simp [results, Try.results116, go_sem, p2]) rfl ?_
        rw [H.out, HF.out]
        exact ⟨Av, cv, rfl, hsl, hB3⟩
end Go.Proofs.Ytphabopnbcgodaa
