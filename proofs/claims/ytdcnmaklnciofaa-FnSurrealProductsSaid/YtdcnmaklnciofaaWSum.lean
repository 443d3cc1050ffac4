/-
  Walks: the sum of two surreal numbers.
-/
import Derived.Test.YtdcnmaklnciofaaWSumFn
import Derived.Test.YtdcnmaklnciofaaWAt
import Derived.Test.YtdcnmaklnciofaaWRets
import Derived.Deep.DeepCutAuto
namespace Go.Proofs.Ytdcnmaklnciofaa
open Go.RowKit
set_option linter.unusedSimpArgs false
set_option linter.unusedVariables false

set_option maxHeartbeats 3200000 in
set_option maxRecDepth 100000 in
theorem sum_any (x y : Sur) (X : Nat → Prop) (A A' : Option Addr) (c c' : Nat) (w : World) (hX : ∀ k, X k → k < w.heap.size) (sx : SSl X w x A c) (sy : SSl X w y A' c') (hx : x.All FOk) (hy : y.All FOk) (hl : x.len + y.len ≤ 1099511627776) :
    Calls Try.prog 47 #[.agg #[.slice A x.len c], .agg #[.slice A' y.len c']] w (RetSh X w (sumP x y)) := by
  obtain ⟨i0, hi0, iz0, iz1, iz2⟩ := info_parts infoST
  have lx := sx.cap
  have lx' := sx.le
  have ly := sy.cap
  have ly' := sy.le
  unfold maxLen at lx ly
  have k0 := ((((Blk.new w 26 #[.slice A x.len c]).alloc (.cells #[.slice A' y.len c'] 26)).alloc (.cells #[.slice none 0 0] 26)).alloc (.cells #[.slice none 0 0] 26))
  have k1 := (((Blk.new' (g := w.heap.size + 1) (w.alloc (.cells #[.slice A x.len c] 26)) 26 #[.slice A' y.len c'] (by simp)).alloc (.cells #[.slice none 0 0] 26)).alloc (.cells #[.slice none 0 0] 26))
  have k2 := ((Blk.new' (g := w.heap.size + 1 + 1) ((w.alloc (.cells #[.slice A x.len c] 26)).alloc (.cells #[.slice A' y.len c'] 26)) 26 #[.slice none 0 0] (by simp)).alloc (.cells #[.slice none 0 0] 26))
  have k3 := (Blk.new' (g := w.heap.size + 1 + 1 + 1) (((w.alloc (.cells #[.slice A x.len c] 26)).alloc (.cells #[.slice A' y.len c'] 26)).alloc (.cells #[.slice none 0 0] 26)) 26 #[.slice none 0 0] (by simp))
  have hB0 : Below w.heap.size w ((((w.alloc (.cells #[.slice A x.len c] 26)).alloc (.cells #[.slice A' y.len c'] 26)).alloc (.cells #[.slice none 0 0] 26)).alloc (.cells #[.slice none 0 0] 26)) := by go_grown
  have tx := sx.low
  have ty := sy.low
  clear sx sy
  go_enter Try.func47, Try.ntmps47
  go_wp2
  go_loopw [7, 8] (fun s t wr => ∃ (i k : Nat) (v : Value) (xs : List Value) (acc : Sur), s = .int .i64 i ∧ t = .int .i64 k ∧ i ≤ x.len ∧ k ≤ y.len ∧ acc.len ≤ i + k ∧
      Blk wr w.heap.size 26 #[.slice A x.len c] ∧ Blk wr (w.heap.size + 1) 26 #[.slice A' y.len c'] ∧ Blk wr (w.heap.size + 1 + 1) 26 #[.slice none 0 0] ∧ Blk wr (w.heap.size + 1 + 1 + 1) 26 #[v] ∧
      wr.ownsRow (w.heap.size + 4) 65 3 v acc.len xs ∧ TRow (Low X w.heap.size) wr acc xs ∧ Hid (SumAt x y i k acc) ∧ Below w.heap.size w wr) (fun s t _ => x.len + y.len - (intOf s).toNat - (intOf t).toNat)
  case atStart => exact ⟨0, 0, .slice none 0 0, [], .nil, rfl, rfl, Nat.zero_le _, Nat.zero_le _, by simp [Sur.len], k0, k1, k2, k3, World.ownsRow_nil _ _ _ _, rfl, by simp [Hid, SumAt, Sur.drop, Sur.app], hB0⟩
  case round =>
    obtain ⟨i, k, v, xs, acc, rfl, rfl, hi, hk, hal, m0, m1, m2, m3, hown, hrow, HS, hB⟩ := hrel
    clear k0 k1 k2 k3 hB0
    obtain ⟨p0, _⟩ := m0.c1
    obtain ⟨p1, _⟩ := m1.c1
    obtain ⟨p2, pf2⟩ := m2.c1
    obtain ⟨p3, pf3⟩ := m3.c1
    have z3 := m3.lt
    have z2 := m2.lt
    have z1 := m1.lt
    have z0 := m0.lt
    have ag := own_ne hown (k := w.heap.size + 1 + 1 + 1) (.inl (by omega))
    have hi0' : (0 : Int) ≤ (i : Int) := by omega
    have hk0' : (0 : Int) ≤ (k : Int) := by omega
    by_cases h1 : i < x.len
    · obtain ⟨b, o, e, n, d, A1, d1, rfl, hxk, f0, f1, f2, se, in_, id_, hXb, hbl⟩ := (tx.lowTo (Below.refl _ _) hB).at_ h1
      have hbo := low_lt hXb
      have hi1' : (i : Int) < (x.len : Int) := by omega
      have ex1 : ((i : Int) == (x.len : Int)) = false := by simp; omega
      by_cases h2 : k < y.len
      · obtain ⟨b', o', e', n', d', A2, d2, rfl, hyk, g0, g1, g2, se', in', id', hXb', hbl'⟩ := (ty.lowTo (Below.refl _ _) hB).at_ h2
        have hbo' := low_lt hXb'
        have hk1' : (k : Int) < (y.len : Int) := by omega
        have ey1 : ((k : Int) == (y.len : Int)) = false := by simp; omega
        have hax := Sur.all_drop hx hxk
        have hay := Sur.all_drop hy hyk
        have HXK := Lib.hid hxk
        have HYK := Lib.hid hyk
        clear hxk hyk
        go_wp2_with fail
        go_region_held3 (fun w' => w'.cell? ⟨w.heap.size, 0, none⟩ = some (.slice (some ⟨b, o, none⟩) x.len c) ∧ w'.cell? ⟨w.heap.size + 1, 0, none⟩ = some (.slice (some ⟨b', o', none⟩) y.len c') ∧ w'.cell? ⟨b, o + i * 3, none⟩ = some (.slice A1 e.len d1) ∧ w'.cell? ⟨b', o' + k * 3, none⟩ = some (.slice A2 e'.len d2)) (go_keep)
          (first | (go_at_call 66; refine (order_any _ e e' _ _ _ _ _ _ _ (Nat.le_refl _) (All.bd hax.1) (All.bd hay.1) (se.below (by go_grown)) (se'.below (by go_grown))).mono ?_; rintro e4 w4 ⟨rfl, hb4⟩; have hB4 : Below w.heap.size w w4 := (hB.trans (Below.call (w := wr) (by go_grown) (by go_size) hb4)); have n0 := Blk.thru m0 (by go_grown) hb4; have n1 := Blk.thru m1 (by go_grown) hb4; have n2 := Blk.thru m2 (by go_grown) hb4; have n3 := Blk.thru m3 (by go_grown) hb4; have hown4 := own_thru hown (by go_grown) hb4; obtain ⟨r0, _⟩ := n0.c1; obtain ⟨r1, _⟩ := n1.c1; have u3 := old_cell hB hB4 hbo f0; have u4 := old_cell hB hB4 hbo' g0))
        obtain ⟨r2, rf2⟩ := n2.c1
        obtain ⟨r3, rf3⟩ := n3.c1
        have y3 := n3.lt
        have y2 := n2.lt
        have y1 := n1.lt
        have y0 := n0.lt
        have hs4 := hB4.size
        have hrow4 := hrow.lowTo hB hB4
        have se4 := se.lowTo hB hB4
        have se4' := se'.lowTo hB hB4
        have v1 := old_cell hB hB4 (p := ⟨b, o + i * 3 + 1, none⟩) hbo f1
        have v2 := old_cell hB hB4 (p := ⟨b, o + i * 3 + 2, none⟩) hbo f2
        have v3 := old_cell hB hB4 (p := ⟨b', o' + k * 3 + 1, none⟩) hbo' g1
        have v4 := old_cell hB hB4 (p := ⟨b', o' + k * 3 + 2, none⟩) hbo' g2
        have x1 : b < w4.heap.size := by omega
        have x2 : b' < w4.heap.size := by omega
        rcases order_range e e' with q | q | q
        · have HT := Lib.hid (HS.out.right HYK.out (.inr ⟨e, n, d, _, HXK.out, q⟩))
          rw [q]
          clear q
          go_wp2
          go_region_law ((refine step_append_lies _ (by rfl) _ _ _ (by rfl) (w.heap.size + 4) 65 i0 _ 3 40 Try.underlying24 hi0 iz0 iz1 iz2 rfl (by omega) v acc.len xs (by rfl) ((hown4.alloc _).drew) ⟨w4.heap.size, 0, none⟩ 1 1 [.slice A2 e'.len d2, .int .i64 n', .int .i64 d'] (by rfl) (by rfl) (World.news_of_block (cs := #[.slice A2 e'.len d2, .int .i64 n', .int .i64 d']) (t := 65) (fr := (0, 0)) (Blk.new' (g := w4.heap.size) w4 65 #[.slice A2 e'.len d2, .int .i64 n', .int .i64 d'] (by simp))) (by simp [Value.oneCell']) (by omega) (by unfold maxLen; omega) (by omega) (by go_size) (w4.heap.size + 1) (by simp) ?_); intro gg cap w2 hown1 hgrow hat hlt; obtain ⟨u5, uf5⟩ := (Blk.app n3 (by go_grown) hgrow (Ne.symm ag)).c1)
          all_goals
            obtain ⟨t1, t2, t3, t4, t5⟩ := low_step (ob := w.heap.size + 1 + 1 + 1) hB4 hown4 hrow4 se4' in' id' (by go_grown) hown1 hgrow (by omega) hB4.size (by omega) (by omega)
            go_wp2
            exact ⟨⟨i, k + 1, _, _, _, rfl, by go_num, hi, by omega, by rw [Sur.len_snoc]; omega, t4 _ _ _ (by omega) (by omega) n0, t4 _ _ _ (by omega) (by omega) n1, t4 _ _ _ (by omega) (by omega) n2, t5 _ _ n3, t2, t3, HT, t1⟩, by simp [intOf]; omega⟩
        · rw [q]
          have HQ := Lib.hid q
          clear q
          have nn1 := World.new_ne w4 _ r0
          have nn2 := World.new_ne w4 _ r1
          have nn3 := World.new_ne w4 _ v1
          have nn4 := World.new_ne w4 _ v2
          have nn5 := World.new_ne w4 _ v3
          have nn6 := World.new_ne w4 _ v4
          go_upto_region 11 with fail
          go_cut [10, 11] (fun s10 s11 wx => s11 = .bool (fAdd n d n' d').isSome ∧ ∃ g, s10 = .pointer (some ⟨g, 0, none⟩) ∧ Blk wx g 34 #[.int .i64 ((fAdd n d n' d').getD (0, 0)).1, .int .i64 ((fAdd n d n' d').getD (0, 0)).2] ∧ Blk wx w.heap.size 26 #[.slice (some ⟨b, o, none⟩) x.len c] ∧
              Blk wx (w.heap.size + 1) 26 #[.slice (some ⟨b', o', none⟩) y.len c'] ∧ Blk wx (w.heap.size + 1 + 1) 26 #[.slice none 0 0] ∧ Blk wx (w.heap.size + 1 + 1 + 1) 26 #[v] ∧
              wx.ownsRow (w.heap.size + 4) 65 3 v acc.len xs ∧ Below w.heap.size w wx)
          case first =>
            rcases hfa : fAdd n d n' d' with _ | ⟨p, pq⟩
            all_goals
              have HFA := Lib.hid hfa
              clear hfa
              go_region_held3 (fun w' => w'.cell? ⟨w.heap.size, 0, none⟩ = some (.slice (some ⟨b, o, none⟩) x.len c) ∧ w'.cell? ⟨w.heap.size + 1, 0, none⟩ = some (.slice (some ⟨b', o', none⟩) y.len c') ∧ w'.cell? ⟨b, o + i * 3 + 1, none⟩ = some (.int .i64 n) ∧ w'.cell? ⟨b, o + i * 3 + 2, none⟩ = some (.int .i64 d) ∧ w'.cell? ⟨b', o' + k * 3 + 1, none⟩ = some (.int .i64 n') ∧ w'.cell? ⟨b', o' + k * 3 + 2, none⟩ = some (.int .i64 d')) (go_keep)
                (first | (go_at_call 99; refine (AddFractions_any n d n' d' _).mono ?_; rintro e5 w5 ⟨rfl, hb5⟩; rw [HFA.out]; simp only [optF]; obtain ⟨hc5, hf5⟩ := bcell hb5; have hB5 : Below w.heap.size w w5 := (hB4.trans (Below.call (w := w4) (by go_grown) (by go_size) hb5)); have l0 := Blk.thru n0 (by go_grown) hb5; have l1 := Blk.thru n1 (by go_grown) hb5; have l2 := Blk.thru n2 (by go_grown) hb5; have l3 := Blk.thru n3 (by go_grown) hb5; have hown5 := own_thru hown4 (by go_grown) hb5; obtain ⟨a1, _⟩ := l0.c1; obtain ⟨a2, _⟩ := l1.c1; have a3 := old_cell hB4 hB5 (p := ⟨b, o + i * 3 + 1, none⟩) hbo v1; have a4 := old_cell hB4 hB5 (p := ⟨b, o + i * 3 + 2, none⟩) hbo v2; have a5 := old_cell hB4 hB5 (p := ⟨b', o' + k * 3 + 1, none⟩) hbo' v3; have a6 := old_cell hB4 hB5 (p := ⟨b', o' + k * 3 + 2, none⟩) hbo' v4; have b1 := World.new_ne w5 _ a1; have b2 := World.new_ne w5 _ a2; have b3 := World.new_ne w5 _ a3; have b4 := World.new_ne w5 _ a4; have b5 := World.new_ne w5 _ a5; have b6 := World.new_ne w5 _ a6; have hs5 := hb5.size))
              all_goals
                go_wp2_with fail
                go_meet
                rw [HFA.out]
                first
                  | exact ⟨rfl, _, rfl, Blk.new _ _ _, l0.alloc _, l1.alloc _, l2.alloc _, l3.alloc _, hown5.alloc _, hB5.alloc hB5.size _⟩
                  | exact ⟨rfl, _, rfl, ((Blk.call (w := (w4.alloc (.cells #[.int .i64 0, .int .i64 0] 34)).drew) (Blk.new w4 _ _) hb5).set_ 0 _).set_ 1 _, two_sets l0 (by omega) _ _, two_sets l1 (by omega) _ _, two_sets l2 (by omega) _ _, two_sets l3 (by omega) _ _, own_setCell (own_setCell hown5 (own_ne hown4 (.inr (Nat.le_refl _))) _) (own_ne hown4 (.inr (Nat.le_refl _))) _, (hB5.setCell hB4.size _).setCell hB4.size _⟩
          case rest =>
            obtain ⟨rfl, g, rfl, mc, l0, l1, l2, l3, hown5, hB5⟩ := hcut
            obtain ⟨q0, q1, _, _⟩ := mc.c2
            obtain ⟨j0, _⟩ := l0.c1
            obtain ⟨j2, jf2⟩ := l2.c1
            obtain ⟨j3, jf3⟩ := l3.c1
            have hs5 := hB5.size
            have j5 := l3.lt
            have j6 := l0.lt
            have j7 : b < wc.heap.size := by omega
            have j8 := mc.lt
            have hrow5 := hrow.lowTo hB hB5
            have se5 := se.lowTo hB hB5
            have f5 := old_cell hB hB5 (p := ⟨b, o + i * 3, none⟩) hbo f0
            rcases hfa : fAdd n d n' d' with _ | ⟨p, pq⟩
            · have HF := Lib.hid (HS.out.fail HXK.out HYK.out HQ.out hfa)
              clear hfa
              go_wp2
              refine bodyPost_ret (v := .tuple #[.agg #[.slice none 0 0], .bool false]) (by simp [results, Try.results47, go_sem, j2]) rfl ?_
              rw [HF.out]
              exact ⟨none, 0, rfl, SSl.nil _ _, hB5.setCell (by simp; omega) _⟩
            · have HT := Lib.hid (HS.out.both HXK.out HYK.out HQ.out hfa)
              have hIp : I64 p ∧ I64 pq := fAdd_I64 hfa
              rw [hfa] at q0 q1
              simp only [Option.getD_some] at q0 q1
              clear hfa
              by_cases hp : p = 0
              · have e0 : (p == 0) = true := by simpa using hp
                rw [if_pos hp] at HT
                clear hp
                go_wp2
                exact ⟨⟨i + 1, k + 1, _, _, _, by go_num, by go_num, by omega, by omega, by omega, l0, l1, l2, l3, hown5, hrow5, HT, hB5⟩, by simp [intOf]; omega⟩
              · have e0 : (p == 0) = false := by simpa using hp
                rw [if_neg hp] at HT
                clear hp
                go_wp2
                go_region_law ((refine step_append_lies _ (by rfl) _ _ _ (by rfl) (w.heap.size + 4) 65 i0 _ 3 40 Try.underlying24 hi0 iz0 iz1 iz2 rfl (by omega) v acc.len xs (by rfl) ((hown5.alloc _).drew) ⟨wc.heap.size, 0, none⟩ 1 1 [.slice A1 e.len d1, .int .i64 p, .int .i64 pq] (by rfl) (by rfl) (World.news_of_block (cs := #[.slice A1 e.len d1, .int .i64 p, .int .i64 pq]) (t := 65) (fr := (0, 0)) (Blk.new' (g := wc.heap.size) wc 65 #[.slice A1 e.len d1, .int .i64 p, .int .i64 pq] (by simp))) (by simp [Value.oneCell']) (by omega) (by unfold maxLen; omega) (by omega) (by go_size) (wc.heap.size + 1) (by simp) ?_); intro gg cap w2 hown1 hgrow hat hlt; obtain ⟨u5, uf5⟩ := (Blk.app l3 (by go_grown) hgrow (Ne.symm ag)).c1)
                all_goals
                  obtain ⟨t1, t2, t3, t4, t5⟩ := low_step (ob := w.heap.size + 1 + 1 + 1) hB5 hown5 hrow5 se5 hIp.1 hIp.2 (by go_grown) hown1 hgrow (by omega) hB5.size (by omega) (by omega)
                  go_wp2
                  exact ⟨⟨i + 1, k + 1, _, _, _, by go_num, by go_num, by omega, by omega, by rw [Sur.len_snoc]; omega, t4 _ _ _ (by omega) (by omega) l0, t4 _ _ _ (by omega) (by omega) l1, t4 _ _ _ (by omega) (by omega) l2, t5 _ _ l3, t2, t3, HT, t1⟩, by simp [intOf]; omega⟩
        · have HT := Lib.hid (HS.out.left HXK.out (.inr ⟨e', n', d', _, HYK.out, q⟩))
          rw [q]
          clear q
          go_wp2
          go_region_law ((refine step_append_lies _ (by rfl) _ _ _ (by rfl) (w.heap.size + 4) 65 i0 _ 3 40 Try.underlying24 hi0 iz0 iz1 iz2 rfl (by omega) v acc.len xs (by rfl) ((hown4.alloc _).drew) ⟨w4.heap.size, 0, none⟩ 1 1 [.slice A1 e.len d1, .int .i64 n, .int .i64 d] (by rfl) (by rfl) (World.news_of_block (cs := #[.slice A1 e.len d1, .int .i64 n, .int .i64 d]) (t := 65) (fr := (0, 0)) (Blk.new' (g := w4.heap.size) w4 65 #[.slice A1 e.len d1, .int .i64 n, .int .i64 d] (by simp))) (by simp [Value.oneCell']) (by omega) (by unfold maxLen; omega) (by omega) (by go_size) (w4.heap.size + 1) (by simp) ?_); intro gg cap w2 hown1 hgrow hat hlt; obtain ⟨u5, uf5⟩ := (Blk.app n3 (by go_grown) hgrow (Ne.symm ag)).c1)
          all_goals
            obtain ⟨t1, t2, t3, t4, t5⟩ := low_step (ob := w.heap.size + 1 + 1 + 1) hB4 hown4 hrow4 se4 in_ id_ (by go_grown) hown1 hgrow (by omega) hB4.size (by omega) (by omega)
            go_wp2
            exact ⟨⟨i + 1, k, _, _, _, by go_num, rfl, by omega, hk, by rw [Sur.len_snoc]; omega, t4 _ _ _ (by omega) (by omega) n0, t4 _ _ _ (by omega) (by omega) n1, t4 _ _ _ (by omega) (by omega) n2, t5 _ _ n3, t2, t3, HT, t1⟩, by simp [intOf]; omega⟩
      · -- the first number's term, the second number is through
        obtain rfl : k = y.len := by omega
        have HT := Lib.hid (HS.out.left hxk (.inl (y.drop_of_ge _ (Nat.le_refl _))))
        clear hxk
        go_wp2
        go_region_law ((refine step_append_lies _ (by rfl) _ _ _ (by rfl) (w.heap.size + 4) 65 i0 _ 3 40 Try.underlying24 hi0 iz0 iz1 iz2 rfl (by omega) v acc.len xs (by rfl) ((hown.alloc _).drew) ⟨wr.heap.size, 0, none⟩ 1 1 [.slice A1 e.len d1, .int .i64 n, .int .i64 d] (by rfl) (by rfl) (World.news_of_block (cs := #[.slice A1 e.len d1, .int .i64 n, .int .i64 d]) (t := 65) (fr := (0, 0)) (Blk.new' (g := wr.heap.size) wr 65 #[.slice A1 e.len d1, .int .i64 n, .int .i64 d] (by simp))) (by simp [Value.oneCell']) (by omega) (by unfold maxLen; omega) (by omega) (by go_size) (wr.heap.size + 1) (by simp) ?_); intro gg cap w2 hown1 hgrow hat hlt; obtain ⟨u3, uf3⟩ := (Blk.app m3 (by go_grown) hgrow (Ne.symm ag)).c1)
        all_goals
          obtain ⟨t1, t2, t3, t4, t5⟩ := low_step (ob := w.heap.size + 1 + 1 + 1) hB hown hrow se in_ id_ (by go_grown) hown1 hgrow (by omega) hB.size (by omega) (by omega)
          go_wp2
          exact ⟨⟨i + 1, y.len, _, _, _, by go_num, rfl, by omega, Nat.le_refl _, by rw [Sur.len_snoc]; omega, t4 _ _ _ (by omega) (by omega) m0, t4 _ _ _ (by omega) (by omega) m1, t4 _ _ _ (by omega) (by omega) m2, t5 _ _ m3, t2, t3, HT, t1⟩, by simp [intOf]; omega⟩
    · by_cases h2 : k < y.len
      · obtain ⟨b', o', e', n', d', A2, d2, rfl, hyk, g0, g1, g2, se', in', id', _, hbl'⟩ := (ty.lowTo (Below.refl _ _) hB).at_ h2
        obtain rfl : i = x.len := by omega
        have hk1' : (k : Int) < (y.len : Int) := by omega
        have ey1 : ((k : Int) == (y.len : Int)) = false := by simp; omega
        have HT := Lib.hid (HS.out.right hyk (.inl (x.drop_of_ge _ (Nat.le_refl _))))
        clear hyk
        go_wp2
        go_region_law ((refine step_append_lies _ (by rfl) _ _ _ (by rfl) (w.heap.size + 4) 65 i0 _ 3 40 Try.underlying24 hi0 iz0 iz1 iz2 rfl (by omega) v acc.len xs (by rfl) ((hown.alloc _).drew) ⟨wr.heap.size, 0, none⟩ 1 1 [.slice A2 e'.len d2, .int .i64 n', .int .i64 d'] (by rfl) (by rfl) (World.news_of_block (cs := #[.slice A2 e'.len d2, .int .i64 n', .int .i64 d']) (t := 65) (fr := (0, 0)) (Blk.new' (g := wr.heap.size) wr 65 #[.slice A2 e'.len d2, .int .i64 n', .int .i64 d'] (by simp))) (by simp [Value.oneCell']) (by omega) (by unfold maxLen; omega) (by omega) (by go_size) (wr.heap.size + 1) (by simp) ?_); intro gg cap w2 hown1 hgrow hat hlt; obtain ⟨u3, uf3⟩ := (Blk.app m3 (by go_grown) hgrow (Ne.symm ag)).c1)
        all_goals
          obtain ⟨t1, t2, t3, t4, t5⟩ := low_step (ob := w.heap.size + 1 + 1 + 1) hB hown hrow se' in' id' (by go_grown) hown1 hgrow (by omega) hB.size (by omega) (by omega)
          go_wp2
          exact ⟨⟨x.len, k + 1, _, _, _, rfl, by go_num, Nat.le_refl _, by omega, by rw [Sur.len_snoc]; omega, t4 _ _ _ (by omega) (by omega) m0, t4 _ _ _ (by omega) (by omega) m1, t4 _ _ _ (by omega) (by omega) m2, t5 _ _ m3, t2, t3, HT, t1⟩, by simp [intOf]; omega⟩
      · have HF := Lib.hid (HS.out.done (by omega) (by omega))
        obtain ⟨Av, cv, rfl⟩ := own_slice hown
        have hB3 := hB.setCell (p := ⟨w.heap.size + 1 + 1, 0, none⟩) (by simp; omega) (.slice Av acc.len cv)
        have hsl := (SSl.of_own (own_setCell hown (p := ⟨w.heap.size + 1 + 1, 0, none⟩) (own_ne hown (.inl (by simp))) (.slice Av acc.len cv)) (hrow.lowTo hB hB3).unlow (fun k hk hXk => by have := hown.lt k hk; have := hX k hXk; omega)).2
        go_wp2
        refine bodyPost_ret (v := .tuple #[.agg #[.slice Av acc.len cv], .bool true]) (by simp [results, Try.results47, go_sem, p2]) rfl ?_
        rw [HF.out]
        exact ⟨Av, cv, rfl, hsl, hB3⟩
end Go.Proofs.Ytdcnmaklnciofaa
