/-
  Walks, the reference's side: the order of two surreal numbers.
-/
import Derived.Test.YtonlfnbjbmgegaaGreatBC
import Derived.Test.YtonlfnbjbmgegaaGreatBE
namespace Go.Proofs.YtonlfnbjbmgegaaGreat
open Go.RowKit
set_option linter.unusedSimpArgs false
set_option linter.unusedVariables false

set_option maxHeartbeats 400000 in
theorem suSign_any (x : Sur) (X : Nat → Prop) (A : Option Addr) (c : Nat) (w : World) (sx : SSl X w x A c) :
    Calls Tryz.prog 106 #[.slice A x.len c] w fun e w' => e = .returned (.int .i64 (order x .nil)) ∧ Below w.heap.size w w' := by
  cases x with
  | nil =>
    have e0 : (((Sur.nil).len : Int) == 0) = true := rfl
    have H := Lib.hid (show order .nil .nil = 0 from by simp [order])
    go_enter Tryz.func106, Tryz.ntmps106
    go_wp2
    go_ret
    exact ⟨by rw [H.out]; rfl, Below.refl _ _⟩
  | cons e n d r =>
    obtain ⟨b, o, e', n', d', A1, d1, rfl, hxk, f0, f1, f2, se, _, _, _, hbl⟩ := sx.at_ (k := 0) (by simp [Sur.len])
    simp only [Sur.drop] at hxk
    injection hxk with he hn hd hr
    subst he hn hd
    have e0 : (((Sur.cons e n d r).len : Int) == 0) = false := by simp [Sur.len]; omega
    have hl : 0 < (Sur.cons e n d r).len := by simp [Sur.len]
    have H := Lib.hid (show order (.cons e n d r) .nil = cmpI n 0 from by simp [order])
    have g1 : w.cell? ⟨b, o + 1, none⟩ = some (.int .i64 n) := by simpa using f1
    go_enter Tryz.func106, Tryz.ntmps106
    go_wp2_with (go_at_call 104; refine (l1Sign_any _ _).mono ?_; rintro e w' ⟨rfl, rfl⟩)
    go_ret
    exact ⟨by rw [H.out]; rfl, Below.refl _ _⟩

theorem SSl.tail {X : Nat → Prop} {w : World} {x : Sur} {b o c k : Nat} (h : SSl X w x (some ⟨b, o, none⟩) c) (hk : k ≤ x.len) : SSl X w (x.drop k) (some ⟨b, o + k * 3, none⟩) (c - k) := by
  obtain ⟨h1, h2, h3, h4⟩ := h
  refine ⟨by rw [Sur.len_drop]; omega, by omega, rfl, STerms.drop k h4⟩

set_option maxHeartbeats 1600000 in
set_option maxRecDepth 100000 in
theorem suCmp_any (N : Nat) : ∀ (x y : Sur) (X Y : Nat → Prop) (A A' : Option Addr) (c c' : Nat) (w : World), x.nodes ≤ N → x.All FOk → y.All FOk → SSl X w x A c → SSl Y w y A' c' →
    Calls Tryz.prog 57 #[.agg #[.slice A x.len c], .agg #[.slice A' y.len c']] w fun e w' => e = .returned (.int .i64 (order x y)) ∧ Below w.heap.size w w' := by
  induction N with
  | zero => intro x y X Y A A' c c' w hN; have := x.len_lt_nodes; omega
  | succ N ih =>
    intro x y X Y A A' c c' w hN hx hy sx sy
    have IH := Lib.hid ih; clear ih
    have lx := sx.cap
    have lx' := sx.le
    have ly := sy.cap
    have ly' := sy.le
    unfold maxLen at lx ly
    have k0 := ((Blk.new w 26 #[.slice A x.len c]).alloc (.cells #[.slice A' y.len c'] 26))
    have k1 := (Blk.new' (g := w.heap.size + 1) (w.alloc (.cells #[.slice A x.len c] 26)) 26 #[.slice A' y.len c'] (by simp))
    have hB0 : Below w.heap.size w ((w.alloc (.cells #[.slice A x.len c] 26)).alloc (.cells #[.slice A' y.len c'] 26)) := by go_grown
    go_enter Tryz.func57, Tryz.ntmps57
    go_wp2
    go_loopw [12] (fun s wr => ∃ k : Nat, s = .int .i64 k ∧ k ≤ x.len ∧ k ≤ y.len ∧ Blk wr w.heap.size 26 #[.slice A x.len c] ∧ Blk wr (w.heap.size + 1) 26 #[.slice A' y.len c'] ∧ Hid (order x y = order (x.drop k) (y.drop k)) ∧ Below w.heap.size w wr) (fun s _ => x.len + y.len + 1 - (intOf s).toNat)
    case atStart => exact ⟨0, rfl, Nat.zero_le _, Nat.zero_le _, k0, k1, rfl, hB0⟩
    case round =>
      obtain ⟨k, rfl, hkx, hky, m0, m1, ho, hB⟩ := hrel
      have sx1 := sx.below hB
      have sy1 := sy.below hB
      clear k0 k1 hB0
      obtain ⟨p0, _⟩ := m0.c1
      obtain ⟨p1, _⟩ := m1.c1
      have z1 := m1.lt
      have z0 := m0.lt
      have hk0' : (0 : Int) ≤ (k : Int) := by omega
      by_cases h1 : k < x.len
      · obtain ⟨b, o, e, n, d, A1, d1, rfl, hxk, f0, f1, f2, se, _, _, _, hbl⟩ := sx1.at_ h1
        by_cases h2 : k < y.len
        · obtain ⟨b', o', e', n', d', A2, d2, rfl, hyk, g0, g1, g2, se', _, _, _, hbl'⟩ := sy1.at_ h2
          have e2 : ((k : Int) == (y.len : Int)) = false := by simp; omega
          have hc := order_cons hxk hyk ho.out
          have Hx := Lib.hid hxk
          have Hy := Lib.hid hyk
          have hne := Sur.nodes_drop hxk
          have hae := Sur.all_drop hx hxk
          have hae' := Sur.all_drop hy hyk
          have HC := Lib.hid hc
          clear hc hxk hyk
          have r1 := cmpI_bd n 0
          have r2 := cmpI_bd n' 0
          go_wp2_with fail
          refine (IH.out e e' _ _ _ _ _ _ _ (by omega) hae.1 hae'.1 (se.below (by go_grown)) (se'.below (by go_grown))).mono ?_
          rintro e1 w1 ⟨rfl, hb1⟩
          have l0 := Blk.thru m0 (by go_grown) hb1
          have l1 := Blk.thru m1 (by go_grown) hb1
          have l2 := Blk.thru (Blk.new wr 70 #[.slice A1 e.len d1, .int .i64 n, .int .i64 d]) (by go_grown) hb1
          have l3 := Blk.call (Blk.new' (g := wr.heap.size + 1) (wr.alloc (.cells #[.slice A1 e.len d1, .int .i64 n, .int .i64 d] 70)) 70 #[.slice A2 e'.len d2, .int .i64 n', .int .i64 d'] (by simp)) hb1
          have hB1 : Below w.heap.size w w1 := hB.trans (Below.call (w := wr) (by go_grown) (by go_size) hb1)
          obtain ⟨t0, t1, t2, _, _, _⟩ := l2.c3
          obtain ⟨u0, u1, u2, _, _, _⟩ := l3.c3
          rcases order_range e e' with q | q | q
          all_goals rw [q]
          · go_wp2_with (go_at_call 104; refine (l1Sign_any _ _).mono ?_; rintro e w' ⟨rfl, rfl⟩)
            go_ret
            exact ⟨by rw [HC.out.2.1 q]; rfl, hB1⟩
          · by_cases qn : n = n'
            · subst qn
              by_cases qd : d = d'
              · subst qd
                have HN := Lib.hid (HC.out.2.2.2 q (cmpF_self _ _))
                clear q
                go_wp2
                exact ⟨⟨k + 1, by go_num, by omega, by omega, l0, l1, HN, hB1⟩, by simp [intOf]; omega⟩
              · have HN := Lib.hid (HC.out.2.2.1 q (fun h => qd ((cmpF_ne hae.2.1 hae'.2.1).1 h).2))
                clear q
                go_wp2_with fail
                refine (shCmp_any _ _ _ _ hae.2.1 hae'.2.1 _).mono ?_
                rintro e2 w2 ⟨rfl, hb2⟩
                go_wp2
                go_ret
                exact ⟨by rw [HN.out]; rfl, hB1.trans (hb2.mono hB1.size)⟩
            · have HN := Lib.hid (HC.out.2.2.1 q (fun h => qn ((cmpF_ne hae.2.1 hae'.2.1).1 h).1))
              clear q
              go_wp2_with fail
              refine (shCmp_any _ _ _ _ hae.2.1 hae'.2.1 _).mono ?_
              rintro e2 w2 ⟨rfl, hb2⟩
              go_wp2
              go_ret
              exact ⟨by rw [HN.out]; rfl, hB1.trans (hb2.mono hB1.size)⟩
          · go_wp2_with (go_at_call 104; refine (l1Sign_any _ _).mono ?_; rintro e w' ⟨rfl, rfl⟩)
            go_ret
            exact ⟨by rw [HC.out.1 q]; rfl, hB1⟩
        · obtain rfl : k = y.len := by omega
          have hfin : order x y = cmpI n 0 := by rw [ho.out, hxk, y.drop_of_ge _ (Nat.le_refl _)]; rfl
          have HN := Lib.hid hfin
          clear hfin hxk
          have e1 : ((y.len : Int) == (y.len : Int)) = true := by simp
          go_wp2_with (go_at_call 104; refine (l1Sign_any _ _).mono ?_; rintro e w' ⟨rfl, rfl⟩)
          go_ret
          exact ⟨by rw [HN.out]; rfl, by go_grown⟩
      · obtain rfl : k = x.len := by omega
        rcases A' with _ | ⟨b', o', i'⟩
        · have hb' : y.len = 0 := sy1.2.2
          obtain ⟨hx0, hy0⟩ : x.len = 0 ∧ y.len = 0 := by omega
          cases y with
          | cons _ _ _ _ => simp [Sur.len] at hy0
          | nil =>
            cases x with
            | cons _ _ _ _ => simp [Sur.len] at hx0
            | nil =>
              have HN := Lib.hid (show order .nil .nil = 0 by simp [order])
              have hk2 : (0 : Int) ≤ (c' : Int) := by omega
              have SY := Lib.hid sy1
              simp only [Sur.len] at *
              clear ho sx1 sy1 sx sy hx hy IH hkx hky lx lx'
              go_wp2_with fail
              refine (suSign_any .nil _ _ _ _ SY.out).mono ?_
              rintro e2 w2 ⟨rfl, hb2⟩
              have hz : order .nil .nil = 0 := by simp [order]
              rw [hz]
              go_wp2
              go_ret
              exact ⟨by rw [HN.out]; rfl, hB.trans (hb2.mono hB.size)⟩
        · have hb' := sy1.2.2.1
          cases hb'
          have tl := sy1.tail hky
          have hfin : order x y = -order (y.drop x.len) .nil := by
            rw [ho.out, x.drop_of_ge _ (Nat.le_refl _)]
            cases y.drop x.len <;> simp [order]
          have HN := Lib.hid hfin
          have hord := order_bd (y.drop x.len) .nil
          have hlen : y.len - x.len = (y.drop x.len).len := (Sur.len_drop _ _).symm
          clear hfin ho sx1 sy1 sx sy
          have hk1 : (x.len : Int) ≤ (y.len : Int) := by omega
          have hk2 : (y.len : Int) ≤ (c' : Int) := by omega
          have HL := Lib.hid hlen
          by_cases hcc : c' = x.len
          · have hz : (y.drop x.len).len = 0 := by omega
            have TL : Hid (SSl Y wr (y.drop x.len) (some ⟨b', o', none⟩) 0) := by
              refine ⟨by omega, by simp [maxLen], rfl, ?_⟩
              cases hd : y.drop x.len with
              | nil => trivial
              | cons _ _ _ _ => rw [hd] at hz; simp [Sur.len] at hz
            clear tl hlen hz hx hy IH hkx hky lx lx'
            go_wp2_with fail
            rw [HL.out]
            refine (suSign_any _ _ _ _ _ TL.out).mono ?_
            rintro e2 w2 ⟨rfl, hb2⟩
            go_wp2
            go_ret
            exact ⟨by rw [HN.out]; rfl, hB.trans (hb2.mono hB.size)⟩
          · have TL := Lib.hid tl
            clear tl hlen hx hy IH hkx hky lx lx'
            go_wp2_with fail
            rw [HL.out]
            refine (suSign_any _ _ _ _ _ TL.out).mono ?_
            rintro e2 w2 ⟨rfl, hb2⟩
            go_wp2
            go_ret
            exact ⟨by rw [HN.out]; rfl, hB.trans (hb2.mono hB.size)⟩
end Go.Proofs.YtonlfnbjbmgegaaGreat
