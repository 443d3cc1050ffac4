/-
  Walks, the reference's side: a term is put into a number.
-/
import Derived.Test.YtonlfnbjbmgegaaGreatSOwn
import Derived.Test.YtonlfnbjbmgegaaGreatBF
import Derived.Deep.DeepCutAuto
namespace Go.Proofs.YtonlfnbjbmgegaaGreat
open Go.RowKit
set_option linter.unusedSimpArgs false
set_option linter.unusedVariables false

/-- what was made of the first terms, and what is to come; behind the term's own place there is no failure -/
def PutAt (x e : Sur) (n d : Int) (i : Nat) : Bool → Sur → Prop
  | true, acc => putP e n d x = some (acc.app (x.drop i))
  | false, acc => putP e n d x = (putP e n d (x.drop i)).map (acc.app ·)
theorem PutAt.after {x e : Sur} {n d : Int} {i : Nat} {acc e1 : Sur} {n1 d1 : Int} (h : PutAt x e n d i true acc) (hx : x.drop i = .cons e1 n1 d1 (x.drop (i + 1))) : PutAt x e n d (i + 1) true (acc.app (.cons e1 n1 d1 .nil)) := by
  simp only [PutAt] at h ⊢
  rw [h, hx, Sur.app_assoc]; rfl
theorem PutAt.over {x e : Sur} {n d : Int} {i : Nat} {acc e1 : Sur} {n1 d1 : Int} (h : PutAt x e n d i false acc) (hx : x.drop i = .cons e1 n1 d1 (x.drop (i + 1))) (q : order e1 e = 1) : PutAt x e n d (i + 1) false (acc.app (.cons e1 n1 d1 .nil)) := by
  simp only [PutAt] at h ⊢
  rw [h, hx, putP, if_pos q, Option.map_map]
  congr 1
  funext z
  simp [Sur.app_assoc, Sur.app]
theorem PutAt.here {x e : Sur} {n d : Int} {i : Nat} {acc e1 : Sur} {n1 d1 : Int} (h : PutAt x e n d i false acc) (hx : x.drop i = .cons e1 n1 d1 (x.drop (i + 1))) (q : order e1 e = -1) : PutAt x e n d (i + 1) true ((acc.app (.cons e n d .nil)).app (.cons e1 n1 d1 .nil)) := by
  simp only [PutAt] at h ⊢
  rw [h, hx, putP, if_neg (by omega), if_neg (by omega)]
  simp [Sur.app_assoc, Sur.app]
theorem PutAt.both {x e : Sur} {n d : Int} {i : Nat} {acc e1 : Sur} {n1 d1 : Int} (h : PutAt x e n d i false acc) (hx : x.drop i = .cons e1 n1 d1 (x.drop (i + 1))) (q : order e1 e = 0) (hf : fracOk (adN n1 d1 n d) (adD n1 d1 n d) = true) :
    PutAt x e n d (i + 1) true (acc.app (termP e (adN n1 d1 n d) (adD n1 d1 n d))) := by
  simp only [PutAt] at h ⊢
  rw [h, hx, putP, if_neg (by omega), if_pos q, if_pos hf]
  simp [Sur.app_assoc]
theorem PutAt.fail {x e : Sur} {n d : Int} {i : Nat} {acc e1 : Sur} {n1 d1 : Int} (h : PutAt x e n d i false acc) (hx : x.drop i = .cons e1 n1 d1 (x.drop (i + 1))) (q : order e1 e = 0) (hf : fracOk (adN n1 d1 n d) (adD n1 d1 n d) = false) :
    putP e n d x = none := by
  simp only [PutAt] at h
  rw [h, hx, putP, if_neg (by omega), if_pos q, if_neg (by simp [hf])]; rfl
theorem PutAt.end1 {x e : Sur} {n d : Int} {i : Nat} {acc : Sur} (h : PutAt x e n d i true acc) (hi : x.len ≤ i) : putP e n d x = some acc := by
  simp only [PutAt] at h
  rw [h, x.drop_of_ge i hi, Sur.app_nil]
theorem PutAt.end0 {x e : Sur} {n d : Int} {i : Nat} {acc : Sur} (h : PutAt x e n d i false acc) (hi : x.len ≤ i) : putP e n d x = some (acc.app (.cons e n d .nil)) := by
  simp only [PutAt] at h
  rw [h, x.drop_of_ge i hi]; rfl

theorem step_append_none {P : Program} {w : World} {ops : Array Oper} {o : Oper} {a : Act} {K : Act → World → Prop} {Q : Exit → Act → World → Prop} {E : Prop} (hgd : o.guard = none) (s x : Operand) (t : TypeId)
    (ho : o.op = .call { callee := .builtin .append, args := #[s, x], argTypes := #[t, t] })
    (base : Nat) (e : TypeId) (i : TypeInfo) (size : Nat) (ht : P.underlying t = some (.slice e)) (hi : P.info? e = some i)
    (v : Value) (n : Nat) (xs : List Value) (hs : a.eval s = v) (hown : w.ownsRow base e size v n xs) (hx : a.eval x = .slice none 0 0)
    (h : K (a.put o.dst v) w) : if Region.wanted o (yielded ops a.tmps) = true then Oper.wp P o a w K Q else E := by
  have hw : Region.wanted o (yielded ops a.tmps) = true := by simp [Region.wanted, hgd]
  rw [if_pos hw]
  have hrun := run_append_owned_none (P := P) (w := w) base t o.type e i size ht hi v n xs hown
  unfold Oper.wp
  simp [execOp, ho, resolve, invoke, builtin, hs, hx, hrun, Result.andThen]
  unfold Oper.upon
  exact h

set_option maxHeartbeats 800000 in
theorem suTerm_zero (x : Sur) (n d : Int) (A : Option Addr) (c : Nat) (w : World) (hn : n = 0) :
    Calls Tryz.prog 80 #[.agg #[.slice A x.len c], .agg #[.int .i64 n, .int .i64 d]] w fun e w' => e = .returned (.agg #[.slice none 0 0]) ∧ Below w.heap.size w w' := by
  have e0 : (n == 0) = true := by simpa using hn
  clear hn
  go_enter Tryz.func80, Tryz.ntmps80
  go_wp2
  refine bodyPost_ret (v := .agg #[.slice none 0 0]) (by simp [results, Tryz.results80, go_sem]) rfl ?_
  exact ⟨rfl, by go_grown⟩
set_option maxHeartbeats 800000 in
theorem suTerm_one (x : Sur) (n d : Int) (A : Option Addr) (c : Nat) (w : World) (hn : n ≠ 0) :
    Calls Tryz.prog 80 #[.agg #[.slice A x.len c], .agg #[.int .i64 n, .int .i64 d]] w fun e w' => e = .returned (.agg #[.slice (some ⟨w.heap.size + 1 + 1 + 1, 0, none⟩) 1 1]) ∧ Blk w' (w.heap.size + 1 + 1 + 1) 70 #[.slice A x.len c, .int .i64 n, .int .i64 d] ∧ Below w.heap.size w w' := by
  have e0 : (n == 0) = false := by simpa using hn
  clear hn
  go_enter Tryz.func80, Tryz.ntmps80
  go_wp2
  refine bodyPost_ret (v := .agg #[.slice (some ⟨w.heap.size + 1 + 1 + 1, 0, none⟩) 1 1]) (by simp [results, Tryz.results80, go_sem]) rfl ?_
  exact ⟨rfl, Blk.new' _ _ _ (by simp), by go_grown⟩

/-- a number in a row of its own, its exponents shared, and whether there is one -/
def RetShO (X : Nat → Prop) (w : World) (o : Option Sur) (e : Ending) (w' : World) : Prop :=
  ∃ A c xs, e = .returned (.tuple #[.agg #[.slice A (o.getD .nil).len c], .bool o.isSome]) ∧ w'.ownsRow w.heap.size 70 3 (.slice A (o.getD .nil).len c) (o.getD .nil).len xs ∧ TRow (Low X w.heap.size) w' (o.getD .nil) xs ∧ Below w.heap.size w w'
theorem RetShO.sh {X : Nat → Prop} {w : World} {o : Option Sur} {e : Ending} {w' : World} (hX : ∀ k, X k → k < w.heap.size) (h : RetShO X w o e w') : RetSh X w o e w' := by
  obtain ⟨A, c, xs, he, h1, h2, h3⟩ := h
  exact ⟨A, c, he, (SSl.of_own h1 h2.unlow fun k hk hXk => by have := h1.lt k hk; have := hX k hXk; omega).2, h3⟩
theorem own_lowB {w : World} {B B' : Nat} {e : TypeId} {size : Nat} {v : Value} {n : Nat} {xs : List Value} (h : w.ownsRow B e size v n xs) (hb : B' ≤ B) : w.ownsRow B' e size v n xs := by
  obtain ⟨h1, h2⟩ := h
  refine ⟨h1, ?_⟩
  rcases h2 with h2 | ⟨g, cap, cur, hv, hg, r⟩
  · exact .inl h2
  · exact .inr ⟨g, cap, cur, hv, by omega, r⟩
set_option maxHeartbeats 3200000 in
set_option maxRecDepth 100000 in
theorem suPut_own (x e : Sur) (n d : Int) (X : Nat → Prop) (A A' : Option Addr) (c c' : Nat) (w : World) (sx : SSl X w x A c) (sy : SSl X w e A' c') (hx : x.All FOk) (he : e.All FOk) (hnd : FOk n d) (hl : x.len ≤ 1099511627776) :
    Calls Tryz.prog 71 #[.agg #[.slice A x.len c], .agg #[.slice A' e.len c', .int .i64 n, .int .i64 d]] w (RetShO X w (putP e n d x)) := by
  obtain ⟨i0, hi0, iz0, iz1, iz2⟩ := info_parts infoST
  obtain ⟨in_, id_⟩ := fracOk_I64 hnd
  have lx := sx.cap
  have lx' := sx.le
  unfold maxLen at lx
  have k1 := (((Blk.new' (g := w.heap.size + 1) (w.alloc (.cells #[.slice A x.len c] 26)) 70 #[.slice A' e.len c', .int .i64 n, .int .i64 d] (by simp)).alloc (.cells #[.slice none 0 0] 26)).alloc (.cells #[.slice none 0 0] 26))
  have k2 := ((Blk.new' (g := w.heap.size + 1 + 1) ((w.alloc (.cells #[.slice A x.len c] 26)).alloc (.cells #[.slice A' e.len c', .int .i64 n, .int .i64 d] 70)) 26 #[.slice none 0 0] (by simp)).alloc (.cells #[.slice none 0 0] 26))
  have k3 := (Blk.new' (g := w.heap.size + 1 + 1 + 1) (((w.alloc (.cells #[.slice A x.len c] 26)).alloc (.cells #[.slice A' e.len c', .int .i64 n, .int .i64 d] 70)).alloc (.cells #[.slice none 0 0] 26)) 26 #[.slice none 0 0] (by simp))
  have hB0 : Below w.heap.size w ((((w.alloc (.cells #[.slice A x.len c] 26)).alloc (.cells #[.slice A' e.len c', .int .i64 n, .int .i64 d] 70)).alloc (.cells #[.slice none 0 0] 26)).alloc (.cells #[.slice none 0 0] 26)) := by go_grown
  have tx := sx.low
  have ty := sy.low
  clear sx sy
  go_enter Tryz.func71, Tryz.ntmps71
  go_wp2
  go_loopw [7, 16] (fun s t wr => ∃ (i : Nat) (dn : Bool) (v : Value) (xs : List Value) (acc : Sur), s = .bool dn ∧ t = .int .i64 i ∧ i ≤ x.len ∧ acc.len ≤ i + 1 ∧
      Blk wr (w.heap.size + 1) 70 #[.slice A' e.len c', .int .i64 n, .int .i64 d] ∧ Blk wr (w.heap.size + 1 + 1) 26 #[.slice none 0 0] ∧ Blk wr (w.heap.size + 1 + 1 + 1) 26 #[v] ∧
      wr.ownsRow (w.heap.size + 4) 70 3 v acc.len xs ∧ TRow (Low X w.heap.size) wr acc xs ∧ Hid (PutAt x e n d i dn acc) ∧ Hid (dn = false → acc.len ≤ i) ∧ Below w.heap.size w wr) (fun _ t _ => x.len - (intOf t).toNat)
  case atStart => exact ⟨0, false, .slice none 0 0, [], .nil, rfl, rfl, Nat.zero_le _, by simp [Sur.len], k1, k2, k3, World.ownsRow_nil _ _ _ _, rfl, by simp [Hid, PutAt, Sur.drop, Sur.app], fun _ => by simp [Sur.len], hB0⟩
  case round =>
    obtain ⟨i, dn, v, xs, acc, rfl, rfl, hi, hal, m1, m2, m3, hown, hrow, HS, HA, hB⟩ := hrel
    clear k1 k2 k3 hB0
    obtain ⟨p0, p1, p1', _, _, _⟩ := m1.c3
    obtain ⟨p2, pf2⟩ := m2.c1
    obtain ⟨p3, pf3⟩ := m3.c1
    have z3 := m3.lt
    have z2 := m2.lt
    have z1 := m1.lt
    have ag := own_ne hown (k := w.heap.size + 1 + 1 + 1) (.inl (by omega))
    have ak := own_ne hown (k := wr.heap.size) (.inr (Nat.le_refl _))
    have hi0' : (0 : Int) ≤ (i : Int) := by omega
    by_cases h1 : i < x.len
    · obtain ⟨b, o, e1, n1, d1, A1, c1, rfl, hxk, f0, f1, f2, se, in1, id1, hXb, hbl⟩ := (tx.lowTo (Below.refl _ _) hB).at_ h1
      have hae := Sur.all_drop hx hxk
      have HXK := Lib.hid hxk
      clear hxk
      have hi1' : (i : Int) < (x.len : Int) := by omega
      go_wp2_with fail
      refine (suCmp_any _ e1 e _ _ _ _ _ _ _ (Nat.le_refl _) hae.1 he (se.below (by go_grown)) ((ty.lowTo (Below.refl _ _) hB).below (by go_grown))).mono ?_
      rintro e4 w4 ⟨rfl, hb4⟩
      have hB4 : Below w.heap.size w w4 := hB.trans (Below.call (w := wr) (by go_grown) (by go_size) hb4)
      have l1 := Blk.thru m1 (by go_grown) hb4
      have l2 := Blk.thru m2 (by go_grown) hb4
      have l3 := Blk.thru m3 (by go_grown) hb4
      have l9 := (Blk.new wr 70 #[.slice A1 e1.len c1, .int .i64 n1, .int .i64 d1]).call hb4
      have hown4 := own_thru hown (by go_grown) hb4
      have hrow4 := hrow.lowTo hB hB4
      have se4 := se.lowTo hB hB4
      have ty4 := ty.lowTo (Below.refl _ _) hB4
      have l9l := m3.lt
      clear m1 m2 m3 hown hrow se f0 f1 f2 p0 p1 p1' p2 pf2 p3 pf3 z3 z2 z1
      obtain ⟨q0, q1, q2, _, _, _⟩ := l1.c3
      obtain ⟨r2, rf2⟩ := l2.c1
      obtain ⟨r3, rf3⟩ := l3.c1
      obtain ⟨u0, u1, u2, _, _, _⟩ := l9.c3
      have y9 := l9.lt
      have y3 := l3.lt
      have y2 := l2.lt
      have y1 := l1.lt
      cases dn
      · have ha := HA.out rfl
        rcases order_range e1 e with q | q | q
        · have HT := Lib.hid (HS.out.here HXK.out q)
          rw [q]
          clear q
          go_upto_region 15 with (at_builtin; go_must (refine wpList_append_lies _ rfl _ _ _ rfl (w.heap.size + 4) 70 i0 _ 3 40 Tryz.underlying24 hi0 iz0 iz1 iz2 rfl (by omega) v acc.len xs (by rfl) (hown4.alloc _) ⟨w4.heap.size, 0, none⟩ 1 1 [.slice A' e.len c', .int .i64 n, .int .i64 d] (by rfl) (by rfl) (World.news_of_block (cs := #[.slice A' e.len c', .int .i64 n, .int .i64 d]) (t := 70) (fr := (0, 0)) (Blk.new' (g := w4.heap.size) w4 70 #[.slice A' e.len c', .int .i64 n, .int .i64 d] (by simp))) (by simp [Value.oneCell']) (by omega) (by unfold maxLen; omega) (by omega) (by go_size) (w4.heap.size + 1) (by simp) ?_); intro gg cap w2 hown1 hgrow hat hlt; obtain ⟨u5, uf5⟩ := (Blk.app l3 (by go_grown) hgrow (Ne.symm ag)).c1)
          obtain ⟨t1, t2, t3, t4, t5⟩ := low_step (ob := w.heap.size + 1 + 1 + 1) hB4 hown4 hrow4 ty4 in_ id_ (by go_grown) hown1 hgrow (by omega) hB4.size (by omega) (by omega)
          have v1 := t4 _ _ _ (by omega) (by omega) l1
          have v2 := t4 _ _ _ (by omega) (by omega) l2
          have v3 := t5 _ _ l3
          have v9 := (Blk.app l9 (by go_grown) hgrow (Ne.symm ak)).far (p := ⟨w.heap.size + 1 + 1 + 1, 0, none⟩) (by dsimp only; omega) (.slice (some ⟨gg, 0, none⟩) (acc.len + 1) cap)
          have se5 := se4.lowTo hB4 t1
          generalize w2.setCell ⟨w.heap.size + 1 + 1 + 1, 0, none⟩ (.slice (some ⟨gg, 0, none⟩) (acc.len + 1) cap) = wz at *
          have ag2 := own_ne t2 (k := w.heap.size + 1 + 1 + 1) (.inl (by omega))
          clear hown4 hrow4 l1 l2 l3 l9 q0 q1 q2 r2 rf2 r3 rf3 u0 u1 u2 y9 y3 y2 y1 hown1 hgrow hat hlt u5 uf5 t4 t5
          obtain ⟨a0, a1, a2, _, _, _⟩ := v9.c3
          obtain ⟨a3, af3⟩ := v3.c1
          have y9 := v9.lt
          have y3 := v3.lt
          have hsn := Sur.len_snoc acc e n d
          have HSN := Lib.hid hsn
          have hsl : (acc.app (.cons e n d .nil)).len ≤ 1099511627776 + 2 := by omega
          have hsz := t1.size
          clear hsn
          go_wp2_with (at_builtin; go_must (refine wpList_append_lies _ rfl _ _ _ rfl (w.heap.size + 4) 70 i0 _ 3 40 Tryz.underlying24 hi0 iz0 iz1 iz2 rfl (by omega) (.slice (some ⟨gg, 0, none⟩) (acc.len + 1) cap) (acc.app (.cons e n d .nil)).len (xs ++ [.slice A' e.len c', .int .i64 n, .int .i64 d]) (by rfl) (t2.alloc _) ⟨wz.heap.size, 0, none⟩ 1 1 [.slice A1 e1.len c1, .int .i64 n1, .int .i64 d1] (by rfl) (by rfl) (World.news_of_block (cs := #[.slice A1 e1.len c1, .int .i64 n1, .int .i64 d1]) (t := 70) (fr := (0, 0)) (Blk.new' (g := wz.heap.size) wz 70 #[.slice A1 e1.len c1, .int .i64 n1, .int .i64 d1] (by simp))) (by simp [Value.oneCell']) (by omega) (by unfold maxLen; omega) (by omega) (by go_size) (wz.heap.size + 1) (by simp) ?_); intro gg cap w2 hown1 hgrow hat hlt; obtain ⟨u5, uf5⟩ := (Blk.app v3 (by go_grown) hgrow (Ne.symm ag2)).c1)
          obtain ⟨t1', t2', t3', t4', t5'⟩ := low_step (ob := w.heap.size + 1 + 1 + 1) t1 t2 t3 se5 in1 id1 (by go_grown) hown1 hgrow (by omega) t1.size (by omega) (by omega)
          exact ⟨⟨i + 1, true, _, _, _, rfl, by go_num, by omega, by rw [Sur.len_snoc, HSN.out]; omega, t4' _ _ _ (by omega) (by omega) v1, t4' _ _ _ (by omega) (by omega) v2, t5' _ _ v3, t2', t3', HT, fun h => by (cases h), t1'⟩, by simp [intOf]; omega⟩
        · rw [q]
          have HQ := Lib.hid q
          clear q
          go_wp2_with fail
          refine (shAdd_any n1 d1 n d hae.2.1 hnd _).mono ?_
          rintro e5 w5 ⟨rfl, hb5⟩
          have hB5 : Below w.heap.size w w5 := hB4.trans (Below.call (w := w4) (by go_grown) (by go_size) hb5)
          have m1 := Blk.thru l1 (by go_grown) hb5
          have m2 := Blk.thru l2 (by go_grown) hb5
          have m3 := Blk.thru l3 (by go_grown) hb5
          have hown5 := own_thru hown4 (by go_grown) hb5
          clear hown4 l1 l2 l3 l9 q0 q1 q2 r2 rf2 r3 rf3 u0 u1 u2 y9 y3 y2 y1
          have z1 := m1.lt
          have z2 := m2.lt
          have z3 := m3.lt
          go_wp2_with fail
          refine (shGood_any _ _ _).mono ?_
          rintro e6 w6 ⟨rfl, hb6⟩
          have hB6 : Below w.heap.size w w6 := hB5.trans (Below.call (w := w5) (by go_grown) (by go_size) hb6)
          have o1 := Blk.thru m1 (by go_grown) hb6
          have o2 := Blk.thru m2 (by go_grown) hb6
          have o3 := Blk.thru m3 (by go_grown) hb6
          have o4 := (Blk.new w5 68 #[.int .i64 (adN n1 d1 n d), .int .i64 (adD n1 d1 n d)]).call hb6
          have hown6 := own_thru hown5 (by go_grown) hb6
          have hrow6 := hrow4.lowTo hB4 hB6
          have ty6 := ty4.lowTo hB4 hB6
          clear hown5 m1 m2 m3 z1 z2 z3
          obtain ⟨q0, q1, q2, _, _, _⟩ := o1.c3
          obtain ⟨r2, rf2⟩ := o2.c1
          obtain ⟨r3, rf3⟩ := o3.c1
          obtain ⟨u0, u1, _, _⟩ := o4.c2
          have y4 := o4.lt
          have y3 := o3.lt
          have y2 := o2.lt
          have y1 := o1.lt
          cases hf : fracOk (adN n1 d1 n d) (adD n1 d1 n d)
          · have HF := Lib.hid (HS.out.fail HXK.out HQ.out hf)
            clear hf
            go_wp2
            refine bodyPost_ret (v := .tuple #[.agg #[.slice none 0 0], .bool false]) (by simp [results, Tryz.results71, go_sem, r2]) rfl ?_
            rw [HF.out]
            exact ⟨none, 0, [], rfl, World.ownsRow_nil _ _ _ _, rfl, hB6.setCell (by simp; omega) _⟩
          · have hT := HS.out.both HXK.out HQ.out hf
            have hIp := fracOk_I64 hf
            clear hf
            have hfd : ∀ (A : Option Addr) (n c : Nat) (w : World), (Instr.field 26 (.agg #[.slice A n c]) 0).run Tryz.prog w = .ok (.slice A n c) w := fun _ _ _ _ => by kernel_rfl
            generalize adN n1 d1 n d = p at *
            generalize adD n1 d1 n d = pq at *
            by_cases hp : p = 0
            · rw [termP, if_pos hp, Sur.app_nil] at hT
              have HT := Lib.hid hT
              have HP := Lib.hid hp
              clear hT hp
              obtain ⟨Av, cv, rfl⟩ := own_slice hown6
              go_wp2
              go_region_law (first | (refine step_append_none (by rfl) _ _ _ (by rfl) (w.heap.size + 4) 70 i0 3 Tryz.underlying24 hi0 (.slice Av acc.len cv) acc.len xs (by rfl) hown7 (by rfl) ?_) | (go_simp; go_at_call 80; refine (suTerm_zero e p pq A' c' _ HP.out).mono ?_; rintro e7 w7 ⟨rfl, hb7⟩; have hB7 : Below w.heap.size w w7 := hB6.trans (Below.call (w := w6) (by go_grown) (by go_size) hb7); have x1 := Blk.thru o1 (by go_grown) hb7; have x2 := Blk.thru o2 (by go_grown) hb7; have x3 := Blk.thru o3 (by go_grown) hb7; have hown7 := own_thru hown6 (by go_grown) hb7; obtain ⟨v3, vf3⟩ := x3.c1))
              all_goals
                go_wp2
                have hB8 := hB7.setCell (p := ⟨w.heap.size + 1 + 1 + 1, 0, none⟩) (by simp; omega) (.slice Av acc.len cv)
                exact ⟨⟨i + 1, true, (.slice Av acc.len cv), xs, acc, rfl, by go_num, by omega, by omega, x1.far (by dsimp only; omega) _, x2.far (by dsimp only; omega) _, x3.set_ 0 _, own_setCell hown7 ag _, hrow6.lowTo hB6 hB8, HT, fun h => by (cases h), hB8⟩, by simp [intOf]; omega⟩
            · rw [termP, if_neg hp] at hT
              have HT := Lib.hid hT
              have HP := Lib.hid hp
              clear hT hp
              go_wp2
              go_region_law (first | ((refine step_append_lies _ (by rfl) _ _ _ (by rfl) (w.heap.size + 4) 70 i0 _ 3 40 Tryz.underlying24 hi0 iz0 iz1 iz2 rfl (by omega) v acc.len xs (by rfl) hown7 ⟨w6.heap.size + 1 + 1 + 1, 0, none⟩ 1 1 [.slice A' e.len c', .int .i64 p, .int .i64 pq] (by rfl) (by rfl) (World.news_of_block hk7) (by simp [Value.oneCell']) (by omega) (by unfold maxLen; omega) (by omega) (by omega) w7.heap.size (by rfl) ?_); intro gg cap w2 hown1 hgrow hat hlt; obtain ⟨b3, bf3⟩ := (x3.grown hgrow (Ne.symm ag)).c1) | (go_simp; go_at_call 80; refine (suTerm_one e p pq A' c' _ HP.out).mono ?_; rintro e7 w7 ⟨rfl, hk7, hb7⟩; have hB7 : Below w.heap.size w w7 := hB6.trans (Below.call (w := w6) (by go_grown) (by go_size) hb7); have hs7 := hb7.size; simp only [World.size_drew] at hs7 hk7; have x1 := Blk.thru o1 (by go_grown) hb7; have x2 := Blk.thru o2 (by go_grown) hb7; have x3 := Blk.thru o3 (by go_grown) hb7; have hown7 := own_thru hown6 (by go_grown) hb7; obtain ⟨v3, vf3⟩ := x3.c1))
              all_goals
                obtain ⟨t1, t2, t3, t4, t5⟩ := low_step (ob := w.heap.size + 1 + 1 + 1) hB7 hown7 (hrow6.lowTo hB6 hB7) (ty6.lowTo hB6 hB7) hIp.1 hIp.2 (Below.refl _ _) hown1 hgrow (by omega) hB7.size (by omega) (by omega)
                go_wp2
                exact ⟨⟨i + 1, true, _, _, _, rfl, by go_num, by omega, by rw [Sur.len_snoc]; omega, t4 _ _ _ (by omega) (by omega) x1, t4 _ _ _ (by omega) (by omega) x2, t5 _ _ x3, t2, t3, HT, fun h => by (cases h), t1⟩, by simp [intOf]; omega⟩
        · have HT := Lib.hid (HS.out.over HXK.out q)
          rw [q]
          clear q
          go_wp2_with (at_builtin; go_must (refine wpList_append_lies _ rfl _ _ _ rfl (w.heap.size + 4) 70 i0 _ 3 40 Tryz.underlying24 hi0 iz0 iz1 iz2 rfl (by omega) v acc.len xs (by rfl) (hown4.alloc _) ⟨w4.heap.size, 0, none⟩ 1 1 [.slice A1 e1.len c1, .int .i64 n1, .int .i64 d1] (by rfl) (by rfl) (World.news_of_block (cs := #[.slice A1 e1.len c1, .int .i64 n1, .int .i64 d1]) (t := 70) (fr := (0, 0)) (Blk.new' (g := w4.heap.size) w4 70 #[.slice A1 e1.len c1, .int .i64 n1, .int .i64 d1] (by simp))) (by simp [Value.oneCell']) (by omega) (by unfold maxLen; omega) (by omega) (by go_size) (w4.heap.size + 1) (by simp) ?_); intro gg cap w2 hown1 hgrow hat hlt; obtain ⟨u5, uf5⟩ := (Blk.app l3 (by go_grown) hgrow (Ne.symm ag)).c1)
          obtain ⟨t1, t2, t3, t4, t5⟩ := low_step (ob := w.heap.size + 1 + 1 + 1) hB4 hown4 hrow4 se4 in1 id1 (by go_grown) hown1 hgrow (by omega) hB4.size (by omega) (by omega)
          exact ⟨⟨i + 1, false, _, _, _, rfl, by go_num, by omega, by rw [Sur.len_snoc]; omega, t4 _ _ _ (by omega) (by omega) l1, t4 _ _ _ (by omega) (by omega) l2, t5 _ _ l3, t2, t3, HT, fun _ => by rw [Sur.len_snoc]; omega, t1⟩, by simp [intOf]; omega⟩
      · have HT := Lib.hid (HS.out.after HXK.out)
        have ho := order_bd e1 e
        go_wp2_with (at_builtin; go_must (refine wpList_append_lies _ rfl _ _ _ rfl (w.heap.size + 4) 70 i0 _ 3 40 Tryz.underlying24 hi0 iz0 iz1 iz2 rfl (by omega) v acc.len xs (by rfl) (hown4.alloc _) ⟨w4.heap.size, 0, none⟩ 1 1 [.slice A1 e1.len c1, .int .i64 n1, .int .i64 d1] (by rfl) (by rfl) (World.news_of_block (cs := #[.slice A1 e1.len c1, .int .i64 n1, .int .i64 d1]) (t := 70) (fr := (0, 0)) (Blk.new' (g := w4.heap.size) w4 70 #[.slice A1 e1.len c1, .int .i64 n1, .int .i64 d1] (by simp))) (by simp [Value.oneCell']) (by omega) (by unfold maxLen; omega) (by omega) (by go_size) (w4.heap.size + 1) (by simp) ?_); intro gg cap w2 hown1 hgrow hat hlt; obtain ⟨u5, uf5⟩ := (Blk.app l3 (by go_grown) hgrow (Ne.symm ag)).c1)
        obtain ⟨t1, t2, t3, t4, t5⟩ := low_step (ob := w.heap.size + 1 + 1 + 1) hB4 hown4 hrow4 se4 in1 id1 (by go_grown) hown1 hgrow (by omega) hB4.size (by omega) (by omega)
        exact ⟨⟨i + 1, true, _, _, _, rfl, by go_num, by omega, by rw [Sur.len_snoc]; omega, t4 _ _ _ (by omega) (by omega) l1, t4 _ _ _ (by omega) (by omega) l2, t5 _ _ l3, t2, t3, HT, fun h => by (cases h), t1⟩, by simp [intOf]; omega⟩
    · obtain rfl : i = x.len := by omega
      cases dn
      · have HF := Lib.hid (HS.out.end0 (Nat.le_refl _))
        have ty1 := ty.lowTo (Below.refl _ _) hB
        have ag2 := own_ne hown (k := w.heap.size + 1 + 1) (.inl (by omega))
        go_wp2_with (at_builtin; go_must (refine wpList_append_lies _ rfl _ _ _ rfl (w.heap.size + 4) 70 i0 _ 3 40 Tryz.underlying24 hi0 iz0 iz1 iz2 rfl (by omega) v acc.len xs (by rfl) (hown.alloc _) ⟨wr.heap.size, 0, none⟩ 1 1 [.slice A' e.len c', .int .i64 n, .int .i64 d] (by rfl) (by rfl) (World.news_of_block (cs := #[.slice A' e.len c', .int .i64 n, .int .i64 d]) (t := 70) (fr := (0, 0)) (Blk.new' (g := wr.heap.size) wr 70 #[.slice A' e.len c', .int .i64 n, .int .i64 d] (by simp))) (by simp [Value.oneCell']) (by omega) (by unfold maxLen; omega) (by omega) (by go_size) (wr.heap.size + 1) (by simp) ?_); intro gg cap w2 hown1 hgrow hat hlt; obtain ⟨u5, uf5⟩ := (Blk.app m3 (by go_grown) hgrow (Ne.symm ag)).c1; obtain ⟨u2, uf2⟩ := (Blk.app m2 (by go_grown) hgrow (Ne.symm ag2)).c1)
        obtain ⟨t1, t2, t3, t4, t5⟩ := low_step (ob := w.heap.size + 1 + 1 + 1) hB hown hrow ty1 in_ id_ (by go_grown) hown1 hgrow (by omega) hB.size (by omega) (by omega)
        have v2 := t4 _ _ _ (by omega) (by omega) m2
        have hB3 := t1.setCell (p := ⟨w.heap.size + 1 + 1, 0, none⟩) (by simp; omega) (.slice (some ⟨gg, 0, none⟩) (acc.len + 1) cap)
        rw [Sur.len_snoc] at t2
        have hsl := own_setCell t2 (p := ⟨w.heap.size + 1 + 1, 0, none⟩) (own_ne t2 (.inl (by simp))) (.slice (some ⟨gg, 0, none⟩) (acc.len + 1) cap)
        refine bodyPost_ret (v := .tuple #[.agg #[.slice (some ⟨gg, 0, none⟩) (acc.len + 1) cap], .bool true]) (by simp [results, Tryz.results71, go_sem, u2, uf2, u5]) rfl ?_
        rw [HF.out]
        exact ⟨_, cap, _, by rw [Option.getD_some, Sur.len_snoc]; rfl, by rw [Option.getD_some, Sur.len_snoc]; exact own_lowB hsl (by omega), t3.lowTo t1 hB3, hB3⟩
      · have HF := Lib.hid (HS.out.end1 (Nat.le_refl _))
        obtain ⟨Av, cv, rfl⟩ := own_slice hown
        have hB3 := hB.setCell (p := ⟨w.heap.size + 1 + 1, 0, none⟩) (by simp; omega) (.slice Av acc.len cv)
        have hsl := own_setCell hown (p := ⟨w.heap.size + 1 + 1, 0, none⟩) (own_ne hown (.inl (by simp))) (.slice Av acc.len cv)
        go_wp2
        refine bodyPost_ret (v := .tuple #[.agg #[.slice Av acc.len cv], .bool true]) (by simp [results, Tryz.results71, go_sem, p2]) rfl ?_
        rw [HF.out]
        exact ⟨Av, cv, _, rfl, own_lowB hsl (by omega), hrow.lowTo hB hB3, hB3⟩
theorem suPut_any (x e : Sur) (n d : Int) (X : Nat → Prop) (A A' : Option Addr) (c c' : Nat) (w : World) (hX : ∀ k, X k → k < w.heap.size) (sx : SSl X w x A c) (sy : SSl X w e A' c') (hx : x.All FOk) (he : e.All FOk) (hnd : FOk n d) (hl : x.len ≤ 1099511627776) :
    Calls Tryz.prog 71 #[.agg #[.slice A x.len c], .agg #[.slice A' e.len c', .int .i64 n, .int .i64 d]] w (RetSh X w (putP e n d x)) :=
  (suPut_own x e n d X A A' c c' w sx sy hx he hnd hl).mono fun _ _ h => h.sh hX
end Go.Proofs.YtonlfnbjbmgegaaGreat
