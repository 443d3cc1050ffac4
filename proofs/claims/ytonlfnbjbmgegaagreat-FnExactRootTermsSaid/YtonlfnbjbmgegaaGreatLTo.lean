/-
  Walks, the laws' side: an argument becomes a number of the program's.
-/
import Derived.Test.YtonlfnbjbmgegaaGreatLSz
import Derived.Laws.MakeOwn
namespace Go.Proofs.YtonlfnbjbmgegaaGreat
open Go.RowKit
set_option linter.unusedSimpArgs false
set_option linter.unusedVariables false

set_option maxHeartbeats 400000 in
theorem toFraction_any (n d : Int) (w : World) :
    Calls Tryz.prog 135 #[.agg #[.int .i64 n, .int .i64 d]] w fun e w' => e = .returned (.agg #[.int .i64 n, .int .i64 d]) ∧ Below w.heap.size w w' := by
  go_enter Tryz.func135, Tryz.ntmps135
  go_wp2
  refine bodyPost_ret (v := .agg #[.int .i64 n, .int .i64 d]) (by simp [results, Tryz.results135, go_sem]) rfl ?_
  exact ⟨rfl, by go_grown⟩

def RetT (w : World) (x : Sur) (e : Ending) (w' : World) : Prop := ∃ A c, e = .returned (.slice A x.len c) ∧ SFresh w.heap.size w' x A c ∧ Below w.heap.size w w'
def RetTm (w : World) (x : Sur) (n d : Int) (e : Ending) (w' : World) : Prop := ∃ A c, e = .returned (.agg #[.slice A x.len c, .int .i64 n, .int .i64 d]) ∧ SFresh w.heap.size w' x A c ∧ Below w.heap.size w w'

set_option maxHeartbeats 400000 in
theorem toSurreal_of (s : Sur) (A : Option Addr) (c : Nat) (w : World) (h : ∀ W, Below w.heap.size w W → Calls Tryz.prog 64 #[.slice A s.len c] W (RetT W s)) :
    Calls Tryz.prog 19 #[.agg #[.slice A s.len c]] w (RetFresh w s) := by
  have k0 := (((Blk.new w 43 #[.slice A s.len c]).alloc (.cells #[.slice none 0 0] 26)).alloc (.cells #[.slice none 0 0] 26))
  have k1 := ((Blk.new' (g := w.heap.size + 1) (w.alloc (.cells #[.slice A s.len c] 43)) 26 #[.slice none 0 0] (by simp)).alloc (.cells #[.slice none 0 0] 26))
  have k2 := (Blk.new' (g := w.heap.size + 1 + 1) ((w.alloc (.cells #[.slice A s.len c] 43)).alloc (.cells #[.slice none 0 0] 26)) 26 #[.slice none 0 0] (by simp))
  have hB0 : Below w.heap.size w (((w.alloc (.cells #[.slice A s.len c] 43)).alloc (.cells #[.slice none 0 0] 26)).alloc (.cells #[.slice none 0 0] 26)) := by go_grown
  have HH := Lib.hid h
  clear h
  go_enter Tryz.func19, Tryz.ntmps19
  go_wp2_with fail
  refine (HH.out _ hB0).mono ?_
  rintro e1 w1 ⟨A1, c1, rfl, hf1, hb1⟩
  have hB1 := Below.call hB0 (by go_size) hb1
  have l1 := k1.call hb1
  have l2 := k2.call hb1
  obtain ⟨q1, qf1⟩ := l1.c1
  obtain ⟨q2, qf2⟩ := l2.c1
  have z2 := k2.lt
  have z1 := k1.lt
  go_wp2
  refine bodyPost_ret (v := .agg #[.slice A1 s.len c1]) (by simp [results, Tryz.results19, go_sem, q1, q2]) rfl ?_
  exact ⟨A1, c1, rfl, ((hf1.setCell (p := ⟨w.heap.size + 1 + 1, 0, none⟩) z2 _).setCell (p := ⟨w.heap.size + 1, 0, none⟩) z1 _).mono (by go_size), (hB1.setCell (by simp; omega) _).setCell (by simp) _⟩

set_option maxHeartbeats 800000 in
theorem toTerm_of (s : Sur) (n d : Int) (A : Option Addr) (c : Nat) (w : World) (h : ∀ W, Below w.heap.size w W → Calls Tryz.prog 64 #[.slice A s.len c] W (RetT W s)) :
    Calls Tryz.prog 110 #[.agg #[.slice A s.len c, .int .i64 n, .int .i64 d]] w (RetTm w s n d) := by
  have k0 := (((Blk.new w 116 #[.slice A s.len c, .int .i64 n, .int .i64 d]).alloc (.cells #[.slice none 0 0, .int .i64 0, .int .i64 0] 70)).alloc (.cells #[.slice none 0 0, .int .i64 0, .int .i64 0] 70))
  have k1 := ((Blk.new' (g := w.heap.size + 1) (w.alloc (.cells #[.slice A s.len c, .int .i64 n, .int .i64 d] 116)) 70 #[.slice none 0 0, .int .i64 0, .int .i64 0] (by simp)).alloc (.cells #[.slice none 0 0, .int .i64 0, .int .i64 0] 70))
  have k2 := (Blk.new' (g := w.heap.size + 1 + 1) ((w.alloc (.cells #[.slice A s.len c, .int .i64 n, .int .i64 d] 116)).alloc (.cells #[.slice none 0 0, .int .i64 0, .int .i64 0] 70)) 70 #[.slice none 0 0, .int .i64 0, .int .i64 0] (by simp))
  have hB0 : Below w.heap.size w (((w.alloc (.cells #[.slice A s.len c, .int .i64 n, .int .i64 d] 116)).alloc (.cells #[.slice none 0 0, .int .i64 0, .int .i64 0] 70)).alloc (.cells #[.slice none 0 0, .int .i64 0, .int .i64 0] 70)) := by go_grown
  have HH := Lib.hid h
  clear h
  go_enter Tryz.func110, Tryz.ntmps110
  go_wp2_with fail
  refine (toSurreal_of s A c _ (fun W hW => HH.out W (Below.call hB0 (by go_size) hW))).mono ?_
  rintro e1 w1 ⟨A1, c1, rfl, hf1, hb1⟩
  have hB1 := Below.call hB0 (by go_size) hb1
  have l0 := k0.call hb1
  have l1 := k1.call hb1
  have l2 := k2.call hb1
  obtain ⟨p0, p1, p2, _, _, _⟩ := l0.c3
  obtain ⟨q0, q1, q2, qf0, qf1, qf2⟩ := l2.c3
  have z2 := l2.lt
  have z1 := l1.lt
  have z0 := l0.lt
  have y2 := k2.lt
  have y1 := k1.lt
  go_wp2_with fail
  refine (toFraction_any n d _).mono ?_
  rintro e2 w2 ⟨rfl, hb2⟩
  have hB1' := hB1.setCell (p := ⟨w.heap.size + 1 + 1, 0, none⟩) (by simp; omega) (.slice A1 s.len c1)
  have hB2 : Below w.heap.size w w2 := hB1'.trans (hb2.mono hB1'.size)
  have m1 := (l1.far (p := ⟨w.heap.size + 1 + 1, 0, none⟩) (by dsimp only; omega) (.slice A1 s.len c1)).call hb2
  have m2 := (l2.set_ 0 (.slice A1 s.len c1)).call hb2
  obtain ⟨r0, r1, r2, rf0, rf1, rf2⟩ := m1.c3
  obtain ⟨t0, t1, t2, tf0, tf1, tf2⟩ := (show Blk w2 (w.heap.size + 1 + 1) 70 #[.slice A1 s.len c1, .int .i64 0, .int .i64 0] from m2).c3
  have hf2 := (hf1.setCell (p := ⟨w.heap.size + 1 + 1, 0, none⟩) y2 (.slice A1 s.len c1)).below hb2
  go_wp2
  refine bodyPost_ret (v := .agg #[.slice A1 s.len c1, .int .i64 n, .int .i64 d]) (by simp [results, Tryz.results110, go_sem, r0, r1, r2, t0, t1, t2]) rfl ?_
  exact ⟨A1, c1, rfl, (((((hf2.setCell (p := ⟨w.heap.size + 1 + 1, 1, none⟩) y2 _).setCell (p := ⟨w.heap.size + 1 + 1, 2, none⟩) y2 _).setCell (p := ⟨w.heap.size + 1, 0, none⟩) y1 _).setCell (p := ⟨w.heap.size + 1, 1, none⟩) y1 _).setCell (p := ⟨w.heap.size + 1, 2, none⟩) y1 _).mono (by go_size),
    ((((hB2.setCell (by simp; omega) _).setCell (by simp; omega) _).setCell (by simp) _).setCell (by simp) _).setCell (by simp) _⟩

theorem set3 {cs : Array Value} {xs ys : List Value} {y0 y1 y2 a b c : Value} {m : Nat} (h : cs.toList = xs ++ y0 :: y1 :: y2 :: ys) (hm : xs.length = m) :
    (((cs.setIfInBounds m a).setIfInBounds (m + 1) b).setIfInBounds (m + 2) c).toList = (xs ++ [a, b, c]) ++ ys := by
  subst hm
  simp only [Array.toList_setIfInBounds, h]
  simp [List.set_append]
theorem get3 {cs : Array Value} {xs ys : List Value} {y0 y1 y2 : Value} {m : Nat} (h : cs.toList = xs ++ y0 :: y1 :: y2 :: ys) (hm : xs.length = m) : cs[m]? = some y0 ∧ cs[m + 1]? = some y1 ∧ cs[m + 2]? = some y2 := by
  subst hm
  simp only [← Array.getElem?_toList, h]
  simp [List.getElem?_append]

set_option maxHeartbeats 1600000 in
theorem toTermS_any (N : Nat) : ∀ (x : Sur) (A : Option Addr) (c : Nat) (w : World), x.nodes ≤ N → LSl w x A c → x.total ≤ 1048576 →
    Calls Tryz.prog 64 #[.slice A x.len c] w (RetT w x) := by
  induction N with
  | zero => intro x A c w hN; have := x.len_lt_nodes; omega
  | succ N ih =>
    intro x A c w hN sx ht
    have IH := Lib.hid ih; clear ih
    obtain ⟨i0, hi0, iz0, iz1, iz2⟩ := info_parts infoST
    have lx := sx.cap
    have lx' := sx.le
    unfold maxLen at lx
    have hlt := x.len_total
    have hmk := run_make (P := Tryz.prog) w 24 70 i0 _ Tryz.underlying24 hi0 iz0 .i64 .i64 (x.len : Int) (x.len : Int) (by omega) (Int.le_refl _) (by rw [iz2]; omega) (by omega)
    rw [iz1, Int.toNat_natCast] at hmk
    have hsz := size_madeCells (Value.cells (.agg #[.slice none 0 0, .int .i64 0, .int .i64 0])) (x.len * 3)
    generalize madeCells (Value.cells (.agg #[.slice none 0 0, .int .i64 0, .int .i64 0])) (x.len * 3) = mk at hmk hsz
    go_enter Tryz.func64, Tryz.ntmps64
    go_wp2
    clear hmk
    go_loopw [4] (fun s wr => ∃ (k : Nat) (cs : Array Value) (xs ys : List Value) (bs : List Nat), s = .int .i64 k ∧ k ≤ x.len ∧ Blk wr w.heap.size 70 cs ∧ Hid (cs.toList = xs ++ ys) ∧ Hid (ys.length = 3 * (x.len - k)) ∧
      TTRow wr (x.take k) xs bs ∧ Hid bs.Nodup ∧ Hid (∀ g ∈ bs, w.heap.size < g) ∧ Below w.heap.size w wr) (fun s _ => x.len - (intOf s).toNat)
    case atStart => exact ⟨0, mk, [], mk.toList, [], rfl, Nat.zero_le _, Blk.new _ _ _, Lib.hid (by simp), Lib.hid (by rw [Array.length_toList, hsz]; omega), ⟨rfl, rfl⟩, Lib.hid List.nodup_nil, Lib.hid (by simp), by go_grown⟩
    case round =>
      obtain ⟨k, cs, xs, ys, bs, rfl, hk, mb, HC, HY, hrow, HN, HG, hB⟩ := hrel
      have hk0' : (0 : Int) ≤ (k : Int) := by omega
      have zb := mb.lt
      clear hsz
      by_cases h1 : k < x.len
      · obtain ⟨b, o, e, n, d, A1, d1, rfl, hxk, f0, f1, f2, se, in_, id_, hbl⟩ := (sx.below hB).at_ h1
        have hne := Sur.nodes_drop hxk
        have HT := Lib.hid (x.take_succ k e n d _ hxk)
        have het : e.total ≤ 1048576 := by have := e.nodes_total; have := x.nodes_total; omega
        clear hxk
        obtain ⟨y0, y1, y2, ys', hys⟩ : ∃ y0 y1 y2 ys', ys = y0 :: y1 :: y2 :: ys' := by
          have h := HY.out
          match ys, h with
          | y0 :: y1 :: y2 :: ys', _ => exact ⟨y0, y1, y2, ys', rfl⟩
          | [], h => simp at h; omega
          | [_], h => simp at h; omega
          | [_, _], h => simp at h; omega
        subst hys
        have hxl : xs.length = k * 3 := by rw [hrow.len, Sur.len_take x k hk]
        have HX := Lib.hid hxl
        clear hxl
        have hy := get3 HC.out HX.out
        go_wp2_with fail
        refine (toTerm_of e n d A1 d1 _ (fun W hW => IH.out e A1 d1 W (by omega) (se.below hW) het)).mono ?_
        rintro e1 w1 ⟨A2, d2, rfl, hf, hb1⟩
        have mb1 := mb.call hb1
        have hB1 : Below w.heap.size w w1 := hB.trans (hb1.mono hB.size)
        have g0 : w1.cell? ⟨w.heap.size, k * 3, none⟩ = some y0 := (mb1.cell _).trans hy.1
        have g1 : w1.cell? ⟨w.heap.size, k * 3 + 1, none⟩ = some y1 := (mb1.cell _).trans hy.2.1
        have g2 : w1.cell? ⟨w.heap.size, k * 3 + 2, none⟩ = some y2 := (mb1.cell _).trans hy.2.2
        have gf0 := mb1.frozen (k * 3)
        have gf1 := mb1.frozen (k * 3 + 1)
        have gf2 := mb1.frozen (k * 3 + 2)
        clear hy
        go_wp2
        obtain ⟨bs1, hst, hnd1, hge1⟩ := hf
        have hs1 := hb1.size
        have hblt := hrow.lt
        have hB2 := ((hB1.setCell (p := ⟨w.heap.size, k * 3, none⟩) (Nat.le_refl _) (.slice A2 e.len d2)).setCell (p := ⟨w.heap.size, k * 3 + 1, none⟩) (Nat.le_refl _) (.int .i64 n)).setCell (p := ⟨w.heap.size, k * 3 + 2, none⟩) (Nat.le_refl _) (.int .i64 d)
        have hW : ∀ j, j ≠ w.heap.size → (((w1.setCell ⟨w.heap.size, k * 3, none⟩ (.slice A2 e.len d2)).setCell ⟨w.heap.size, k * 3 + 1, none⟩ (.int .i64 n)).setCell ⟨w.heap.size, k * 3 + 2, none⟩ (.int .i64 d)).heap[j]? = w1.heap[j]? :=
          fun j hj => (Below.heap_setCell _ _ _ _ hj).trans ((Below.heap_setCell _ _ _ _ hj).trans (Below.heap_setCell _ _ _ _ hj))
        have hsW : w1.heap.size ≤ (((w1.setCell ⟨w.heap.size, k * 3, none⟩ (.slice A2 e.len d2)).setCell ⟨w.heap.size, k * 3 + 1, none⟩ (.int .i64 n)).setCell ⟨w.heap.size, k * 3 + 2, none⟩ (.int .i64 d)).heap.size := by simp
        have hrow2 := (hrow.below hb1).keep hsW (fun j hj => hW j (by have := HG.out j hj; omega))
        have hst2 := hst.keep hsW (fun j hj => hW j (by have := hge1 j hj; omega))
        refine ⟨⟨k + 1, _, xs ++ [.slice A2 e.len d2, .int .i64 n, .int .i64 d], ys', bs ++ bs1, by go_num, by omega, ((mb1.set_ _ _).set_ _ _).set_ _ _, Lib.hid (set3 HC.out HX.out), Lib.hid (by have := HY.out; simp only [List.length_cons] at this; omega), by rw [HT.out]; exact TTRow.snoc hst2 in_ id_ hrow2, ?_, ?_, hB2⟩, by simp [intOf]; omega⟩
        · exact List.nodup_append.2 ⟨HN.out, hnd1, fun a ha b' hb' e => by have := hblt a ha; have := hge1 b' hb'; omega⟩
        · intro g hg
          rcases List.mem_append.1 hg with h | h
          · exact HG.out g h
          · have := hge1 g h; omega
      · obtain rfl : k = x.len := by omega
        have hnil : ys = [] := List.length_eq_zero_iff.1 (by have := HY.out; omega)
        subst hnil
        have hcx : cs.toList = xs := by have := HC.out; simpa using this
        rw [x.take_len] at hrow
        have HCX := Lib.hid hcx
        clear hcx
        go_wp2
        go_ret
        refine ⟨some ⟨w.heap.size, 0, none⟩, x.len, rfl, ⟨w.heap.size :: bs, ⟨Nat.le_refl _, by unfold maxLen; omega, rfl, zb, bs, rfl, STr.of_row hrow (fun j u hj => ?_) (fun j => mb.frozen j)⟩, List.nodup_cons.2 ⟨fun h => by have := HG.out _ h; omega, HN.out⟩, ?_⟩, hB⟩
        · rw [Nat.zero_add]
          refine (mb.cell j).trans ?_
          rw [← Array.getElem?_toList, HCX.out]; exact hj
        · intro g hg
          rcases List.mem_cons.1 hg with h | h
          · omega
          · have := HG.out g h; omega
theorem toSurreal_any (x : Sur) (A : Option Addr) (c : Nat) (w : World) (sx : LSl w x A c) (ht : x.total ≤ 1048576) : Calls Tryz.prog 19 #[.agg #[.slice A x.len c]] w (RetFresh w x) :=
  toSurreal_of x A c w (fun W hW => toTermS_any _ x A c W (Nat.le_refl _) (sx.below hW) ht)
end Go.Proofs.YtonlfnbjbmgegaaGreat
