/-
  Walks, the laws' side: marks in a number's memory.
-/
import Derived.Test.YtonlfnbjbmgegaaGreatLEq
namespace Go.Proofs.YtonlfnbjbmgegaaGreat
open Go.RowKit
set_option linter.unusedSimpArgs false
set_option linter.unusedVariables false

/-- what marks leave: the numbers from k on, in order -/
def Mk : Sur → Int → Int → Prop
  | .nil, k, k' => k' = k
  | .cons e n d r, k, k' => ∃ k1, Mk e k k1 ∧ n = k1 ∧ d = k1 + 1 ∧ Mk r (k1 + 2) k'
theorem Mk.app : ∀ {x y : Sur} {k k1 k2 : Int}, Mk x k k1 → Mk y k1 k2 → Mk (x.app y) k k2
  | .nil, _, _, _, _, h1, h2 => by simp only [Mk] at h1; subst h1; exact h2
  | .cons e n d r, _, _, _, _, ⟨k3, a, b, c, h⟩, h2 => ⟨k3, a, b, c, Mk.app h h2⟩
theorem Mk.le : ∀ {x : Sur} {k k' : Int}, Mk x k k' → k ≤ k'
  | .nil, _, _, h => by simp only [Mk] at h; omega
  | .cons e n d r, _, _, ⟨k1, a, _, _, h⟩ => by have := Mk.le a; have := Mk.le h; omega
theorem Sur.total_app : ∀ (x y : Sur), (x.app y).total = x.total + y.total
  | .nil, y => by simp [Sur.app, Sur.total]
  | .cons e n d r, y => by have := total_app r y; simp only [Sur.app, Sur.total]; omega

/-- only blocks of a list were written -/
structure Only (bs : List Nat) (w w' : World) : Prop where
  os : w'.os = w.os
  tape : w'.tape = w.tape
  output : w'.output = w.output
  size : w.heap.size ≤ w'.heap.size
  block : ∀ j, j < w.heap.size → j ∉ bs → w'.heap[j]? = w.heap[j]?
theorem Only.refl (bs : List Nat) (w : World) : Only bs w w := ⟨rfl, rfl, rfl, Nat.le_refl _, fun _ _ _ => rfl⟩
theorem Only.trans {bs : List Nat} {w w1 w2 : World} (h : Only bs w w1) (h2 : Only bs w1 w2) : Only bs w w2 :=
  ⟨h2.os.trans h.os, h2.tape.trans h.tape, h2.output.trans h.output, Nat.le_trans h.size h2.size, fun j hj hn => (h2.block j (Nat.lt_of_lt_of_le hj h.size) hn).trans (h.block j hj hn)⟩
theorem Only.more {bs cs : List Nat} {w w1 : World} (h : Only bs w w1) (hc : ∀ j ∈ bs, j ∈ cs) : Only cs w w1 :=
  ⟨h.os, h.tape, h.output, h.size, fun j hj hn => h.block j hj fun hb => hn (hc j hb)⟩
theorem Only.set {bs : List Nat} {w : World} {p : Addr} (hp : p.block ∈ bs) (u : Value) : Only bs w (w.setCell p u) :=
  ⟨rfl, rfl, rfl, by simp, fun j _ hn => Below.heap_setCell _ _ _ _ fun e => hn (e ▸ hp)⟩
theorem Only.toBelow {bs : List Nat} {B : Nat} {w w' : World} (h : Only bs w w') (hb : ∀ j ∈ bs, B ≤ j) (hB : B ≤ w.heap.size) : Below B w w' :=
  ⟨h.os, h.tape, h.output, h.size, fun j hj => h.block j (by omega) fun hm => by have := hb j hm; omega⟩

/-- the same terms in another world -/
theorem STr.same {w w' : World} {b : Nat} (hs : w.heap.size ≤ w'.heap.size) : ∀ {e : Sur} {o : Nat} {bs : List Nat}, STr w e b o bs → (∀ j ∈ bs, w'.heap[j]? = w.heap[j]?) → (∀ j, o ≤ j → w'.cell? ⟨b, j, none⟩ = w.cell? ⟨b, j, none⟩) → (∀ j, w'.frozen? ⟨b, j, none⟩ = w.frozen? ⟨b, j, none⟩) → STr w' e b o bs
  | .nil, _, _, h, _, _, _ => h
  | .cons e n d r, o, bs, h, hk, hc, hf => by
    obtain ⟨b1, b2, rfl, ⟨A, c, h0, h1, h2, hA⟩, hn, hd, in_, id_, f1, f2, hr⟩ := h
    have ht : STree w e A c b1 := ⟨h1, h2, hA⟩
    have ht' := ht.keep hs fun k hm => hk k (List.mem_append.2 (.inl hm))
    exact ⟨b1, b2, rfl, ⟨A, c, (hc _ (Nat.le_refl _)).trans h0, ht'.1, ht'.2.1, ht'.2.2⟩, (hc _ (by omega)).trans hn, (hc _ (by omega)).trans hd, in_, id_, (hf _).trans f1, (hf _).trans f2,
      STr.same hs hr (fun j hm => hk j (List.mem_append.2 (.inr hm))) (fun j hj => hc j (by omega)) hf⟩

/-- one term of a row, and the row with another one in its place -/
theorem STr.focus {w : World} {b : Nat} {e r : Sur} {n d : Int} : ∀ {m : Sur} {o : Nat} {bs : List Nat}, STr w (m.app (.cons e n d r)) b o bs →
    ∃ b0 b1 b2 A1 c1, bs = b0 ++ (b1 ++ b2) ∧ w.cell? ⟨b, o + m.len * 3, none⟩ = some (.slice A1 e.len c1) ∧ w.cell? ⟨b, o + m.len * 3 + 1, none⟩ = some (.int .i64 n) ∧ w.cell? ⟨b, o + m.len * 3 + 2, none⟩ = some (.int .i64 d) ∧
      w.frozen? ⟨b, o + m.len * 3 + 1, none⟩ = false ∧ w.frozen? ⟨b, o + m.len * 3 + 2, none⟩ = false ∧ STree w e A1 c1 b1 ∧
      ∀ (w' : World) (e' : Sur) (n' d' : Int), w.heap.size ≤ w'.heap.size → e'.len = e.len → I64 n' → I64 d' → STree w' e' A1 c1 b1 → (∀ j ∈ b0 ++ b2, w'.heap[j]? = w.heap[j]?) →
        (∀ j, j ≠ o + m.len * 3 + 1 → j ≠ o + m.len * 3 + 2 → w'.cell? ⟨b, j, none⟩ = w.cell? ⟨b, j, none⟩) → w'.cell? ⟨b, o + m.len * 3 + 1, none⟩ = some (.int .i64 n') → w'.cell? ⟨b, o + m.len * 3 + 2, none⟩ = some (.int .i64 d') →
        (∀ j, w'.frozen? ⟨b, j, none⟩ = w.frozen? ⟨b, j, none⟩) → STr w' (m.app (.cons e' n' d' r)) b o bs
  | .nil, o, bs, h => by
    obtain ⟨b1, b2, rfl, ⟨A, c, h0, h1, h2, hA⟩, hn, hd, in_, id_, f1, f2, hr⟩ := h
    refine ⟨[], b1, b2, A, c, rfl, by simpa [Sur.len] using h0, by simpa [Sur.len] using hn, by simpa [Sur.len] using hd, by simpa [Sur.len] using f1, by simpa [Sur.len] using f2, ⟨h1, h2, hA⟩, ?_⟩
    intro w' e' n' d' hs hl in' id' ht hb hc hcn hcd hf
    simp only [Sur.len, Nat.zero_mul, Nat.add_zero] at hc hcn hcd
    refine ⟨b1, b2, rfl, ⟨A, c, ?_, ht.1, ht.2.1, ht.2.2⟩, hcn, hcd, in', id', (hf _).trans f1, (hf _).trans f2, STr.same hs hr (fun j hm => hb j (by simpa using hm)) (fun j hj => hc j (by omega) (by omega)) hf⟩
    rw [hl]; exact (hc _ (by omega) (by omega)).trans h0
  | .cons e0 n0 d0 m, o, bs, h => by
    obtain ⟨c1, c2, rfl, ⟨A, c, h0, h1, h2, hA⟩, hn, hd, in_, id_, f1, f2, hr⟩ := h
    obtain ⟨b0, b1, b2, A1, cc, rfl, g0, g1, g2, gf1, gf2, gt, gb⟩ := STr.focus (m := m) hr
    have ho : o + (Sur.cons e0 n0 d0 m).len * 3 = o + 3 + m.len * 3 := by simp only [Sur.len]; omega
    rw [ho]
    refine ⟨c1 ++ b0, b1, b2, A1, cc, by simp, g0, g1, g2, gf1, gf2, gt, ?_⟩
    intro w' e' n' d' hs hl in' id' ht hb hc hcn hcd hf
    have ht0 : STree w e0 A c c1 := ⟨h1, h2, hA⟩
    have ht0' := ht0.keep hs fun k hm => hb k (by simp [hm])
    refine ⟨c1, b0 ++ (b1 ++ b2), rfl, ⟨A, c, (hc _ (by omega) (by omega)).trans h0, ht0'.1, ht0'.2.1, ht0'.2.2⟩, (hc _ (by omega) (by omega)).trans hn, (hc _ (by omega) (by omega)).trans hd, in_, id_, (hf _).trans f1, (hf _).trans f2, ?_⟩
    exact gb w' e' n' d' hs hl in' id' ht (fun j hm => hb j (by rcases List.mem_append.1 hm with h | h <;> simp [h])) hc hcn hcd hf

def RetMk (w : World) (x : Sur) (A : Option Addr) (c : Nat) (bs : List Nat) (k : Int) (e : Ending) (w' : World) : Prop :=
  e = .returned (.int .i64 (k + 2 * x.total)) ∧ ∃ x' : Sur, x'.len = x.len ∧ Mk x' k (k + 2 * x.total) ∧ STree w' x' A c bs ∧ Only bs w w'

set_option maxHeartbeats 1600000 in
set_option maxRecDepth 100000 in
theorem markTermS_any (N : Nat) : ∀ (x : Sur) (A : Option Addr) (c : Nat) (bs : List Nat) (k : Int) (w : World), x.nodes ≤ N → STree w x A c bs → bs.Nodup → 0 ≤ k → k + 2 * x.total ≤ 1099511627776 →
    Calls Tryz.prog 66 #[.slice A x.len c, .int .i64 k] w (RetMk w x A c bs k) := by
  induction N with
  | zero => intro x A c bs k w hN; have := x.len_lt_nodes; omega
  | succ N ih =>
    intro x A c bs k w hN sx hnd hk0 hk1
    have IH := Lib.hid ih; clear ih
    have lx := sx.2.1
    have lx' := sx.1
    unfold maxLen at lx
    have SX := Lib.hid sx
    clear sx
    have HND := Lib.hid hnd
    clear hnd
    go_enter Tryz.func66, Tryz.ntmps66
    go_wp2
    go_loopw [1, 5] (fun s t wr => ∃ (i : Nat) (m : Sur) (kk : Int), s = .int .i64 kk ∧ t = .int .i64 i ∧ i ≤ x.len ∧ m.len = i ∧ Hid (Mk m k kk) ∧ Hid (kk = k + 2 * (x.take i).total) ∧ 0 ≤ kk ∧ Hid (STree wr (m.app (x.drop i)) A c bs) ∧ Only bs w wr) (fun _ t _ => x.len - (intOf t).toNat)
    case atStart => exact ⟨0, .nil, k, rfl, rfl, Nat.zero_le _, rfl, rfl, Lib.hid (by simp [Sur.take, Sur.total]), hk0, SX, Only.refl _ _⟩
    case round =>
      obtain ⟨i, m, kk, rfl, rfl, hi, hm, HM, HK, hkk0, HS, hO⟩ := hrel
      have hi0' : (0 : Int) ≤ (i : Int) := by omega
      by_cases h1 : i < x.len
      · obtain ⟨e, n, d, hx⟩ := Sur.drop_of_lt x i h1
        have hT := congrArg Sur.total (x.take_succ i e n d _ hx)
        rw [Sur.total_app] at hT
        simp only [Sur.total] at hT
        have hTX : (x.take i).total + (x.drop i).total = x.total := by rw [← Sur.total_app, Sur.take_app_drop]
        rw [hx] at hTX
        simp only [Sur.total] at hTX
        have hkkb : kk + 2 * e.total + 2 ≤ 1099511627776 := by have := HK.out; omega
        have hkn : kk + 2 * e.total + 2 = k + 2 * ((x.take (i + 1)).total : Int) := by have := HK.out; omega
        have HKN := Lib.hid hkn
        have hne := Sur.nodes_drop hx
        have hst := HS.out
        rw [hx] at hst
        have HX := Lib.hid hx
        clear hx hT hTX hkn
        rcases A with _ | ⟨g, o, sp⟩
        · have := SX.out.2.2.1; omega
        · have hblt := STree.lt hst
          obtain ⟨s1, s2, ha, hlt, b3, hbs, hrow⟩ := hst
          cases ha
          have hlt : g < wr.heap.size := hlt
          obtain ⟨b0, b1, b2, A1, c1, hb3, g0, g1, g2, gf1, gf2, gt, gb⟩ := STr.focus hrow
          rw [hm] at g0 g1 g2 gf1 gf2 gb
          have HGB := Lib.hid gb
          have HBS := Lib.hid hbs
          have HB3 := Lib.hid hb3
          have hndall := HND.out
          rw [hbs, hb3] at hndall
          have hgn : g ∉ b0 ++ (b1 ++ b2) := (List.nodup_cons.1 hndall).1
          have hnb := (List.nodup_cons.1 hndall).2
          have hnb1 : b1.Nodup := (List.nodup_append.1 (List.nodup_append.1 hnb).2.1).1
          have hdis : ∀ j ∈ b0 ++ b2, j ∉ b1 := by
            intro j hj hj1
            rcases List.mem_append.1 hj with h | h
            · exact (List.nodup_append.1 hnb).2.2 j h j (List.mem_append.2 (.inl hj1)) rfl
            · exact (List.nodup_append.1 (List.nodup_append.1 hnb).2.1).2.2 j hj1 j h rfl
          have HG := Lib.hid hgn
          have HBL := Lib.hid hblt
          clear hblt
          have HD := Lib.hid hdis
          have HR := Lib.hid hrow
          clear gb hbs hb3 hndall hgn hnb hdis hrow s1 s2
          go_wp2_with fail
          refine (IH.out e A1 c1 b1 kk _ (by omega) gt hnb1 hkk0 (by omega)).mono ?_
          rintro e1 w1 ⟨rfl, e', hel, hmk, het, hO1⟩
          have hg1 : g ∉ b1 := fun h => HG.out (by simp [h])
          have hblk : w1.heap[g]? = wr.heap[g]? := hO1.block g hlt hg1
          have c1' : ∀ j, w1.cell? ⟨g, j, none⟩ = wr.cell? ⟨g, j, none⟩ := fun j => World.cell?_of_block hblk
          have cf' : ∀ j, w1.frozen? ⟨g, j, none⟩ = wr.frozen? ⟨g, j, none⟩ := fun j => by unfold World.frozen?; simp only [hblk]
          have u1 := (c1' (o + i * 3 + 1)).trans g1
          have u2 := (c1' (o + i * 3 + 2)).trans g2
          have uf1 := (cf' (o + i * 3 + 1)).trans gf1
          have uf2 := (cf' (o + i * 3 + 2)).trans gf2
          have HC1 := Lib.hid c1'
          have HCF := Lib.hid cf'
          clear c1' cf' hblk
          have hkk1 : 0 ≤ kk + 2 * (e.total : Int) := by omega
          go_wp2
          have hW : ∀ j, j ≠ g → ((w1.setCell ⟨g, o + i * 3 + 1, none⟩ (.int .i64 (kk + 2 * (e.total : Int)))).setCell ⟨g, o + i * 3 + 1 + 1, none⟩ (.int .i64 (kk + 2 * (e.total : Int) + 1))).heap[j]? = w1.heap[j]? :=
            fun j hj => (Below.heap_setCell _ _ _ _ hj).trans (Below.heap_setCell _ _ _ _ hj)
          have hsW : w1.heap.size ≤ ((w1.setCell ⟨g, o + i * 3 + 1, none⟩ (.int .i64 (kk + 2 * (e.total : Int)))).setCell ⟨g, o + i * 3 + 1 + 1, none⟩ (.int .i64 (kk + 2 * (e.total : Int) + 1))).heap.size := by simp
          have hIk : I64 (kk + 2 * (e.total : Int)) := by unfold I64; omega
          have hIk1 : I64 (kk + 2 * (e.total : Int) + 1) := by unfold I64; omega
          have hfin : STr ((w1.setCell ⟨g, o + i * 3 + 1, none⟩ (.int .i64 (kk + 2 * (e.total : Int)))).setCell ⟨g, o + i * 3 + 1 + 1, none⟩ (.int .i64 (kk + 2 * (e.total : Int) + 1))) (m.app (.cons e' (kk + 2 * (e.total : Int)) (kk + 2 * (e.total : Int) + 1) (x.drop (i + 1)))) g o b3 := by
            refine HGB.out _ e' _ _ (Nat.le_trans hO1.size hsW) hel hIk hIk1 (het.keep hsW (fun j hj => hW j (fun h => hg1 (h ▸ hj)))) (fun j hj => (hW j (fun h => HG.out (by rw [← h]; rcases List.mem_append.1 hj with h | h <;> simp [h]))).trans (hO1.block j (HBL.out j (by rw [HBS.out, HB3.out]; rcases List.mem_append.1 hj with h | h <;> simp [h])) (HD.out j hj)))
              (fun j hj1 hj2 => ?_) ?_ ?_ (fun j => ?_)
            · exact (World.cell?_setCell_other _ _ _ _ (fun h => by injection h with _ h2 _; omega)).trans ((World.cell?_setCell_other _ _ _ _ (fun h => by injection h with _ h2 _; omega)).trans (HC1.out j))
            · exact (World.cell?_setCell_other _ _ _ _ (fun h => by injection h with _ h2 _; omega)).trans (World.cell?_setCell_same _ _ _ u1)
            · exact World.cell?_setCell_same _ _ _ ((World.cell?_setCell_other _ _ _ _ (fun h => by injection h with _ h2 _; omega)).trans u2)
            · rw [World.frozen?_setCell, World.frozen?_setCell]; exact HCF.out j
          have hOW : Only bs w1 ((w1.setCell ⟨g, o + i * 3 + 1, none⟩ (.int .i64 (kk + 2 * (e.total : Int)))).setCell ⟨g, o + i * 3 + 1 + 1, none⟩ (.int .i64 (kk + 2 * (e.total : Int) + 1))) :=
            (Only.set (by rw [HBS.out]; simp) _).trans (Only.set (by rw [HBS.out]; simp) _)
          have hO2 : Only bs wr w1 := hO1.more (fun j hj => by rw [HBS.out, HB3.out]; simp [hj])
          have happ : (m.app (.cons e' (kk + 2 * (e.total : Int)) (kk + 2 * (e.total : Int) + 1) .nil)).app (x.drop (i + 1)) = m.app (.cons e' (kk + 2 * (e.total : Int)) (kk + 2 * (e.total : Int) + 1) (x.drop (i + 1))) := by rw [Sur.app_assoc]; rfl
          have hlen : (m.app (.cons e' (kk + 2 * (e.total : Int)) (kk + 2 * (e.total : Int) + 1) (x.drop (i + 1)))).len ≤ c := by
            rw [Sur.len_app]
            simp only [Sur.len]
            rw [Sur.len_drop]; omega
          refine ⟨⟨i + 1, m.app (.cons e' (kk + 2 * (e.total : Int)) (kk + 2 * (e.total : Int) + 1) .nil), _, rfl, by go_num, by omega, by rw [Sur.len_snoc]; omega, Lib.hid (Mk.app HM.out ⟨_, hmk, rfl, rfl, by show _ = _; omega⟩), Lib.hid (by have := HKN.out; omega), by omega, Lib.hid ?_, hO.trans (hO2.trans hOW)⟩, by simp [intOf]; omega⟩
          rw [happ]
          have hsz1 := hO1.size
          exact ⟨hlen, by unfold maxLen; omega, rfl, by simp only [World.size_setCell]; omega, b3, HBS.out, hfin⟩
      · obtain rfl : i = x.len := by omega
        have hst := HS.out
        rw [x.drop_of_ge x.len (Nat.le_refl _), Sur.app_nil] at hst
        have hkk := HK.out
        rw [x.take_len] at hkk
        have HKK := Lib.hid hkk
        have HST := Lib.hid hst
        clear hkk hst HS
        go_wp2
        go_ret
        refine ⟨by rw [HKK.out]; rfl, m, hm, ?_, HST.out, hO⟩
        have := HM.out
        rw [HKK.out] at this
        exact this
end Go.Proofs.YtonlfnbjbmgegaaGreat
