/-
  The cursor of the draws: some numbers come, and its block alone is written.
-/
import Derived.Test.YtphabopnbcgodaaLZ2
namespace Go.Proofs.Ytphabopnbcgodaa
open Go.RowKit
set_option linter.unusedSimpArgs false
set_option linter.unusedVariables false

/-- bytes that can be read, in a block before g -/
def CodeOk (W : World) (g : Nat) (A : Option Addr) (n : Nat) : Prop := ∀ i, i < n → ∃ (cb o : Nat) (b : Int), A = some ⟨cb, o, none⟩ ∧ cb < g ∧ W.cell? ⟨cb, o + i, none⟩ = some (.int .u8 b) ∧ 0 ≤ b ∧ b ≤ 255
def CurAt (W : World) (g : Nat) (A : Option Addr) (n c : Nat) (p s : Int) : Prop :=
  W.heap[g]? = some (.cells #[.slice A n c, .int .i64 p, .int .u64 s] 51 (0, 0)) ∧ CodeOk W g A n ∧ n ≤ 1099511627776 ∧ 0 ≤ p
/-- a cursor at g; it is at k at most -/
class Cur (W : World) (g : Nat) (k : outParam Int) : Prop where h : ∃ A n c p s, CurAt W g A n c p s ∧ p ≤ k
class GtB (g g' : Nat) : Prop where h : g < g'
section
variable {w w1 W U v : World} {g g' i n : Nat} {o : Obj} {u : Value} {A : Option Addr} {k : Int}
instance GtB.born [a : Born g' W] [b : LtB g W] : GtB g g' := ⟨by have := a.h; have := b.h; omega⟩
theorem CodeOk.keep (h : CodeOk W g A n) (hk : ∀ b, b < g → w1.heap[b]? = W.heap[b]?) : CodeOk w1 g A n := by
  intro i hi
  obtain ⟨cb, o, b, h1, h2, h3, h4⟩ := h i hi
  refine ⟨cb, o, b, h1, h2, ?_, h4⟩
  have := hk cb h2
  unfold World.cell? at *
  simp only [this] at *
  exact h3
theorem Cur.keep (b : Cur W g k) (hk : ∀ b, b ≤ g → w1.heap[b]? = W.heap[b]?) : Cur w1 g k := ⟨by
  obtain ⟨A, n, c, p, s, ⟨h1, h2, h3⟩, h4⟩ := b.h
  exact ⟨A, n, c, p, s, ⟨(hk g (Nat.le_refl _)).trans h1, h2.keep (fun b hb => hk b (by omega)), h3⟩, h4⟩⟩
theorem Cur.lt (b : Cur W g k) : g < W.heap.size := by
  obtain ⟨A, n, c, p, s, ⟨h1, _⟩, _⟩ := b.h
  exact has_lt h1
instance (priority := low) LtB.cur [b : Cur W g k] : LtB g W := ⟨b.lt⟩
instance Cur.bel [a : Bel W w1] [b : Cur W g k] : Cur w1 g k := b.keep fun j hj => a.h.block j (by have := b.lt; omega)
instance Cur.far [a : GtB g g'] [b : Cur W g k] : Cur (W.setCell ⟨g', i, none⟩ u) g k := b.keep fun j hj => Below.heap_setCell _ _ _ _ (by have := a.h; show j ≠ g'; omega)
instance Cur.drew [b : Cur W g k] : Cur W.drew g k := b.keep fun _ _ => rfl
instance Cur.drewN [b : Cur W g k] : Cur (W.drewN n) g k := b.keep fun _ _ => rfl
instance Cur.alloc [b : Cur W g k] : Cur (W.alloc o) g k := b.keep fun j hj => Below.heap_alloc _ _ _ (by have := b.lt; omega)
theorem Cur.le {k' : Int} (b : Cur W g k) (h : k ≤ k') : Cur W g k' := ⟨by
  obtain ⟨A, n, c, p, s, h1, h2⟩ := b.h
  exact ⟨A, n, c, p, s, h1, by omega⟩⟩
/-- its block was written -/
theorem CurAt.set {W : World} {n c : Nat} {p s : Int} (b : CurAt W g A n c p s) {W' : World} {p' s' : Int} (hk : ∀ j, j < g → W'.heap[j]? = W.heap[j]?) (h' : W'.heap[g]? = some (.cells #[.slice A n c, .int .i64 p', .int .u64 s'] 51 (0, 0))) (hp : 0 ≤ p') : CurAt W' g A n c p' s' :=
  ⟨h', b.2.1.keep hk, b.2.2.1, hp⟩
end

theorem CurAt.put {W W' : World} {g : Nat} {A : Option Addr} {n c : Nat} {p s p' s' : Int} (b : CurAt W g A n c p s) (h' : W'.heap[g]? = some (.cells #[.slice A n c, .int .i64 p', .int .u64 s'] 51 (0, 0))) (h : KpP W (XE g) W') (hp : 0 ≤ p') : CurAt W' g A n c p' s' :=
  b.set (fun j hj => h.2.2.2.2 j (by have := has_lt b.1; omega) (fun e => by have : j = g := e; omega)) h' hp
theorem and255 (x : Int) : 0 ≤ bits .and .u64 x 255 ∧ bits .and .u64 x 255 ≤ 255 := by
  have h : (BitVec.ofInt 64 x &&& BitVec.ofInt 64 255).toNat ≤ 255 := by
    rw [BitVec.toNat_and]; exact Nat.le_trans Nat.and_le_right (by decide)
  show 0 ≤ IntKind.u64.wrap ((BitVec.ofInt 64 x &&& BitVec.ofInt 64 255).toNat : Int) ∧ IntKind.u64.wrap ((BitVec.ofInt 64 x &&& BitVec.ofInt 64 255).toNat : Int) ≤ 255
  rw [IntKind.wrap_u64]
  omega
theorem wrap64_in {y : Int} (h0 : 0 ≤ y) (h1 : y ≤ 255) : wrap64 y = y := by unfold wrap64; omega
/-- what a draw leaves -/
def Drew (w : World) (g : Nat) (k : Int) (w' : World) : Prop := Kp w (XE g) w' ∧ Cur w' g k

attribute [local go_sem high] has_cell has_frozen
set_option maxHeartbeats 1600000 in
set_option maxRecDepth 100000 in
theorem next_any (g : Nat) (k : Int) (w : World) [hc : Cur w g k] (hk : k ≤ 1125899906842624) :
    Calls Try.prog 106 #[.pointer (some ⟨g, 0, none⟩)] w fun e w' => ∃ r : Int, e = .returned (.int .i64 r) ∧ 0 ≤ r ∧ r ≤ 255 ∧ Drew w g (k + 1) w' := by
  obtain ⟨A, n, c, p, s, hcu, hpk⟩ := hc.h
  haveI H0 : Has w g (.cells #[.slice A n c, .int .i64 p, .int .u64 s] 51 (0, 0)) := ⟨hcu.1⟩
  have h0 := hcu.2.2.2
  have hn := hcu.2.2.1
  have hco := hcu.2.1
  go_enter Try.func106, Try.ntmps106
  go_wp2
  refine wp_region_held_drew (S := (fun w' => w'.cell? ⟨g, 0, none⟩ = some (.slice A n c) ∧ w'.cell? ⟨g, 1, none⟩ = some (.int .i64 p))) (by kernel_rfl) ?hSn1_ (fun hHeld => ?hRn1_)
  case hSn1_ => (exact ⟨has3.1, has3.2.1⟩)
  refine wpAnyH_take (i := 0) (oi := _) (v := ?vn1_1) rfl (by kernel_rfl) (by kernel_rfl) (by kernel_rfl) (fun _ _ _ h => h) (Or.inl ⟨by rfl, ?hyn1_1⟩) (by assumption) ?hRn1_1
  case hyn1_1 => (intro w hSw; (try dsimp only at hSw); go_simp; (try with_reducible rfl))
  try simp only [Act.put, List.getElem_toArray, List.getElem_cons_zero, List.getElem_cons_succ, List.setIfInBounds_toArray, List.set_cons_zero, List.set_cons_succ]
  refine wpAnyH_take (i := 1) (oi := _) (v := ?vn1_2) rfl (by kernel_rfl) (by kernel_rfl) (by kernel_rfl) (fun _ _ _ h => h) (Or.inl ⟨by rfl, ?hyn1_2⟩) (by assumption) ?hRn1_2
  case hyn1_2 => (intro w hSw; (try dsimp only at hSw); go_simp; (try with_reducible rfl))
  try simp only [Act.put, List.getElem_toArray, List.getElem_cons_zero, List.getElem_cons_succ, List.setIfInBounds_toArray, List.set_cons_zero, List.set_cons_succ]
  refine wpAnyH_take (i := 2) (oi := _) (v := ?vn1_3) rfl (by kernel_rfl) (by kernel_rfl) (by kernel_rfl) (fun _ _ _ h => h) (Or.inl ⟨by rfl, ?hyn1_3⟩) (by assumption) ?hRn1_3
  case hyn1_3 => (intro w hSw; (try dsimp only at hSw); go_simp; (try with_reducible rfl))
  try simp only [Act.put, List.getElem_toArray, List.getElem_cons_zero, List.getElem_cons_succ, List.setIfInBounds_toArray, List.set_cons_zero, List.set_cons_succ]
  refine wpAnyH_take (i := 3) (oi := _) (v := ?vn1_4) rfl (by kernel_rfl) (by kernel_rfl) (by kernel_rfl) (fun _ _ _ h => h) (Or.inl ⟨by rfl, ?hyn1_4⟩) (by assumption) ?hRn1_4
  case hyn1_4 => (intro w hSw; (try dsimp only at hSw); go_simp; (try with_reducible rfl))
  try simp only [Act.put, List.getElem_toArray, List.getElem_cons_zero, List.getElem_cons_succ, List.setIfInBounds_toArray, List.set_cons_zero, List.set_cons_succ]
  refine wpAnyH_take (i := 4) (oi := _) (v := ?vn1_5) rfl (by kernel_rfl) (by kernel_rfl) (by kernel_rfl) (fun _ _ _ h => h) (Or.inl ⟨by rfl, ?hyn1_5⟩) (by assumption) ?hRn1_5
  case hyn1_5 => (intro w hSw; (try dsimp only at hSw); go_simp; (try with_reducible rfl))
  try simp only [Act.put, List.getElem_toArray, List.getElem_cons_zero, List.getElem_cons_succ, List.setIfInBounds_toArray, List.set_cons_zero, List.set_cons_succ]
  refine wpAnyH_take (i := 5) (oi := _) (v := ?vn1_6) rfl (by kernel_rfl) (by kernel_rfl) (by kernel_rfl) (fun _ _ _ h => h) (Or.inl ⟨by rfl, ?hyn1_6⟩) (by assumption) ?hRn1_6
  case hyn1_6 => (intro w hSw; (try dsimp only at hSw); go_simp; (try with_reducible rfl))
  try simp only [Act.put, List.getElem_toArray, List.getElem_cons_zero, List.getElem_cons_succ, List.setIfInBounds_toArray, List.set_cons_zero, List.set_cons_succ]
  refine wpAnyH_take (i := 6) (oi := _) (v := ?vn1_7) rfl (by kernel_rfl) (by kernel_rfl) (by kernel_rfl) (fun _ _ _ h => h) (Or.inl ⟨by rfl, ?hyn1_7⟩) (by assumption) ?hRn1_7
  case hyn1_7 => (intro w hSw; (try dsimp only at hSw); go_simp; (try with_reducible rfl))
  try simp only [Act.put, List.getElem_toArray, List.getElem_cons_zero, List.getElem_cons_succ, List.setIfInBounds_toArray, List.set_cons_zero, List.set_cons_succ]
  refine wpAnyH_take (i := 7) (oi := _) (v := ?vn1_8) rfl (by kernel_rfl) (by kernel_rfl) (by kernel_rfl) (fun _ _ _ h => h) (Or.inl ⟨by rfl, ?hyn1_8⟩) (by assumption) ?hRn1_8
  case hyn1_8 => (intro w hSw; (try dsimp only at hSw); go_simp; (try with_reducible rfl))
  try simp only [Act.put, List.getElem_toArray, List.getElem_cons_zero, List.getElem_cons_succ, List.setIfInBounds_toArray, List.set_cons_zero, List.set_cons_succ]
  refine wpAnyH_ready (rs := [8]) (by kernel_rfl) (by simp) ?_
  refine AllReadyH.cons (o := _) rfl (fun K hK => ?_) AllReadyH.nil
  go_simp
  refine hK.out _ _ ?hSn1_9 (fun hHeld => ?hRn1_9)
  case hSn1_9 => ((try dsimp only); exact ⟨has3.1, has3.2.1⟩)
  clear hK K
  try simp only [Act.put, List.getElem_toArray, List.getElem_cons_zero, List.getElem_cons_succ, List.setIfInBounds_toArray, List.set_cons_zero, List.set_cons_succ]
  refine wpAnyH_take (i := 9) (oi := _) (v := ?vn1_10) rfl (by kernel_rfl) (by kernel_rfl) (by kernel_rfl) (fun _ _ _ h => h) (Or.inl ⟨by rfl, ?hyn1_10⟩) (by assumption) ?hRn1_10
  case hyn1_10 => (intro w hSw; (try dsimp only at hSw); go_simp; (try with_reducible rfl))
  try simp only [Act.put, List.getElem_toArray, List.getElem_cons_zero, List.getElem_cons_succ, List.setIfInBounds_toArray, List.set_cons_zero, List.set_cons_succ]
  refine wpAnyH_done (by kernel_rfl) ?_ _
  have hp1 : IntKind.i64.wrap (p + 1) = p + 1 := IntWalk.i64_in _ (by omega)
  by_cases hlt : p < (n : Int)
  · obtain ⟨cb, o, b, rfl, hcb, hcell, hb0, hb1⟩ := hco p.toNat (by omega)
    have hcell' : w.cell? ⟨cb, o + p.toNat, none⟩ = some (.int .u8 b) := hcell
    have hwb : IntKind.i64.wrap b = b := IntWalk.i64_in _ (by omega)
    go_wp2
    refine wp_region_held_drew (S := (fun w' => w'.cell? ⟨g, 0, none⟩ = some (.slice (some ⟨cb, o, none⟩) n c) ∧ w'.cell? ⟨g, 1, none⟩ = some (.int .i64 p) ∧ w'.cell? ⟨cb, o + p.toNat, none⟩ = some (.int .u8 b))) (by kernel_rfl) ?hSn2_ (fun hHeld => ?hRn2_)
    case hSn2_ => (exact ⟨has3.1, has3.2.1, hcell'⟩)
    refine wpAnyH_take (i := 0) (oi := _) (v := ?vn2_1) rfl (by kernel_rfl) (by kernel_rfl) (by kernel_rfl) (fun _ _ _ h => h) (Or.inl ⟨by rfl, ?hyn2_1⟩) (by assumption) ?hRn2_1
    case hyn2_1 => (intro w hSw; (try dsimp only at hSw); go_simp; (try with_reducible rfl))
    try simp only [Act.put, List.getElem_toArray, List.getElem_cons_zero, List.getElem_cons_succ, List.setIfInBounds_toArray, List.set_cons_zero, List.set_cons_succ]
    refine wpAnyH_take (i := 1) (oi := _) (v := ?vn2_2) rfl (by kernel_rfl) (by kernel_rfl) (by kernel_rfl) (fun _ _ _ h => h) (Or.inl ⟨by rfl, ?hyn2_2⟩) (by assumption) ?hRn2_2
    case hyn2_2 => (intro w hSw; (try dsimp only at hSw); go_simp; (try with_reducible rfl))
    try simp only [Act.put, List.getElem_toArray, List.getElem_cons_zero, List.getElem_cons_succ, List.setIfInBounds_toArray, List.set_cons_zero, List.set_cons_succ]
    refine wpAnyH_take (i := 2) (oi := _) (v := ?vn2_3) rfl (by kernel_rfl) (by kernel_rfl) (by kernel_rfl) (fun _ _ _ h => h) (Or.inl ⟨by rfl, ?hyn2_3⟩) (by assumption) ?hRn2_3
    case hyn2_3 => (intro w hSw; (try dsimp only at hSw); go_simp; (try with_reducible rfl))
    try simp only [Act.put, List.getElem_toArray, List.getElem_cons_zero, List.getElem_cons_succ, List.setIfInBounds_toArray, List.set_cons_zero, List.set_cons_succ]
    refine wpAnyH_take (i := 3) (oi := _) (v := ?vn2_4) rfl (by kernel_rfl) (by kernel_rfl) (by kernel_rfl) (fun _ _ _ h => h) (Or.inl ⟨by rfl, ?hyn2_4⟩) (by assumption) ?hRn2_4
    case hyn2_4 => (intro w hSw; (try dsimp only at hSw); go_simp; (try with_reducible rfl))
    try simp only [Act.put, List.getElem_toArray, List.getElem_cons_zero, List.getElem_cons_succ, List.setIfInBounds_toArray, List.set_cons_zero, List.set_cons_succ]
    refine wpAnyH_take (i := 4) (oi := _) (v := ?vn2_5) rfl (by kernel_rfl) (by kernel_rfl) (by kernel_rfl) (fun _ _ _ h => h) (Or.inl ⟨by rfl, ?hyn2_5⟩) (by assumption) ?hRn2_5
    case hyn2_5 => (intro w hSw; (try dsimp only at hSw); go_simp; (try with_reducible rfl))
    try simp only [Act.put, List.getElem_toArray, List.getElem_cons_zero, List.getElem_cons_succ, List.setIfInBounds_toArray, List.set_cons_zero, List.set_cons_succ]
    refine wpAnyH_take (i := 5) (oi := _) (v := ?vn2_6) rfl (by kernel_rfl) (by kernel_rfl) (by kernel_rfl) (fun _ _ _ h => h) (Or.inl ⟨by rfl, ?hyn2_6⟩) (by assumption) ?hRn2_6
    case hyn2_6 => (intro w hSw; (try dsimp only at hSw); go_simp; (try with_reducible rfl))
    try simp only [Act.put, List.getElem_toArray, List.getElem_cons_zero, List.getElem_cons_succ, List.setIfInBounds_toArray, List.set_cons_zero, List.set_cons_succ]
    refine wpAnyH_take (i := 6) (oi := _) (v := ?vn2_7) rfl (by kernel_rfl) (by kernel_rfl) (by kernel_rfl) (fun _ _ _ h => h) (Or.inl ⟨by rfl, ?hyn2_7⟩) (by assumption) ?hRn2_7
    case hyn2_7 => (intro w hSw; (try dsimp only at hSw); go_simp; (try with_reducible rfl))
    try simp only [Act.put, List.getElem_toArray, List.getElem_cons_zero, List.getElem_cons_succ, List.setIfInBounds_toArray, List.set_cons_zero, List.set_cons_succ]
    refine wpAnyH_take (i := 7) (oi := _) (v := ?vn2_8) rfl (by kernel_rfl) (by kernel_rfl) (by kernel_rfl) (fun _ _ _ h => h) (Or.inl ⟨by rfl, ?hyn2_8⟩) (by assumption) ?hRn2_8
    case hyn2_8 => (intro w hSw; (try dsimp only at hSw); go_simp; (try with_reducible rfl))
    try simp only [Act.put, List.getElem_toArray, List.getElem_cons_zero, List.getElem_cons_succ, List.setIfInBounds_toArray, List.set_cons_zero, List.set_cons_succ]
    refine wpAnyH_take (i := 8) (oi := _) (v := ?vn2_9) rfl (by kernel_rfl) (by kernel_rfl) (by kernel_rfl) (fun _ _ _ h => h) (Or.inl ⟨by rfl, ?hyn2_9⟩) (by assumption) ?hRn2_9
    case hyn2_9 => (intro w hSw; (try dsimp only at hSw); go_simp; (try with_reducible rfl))
    try simp only [Act.put, List.getElem_toArray, List.getElem_cons_zero, List.getElem_cons_succ, List.setIfInBounds_toArray, List.set_cons_zero, List.set_cons_succ]
    refine wpAnyH_take (i := 9) (oi := _) (v := ?vn2_10) rfl (by kernel_rfl) (by kernel_rfl) (by kernel_rfl) (fun _ _ _ h => h) (Or.inl ⟨by rfl, ?hyn2_10⟩) (by assumption) ?hRn2_10
    case hyn2_10 => (intro w hSw; (try dsimp only at hSw); go_simp; (try with_reducible rfl))
    try simp only [Act.put, List.getElem_toArray, List.getElem_cons_zero, List.getElem_cons_succ, List.setIfInBounds_toArray, List.set_cons_zero, List.set_cons_succ]
    refine wpAnyH_take (i := 10) (oi := _) (v := ?vn2_11) rfl (by kernel_rfl) (by kernel_rfl) (by kernel_rfl) (fun _ _ _ h => h) (Or.inl ⟨by rfl, ?hyn2_11⟩) (by assumption) ?hRn2_11
    case hyn2_11 => (intro w hSw; (try dsimp only at hSw); go_simp; (try with_reducible rfl))
    try simp only [Act.put, List.getElem_toArray, List.getElem_cons_zero, List.getElem_cons_succ, List.setIfInBounds_toArray, List.set_cons_zero, List.set_cons_succ]
    refine wpAnyH_take (i := 11) (oi := _) (v := ?vn2_12) rfl (by kernel_rfl) (by kernel_rfl) (by kernel_rfl) (fun _ _ _ h => h) (Or.inl ⟨by rfl, ?hyn2_12⟩) (by assumption) ?hRn2_12
    case hyn2_12 => (intro w hSw; (try dsimp only at hSw); go_simp; (try with_reducible rfl))
    try simp only [Act.put, List.getElem_toArray, List.getElem_cons_zero, List.getElem_cons_succ, List.setIfInBounds_toArray, List.set_cons_zero, List.set_cons_succ]
    refine wpAnyH_done (by kernel_rfl) ?_ _
    go_wp2
    have hle : p + 1 ≤ (n : Int) := by omega
    refine wp_region_held_drew (S := (fun w' => w'.cell? ⟨g, 0, none⟩ = some (.slice (some ⟨cb, o, none⟩) n c) ∧ w'.cell? ⟨g, 1, none⟩ = some (.int .i64 (p + 1)))) (by kernel_rfl) ?hSn3_ (fun hHeld => ?hRn3_)
    case hSn3_ => (exact ⟨has3.1, has3.2.1⟩)
    refine wpAnyH_take (i := 0) (oi := _) (v := ?vn3_1) rfl (by kernel_rfl) (by kernel_rfl) (by kernel_rfl) (fun _ _ _ h => h) (Or.inl ⟨by rfl, ?hyn3_1⟩) (by assumption) ?hRn3_1
    case hyn3_1 => (intro w hSw; (try dsimp only at hSw); go_simp; (try with_reducible rfl))
    try simp only [Act.put, List.getElem_toArray, List.getElem_cons_zero, List.getElem_cons_succ, List.setIfInBounds_toArray, List.set_cons_zero, List.set_cons_succ]
    refine wpAnyH_take (i := 1) (oi := _) (v := ?vn3_2) rfl (by kernel_rfl) (by kernel_rfl) (by kernel_rfl) (fun _ _ _ h => h) (Or.inl ⟨by rfl, ?hyn3_2⟩) (by assumption) ?hRn3_2
    case hyn3_2 => (intro w hSw; (try dsimp only at hSw); go_simp; (try with_reducible rfl))
    try simp only [Act.put, List.getElem_toArray, List.getElem_cons_zero, List.getElem_cons_succ, List.setIfInBounds_toArray, List.set_cons_zero, List.set_cons_succ]
    refine wpAnyH_take (i := 2) (oi := _) (v := ?vn3_3) rfl (by kernel_rfl) (by kernel_rfl) (by kernel_rfl) (fun _ _ _ h => h) (Or.inl ⟨by rfl, ?hyn3_3⟩) (by assumption) ?hRn3_3
    case hyn3_3 => (intro w hSw; (try dsimp only at hSw); go_simp; (try with_reducible rfl))
    try simp only [Act.put, List.getElem_toArray, List.getElem_cons_zero, List.getElem_cons_succ, List.setIfInBounds_toArray, List.set_cons_zero, List.set_cons_succ]
    refine wpAnyH_take (i := 3) (oi := _) (v := ?vn3_4) rfl (by kernel_rfl) (by kernel_rfl) (by kernel_rfl) (fun _ _ _ h => h) (Or.inl ⟨by rfl, ?hyn3_4⟩) (by assumption) ?hRn3_4
    case hyn3_4 => (intro w hSw; (try dsimp only at hSw); go_simp; (try with_reducible rfl))
    try simp only [Act.put, List.getElem_toArray, List.getElem_cons_zero, List.getElem_cons_succ, List.setIfInBounds_toArray, List.set_cons_zero, List.set_cons_succ]
    refine wpAnyH_take (i := 4) (oi := _) (v := ?vn3_5) rfl (by kernel_rfl) (by kernel_rfl) (by kernel_rfl) (fun _ _ _ h => h) (Or.inl ⟨by rfl, ?hyn3_5⟩) (by assumption) ?hRn3_5
    case hyn3_5 => (intro w hSw; (try dsimp only at hSw); go_simp; (try with_reducible rfl))
    try simp only [Act.put, List.getElem_toArray, List.getElem_cons_zero, List.getElem_cons_succ, List.setIfInBounds_toArray, List.set_cons_zero, List.set_cons_succ]
    refine wpAnyH_take (i := 5) (oi := _) (v := ?vn3_6) rfl (by kernel_rfl) (by kernel_rfl) (by kernel_rfl) (fun _ _ _ h => h) (Or.inl ⟨by rfl, ?hyn3_6⟩) (by assumption) ?hRn3_6
    case hyn3_6 => (intro w hSw; (try dsimp only at hSw); go_simp; (try with_reducible rfl))
    try simp only [Act.put, List.getElem_toArray, List.getElem_cons_zero, List.getElem_cons_succ, List.setIfInBounds_toArray, List.set_cons_zero, List.set_cons_succ]
    refine wpAnyH_take (i := 6) (oi := _) (v := ?vn3_7) rfl (by kernel_rfl) (by kernel_rfl) (by kernel_rfl) (fun _ _ _ h => h) (Or.inl ⟨by rfl, ?hyn3_7⟩) (by assumption) ?hRn3_7
    case hyn3_7 => (intro w hSw; (try dsimp only at hSw); go_simp; (try with_reducible rfl))
    try simp only [Act.put, List.getElem_toArray, List.getElem_cons_zero, List.getElem_cons_succ, List.setIfInBounds_toArray, List.set_cons_zero, List.set_cons_succ]
    refine wpAnyH_take (i := 7) (oi := _) (v := ?vn3_8) rfl (by kernel_rfl) (by kernel_rfl) (by kernel_rfl) (fun _ _ _ h => h) (Or.inl ⟨by rfl, ?hyn3_8⟩) (by assumption) ?hRn3_8
    case hyn3_8 => (intro w hSw; (try dsimp only at hSw); go_simp; (try with_reducible rfl))
    try simp only [Act.put, List.getElem_toArray, List.getElem_cons_zero, List.getElem_cons_succ, List.setIfInBounds_toArray, List.set_cons_zero, List.set_cons_succ]
    refine wpAnyH_ready (rs := [8]) (by kernel_rfl) (by simp) ?_
    refine AllReadyH.cons (o := _) rfl (fun K hK => ?_) AllReadyH.nil
    go_simp
    refine hK.out _ _ ?hSn3_9 (fun hHeld => ?hRn3_9)
    case hSn3_9 => ((try dsimp only); exact ⟨has3.1, has3.2.1⟩)
    clear hK K
    try simp only [Act.put, List.getElem_toArray, List.getElem_cons_zero, List.getElem_cons_succ, List.setIfInBounds_toArray, List.set_cons_zero, List.set_cons_succ]
    refine wpAnyH_take (i := 9) (oi := _) (v := ?vn3_10) rfl (by kernel_rfl) (by kernel_rfl) (by kernel_rfl) (fun _ _ _ h => h) (Or.inl ⟨by rfl, ?hyn3_10⟩) (by assumption) ?hRn3_10
    case hyn3_10 => (intro w hSw; (try dsimp only at hSw); go_simp; (try with_reducible rfl))
    try simp only [Act.put, List.getElem_toArray, List.getElem_cons_zero, List.getElem_cons_succ, List.setIfInBounds_toArray, List.set_cons_zero, List.set_cons_succ]
    refine wpAnyH_done (by kernel_rfl) ?_ _
    go_wp2
    refine bodyPost_ret (v := .int .i64 b) (by simp [results, Try.results106, go_sem]) rfl ?_
    exact ⟨b, rfl, hb0, hb1, kp _ _ _, ⟨_, _, _, p + 1, _, hcu.put (has _ g) (kpp w (XE g) _) (by omega), by omega⟩⟩
  · go_wp2
    have hle : ¬ p + 1 ≤ (n : Int) := by omega
    refine wp_region_held_drew (S := (fun w' => w'.cell? ⟨g, 0, none⟩ = some (.slice A n c) ∧ w'.cell? ⟨g, 1, none⟩ = some (.int .i64 (p + 1)))) (by kernel_rfl) ?hSn4_ (fun hHeld => ?hRn4_)
    case hSn4_ => (exact ⟨has3.1, has3.2.1⟩)
    refine wpAnyH_take (i := 0) (oi := _) (v := ?vn4_1) rfl (by kernel_rfl) (by kernel_rfl) (by kernel_rfl) (fun _ _ _ h => h) (Or.inl ⟨by rfl, ?hyn4_1⟩) (by assumption) ?hRn4_1
    case hyn4_1 => (intro w hSw; (try dsimp only at hSw); go_simp; (try with_reducible rfl))
    try simp only [Act.put, List.getElem_toArray, List.getElem_cons_zero, List.getElem_cons_succ, List.setIfInBounds_toArray, List.set_cons_zero, List.set_cons_succ]
    refine wpAnyH_take (i := 1) (oi := _) (v := ?vn4_2) rfl (by kernel_rfl) (by kernel_rfl) (by kernel_rfl) (fun _ _ _ h => h) (Or.inl ⟨by rfl, ?hyn4_2⟩) (by assumption) ?hRn4_2
    case hyn4_2 => (intro w hSw; (try dsimp only at hSw); go_simp; (try with_reducible rfl))
    try simp only [Act.put, List.getElem_toArray, List.getElem_cons_zero, List.getElem_cons_succ, List.setIfInBounds_toArray, List.set_cons_zero, List.set_cons_succ]
    refine wpAnyH_take (i := 2) (oi := _) (v := ?vn4_3) rfl (by kernel_rfl) (by kernel_rfl) (by kernel_rfl) (fun _ _ _ h => h) (Or.inl ⟨by rfl, ?hyn4_3⟩) (by assumption) ?hRn4_3
    case hyn4_3 => (intro w hSw; (try dsimp only at hSw); go_simp; (try with_reducible rfl))
    try simp only [Act.put, List.getElem_toArray, List.getElem_cons_zero, List.getElem_cons_succ, List.setIfInBounds_toArray, List.set_cons_zero, List.set_cons_succ]
    refine wpAnyH_take (i := 3) (oi := _) (v := ?vn4_4) rfl (by kernel_rfl) (by kernel_rfl) (by kernel_rfl) (fun _ _ _ h => h) (Or.inl ⟨by rfl, ?hyn4_4⟩) (by assumption) ?hRn4_4
    case hyn4_4 => (intro w hSw; (try dsimp only at hSw); go_simp; (try with_reducible rfl))
    try simp only [Act.put, List.getElem_toArray, List.getElem_cons_zero, List.getElem_cons_succ, List.setIfInBounds_toArray, List.set_cons_zero, List.set_cons_succ]
    refine wpAnyH_take (i := 4) (oi := _) (v := ?vn4_5) rfl (by kernel_rfl) (by kernel_rfl) (by kernel_rfl) (fun _ _ _ h => h) (Or.inl ⟨by rfl, ?hyn4_5⟩) (by assumption) ?hRn4_5
    case hyn4_5 => (intro w hSw; (try dsimp only at hSw); go_simp; (try with_reducible rfl))
    try simp only [Act.put, List.getElem_toArray, List.getElem_cons_zero, List.getElem_cons_succ, List.setIfInBounds_toArray, List.set_cons_zero, List.set_cons_succ]
    refine wpAnyH_take (i := 5) (oi := _) (v := ?vn4_6) rfl (by kernel_rfl) (by kernel_rfl) (by kernel_rfl) (fun _ _ _ h => h) (Or.inl ⟨by rfl, ?hyn4_6⟩) (by assumption) ?hRn4_6
    case hyn4_6 => (intro w hSw; (try dsimp only at hSw); go_simp; (try with_reducible rfl))
    try simp only [Act.put, List.getElem_toArray, List.getElem_cons_zero, List.getElem_cons_succ, List.setIfInBounds_toArray, List.set_cons_zero, List.set_cons_succ]
    refine wpAnyH_take (i := 6) (oi := _) (v := ?vn4_7) rfl (by kernel_rfl) (by kernel_rfl) (by kernel_rfl) (fun _ _ _ h => h) (Or.inl ⟨by rfl, ?hyn4_7⟩) (by assumption) ?hRn4_7
    case hyn4_7 => (intro w hSw; (try dsimp only at hSw); go_simp; (try with_reducible rfl))
    try simp only [Act.put, List.getElem_toArray, List.getElem_cons_zero, List.getElem_cons_succ, List.setIfInBounds_toArray, List.set_cons_zero, List.set_cons_succ]
    refine wpAnyH_take (i := 7) (oi := _) (v := ?vn4_8) rfl (by kernel_rfl) (by kernel_rfl) (by kernel_rfl) (fun _ _ _ h => h) (Or.inl ⟨by rfl, ?hyn4_8⟩) (by assumption) ?hRn4_8
    case hyn4_8 => (intro w hSw; (try dsimp only at hSw); go_simp; (try with_reducible rfl))
    try simp only [Act.put, List.getElem_toArray, List.getElem_cons_zero, List.getElem_cons_succ, List.setIfInBounds_toArray, List.set_cons_zero, List.set_cons_succ]
    refine wpAnyH_ready (rs := [8]) (by kernel_rfl) (by simp) ?_
    refine AllReadyH.cons (o := _) rfl (fun K hK => ?_) AllReadyH.nil
    go_simp
    refine hK.out _ _ ?hSn4_9 (fun hHeld => ?hRn4_9)
    case hSn4_9 => ((try dsimp only); exact ⟨has3.1, has3.2.1⟩)
    clear hK K
    try simp only [Act.put, List.getElem_toArray, List.getElem_cons_zero, List.getElem_cons_succ, List.setIfInBounds_toArray, List.set_cons_zero, List.set_cons_succ]
    refine wpAnyH_take (i := 9) (oi := _) (v := ?vn4_10) rfl (by kernel_rfl) (by kernel_rfl) (by kernel_rfl) (fun _ _ _ h => h) (Or.inl ⟨by rfl, ?hyn4_10⟩) (by assumption) ?hRn4_10
    case hyn4_10 => (intro w hSw; (try dsimp only at hSw); go_simp; (try with_reducible rfl))
    try simp only [Act.put, List.getElem_toArray, List.getElem_cons_zero, List.getElem_cons_succ, List.setIfInBounds_toArray, List.set_cons_zero, List.set_cons_succ]
    refine wpAnyH_done (by kernel_rfl) ?_ _
    go_wp2
    obtain ⟨a0, a1⟩ := and255 (IntKind.u64.wrap (IntKind.u64.wrap (IntKind.u64.wrap (s * 6364136223846793005)) + 1442695040888963407) / 1099511627776)
    generalize bits BinOp.and IntKind.u64 (IntKind.u64.wrap (IntKind.u64.wrap (IntKind.u64.wrap (s * 6364136223846793005)) + 1442695040888963407) / 1099511627776) 255 = y at *
    simp only [wrap64_in a0 a1]
    refine bodyPost_ret (v := .int .i64 y) (by simp [results, Try.results106, go_sem]) rfl ?_
    exact ⟨y, rfl, a0, a1, kp _ _ _, ⟨_, _, _, p + 1, _, hcu.put (has _ g) (kpp w (XE g) _) (by omega), by omega⟩⟩

theorem drew (w : World) (g : Nat) (W : World) {k k1 : Int} [a : KpI w (XE g) W] [b : Cur W g k1] (h : k1 ≤ k) : Drew w g k W := ⟨kp _ _ _, b.le h⟩
set_option maxHeartbeats 1600000 in
theorem pick_any (n : Int) (g : Nat) (k : Int) (w : World) [hc : Cur w g k] (hn : n ≤ 1073741824) (hk : k ≤ 562949953421312) :
    Calls Try.prog 73 #[.pointer (some ⟨g, 0, none⟩), .int .i64 n] w fun e w' => ∃ r : Int, e = .returned (.int .i64 r) ∧ 0 ≤ r ∧ (r < n ∨ r = 0) ∧ Drew w g (k + 2) w' := by
  go_enter Try.func73, Try.ntmps73
  by_cases h1 : n ≤ 1
  · go_wp2
    refine bodyPost_ret (v := .int .i64 0) (by simp [results, Try.results73, go_sem]) rfl ?_
    exact ⟨0, rfl, by omega, .inr rfl, drew _ _ _ (by omega)⟩
  · by_cases h2 : n ≤ 200
    · go_wp2_with (((fail_if_success (have _q := r9)); go_at_call 106; refine (next_any g _ _ (by omega)).mono ?_; rintro e9 w9 ⟨r9, rfl, ha9, hb9, h1, h2⟩; haveI := h1; haveI := h2; clear h1 h2))
      have b1 : 0 ≤ r9 % n := Int.emod_nonneg _ (by omega)
      have b2 : r9 % n < n := Int.emod_lt_of_pos r9 (by omega)
      refine bodyPost_ret (v := .int .i64 (r9 % n)) (by simp [results, Try.results73, go_sem]) rfl ?_
      exact ⟨_, rfl, b1, .inl b2, drew _ _ _ (by omega)⟩
    · go_wp2_with (first | ((fail_if_success (have _q := r9)); go_at_call 106; refine (next_any g _ _ (by omega)).mono ?_; rintro e9 w9 ⟨r9, rfl, ha9, hb9, h1, h2⟩; haveI := h1; haveI := h2; clear h1 h2) | ((fail_if_success (have _q := r15)); go_at_call 106; refine (next_any g _ _ (by omega)).mono ?_; rintro e15 w15 ⟨r15, rfl, ha15, hb15, h1, h2⟩; haveI := h1; haveI := h2; clear h1 h2))
      have b1 : 0 ≤ (r9 * 256 + r15) % n := Int.emod_nonneg _ (by omega)
      have b2 : (r9 * 256 + r15) % n < n := Int.emod_lt_of_pos _ (by omega)
      refine bodyPost_ret (v := .int .i64 ((r9 * 256 + r15) % n)) (by simp [results, Try.results73, go_sem]) rfl ?_
      exact ⟨_, rfl, b1, .inl b2, drew _ _ _ (by omega)⟩

set_option maxHeartbeats 1600000 in
theorem one_any (n : Int) (g : Nat) (k : Int) (w : World) [hc : Cur w g k] (hn : n ≤ 1073741824) (hk : k ≤ 562949953421312) :
    Calls Try.prog 70 #[.pointer (some ⟨g, 0, none⟩), .int .i64 n] w fun e w' => ∃ r : Bool, e = .returned (.bool r) ∧ Drew w g (k + 2) w' := by
  go_enter Try.func70, Try.ntmps70
  go_wp2_with (((fail_if_success (have _q := r7)); go_at_call 73; refine (pick_any n g _ _ (by omega) (by omega)).mono ?_; rintro e7 w7 ⟨r7, rfl, ha7, hb7, h1, h2⟩; haveI := h1; haveI := h2; clear h1 h2))
  refine bodyPost_ret (v := .bool (r7 == 0)) (by simp [results, Try.results70, go_sem]) rfl ?_
  exact ⟨_, rfl, drew _ _ _ (by omega)⟩

/-- a list whose elements can be read -/
def ListOk (P : Value → Prop) (W : World) (A : Option Addr) (n : Nat) : Prop := ∀ i, i < n → ∃ (b o : Nat) (v : Value), A = some ⟨b, o, none⟩ ∧ W.cell? ⟨b, o + i, none⟩ = some v ∧ P v
theorem ListOk.of {P : Value → Prop} {W : World} {G n : Nat} {cs : Array Value} {t : TypeId} {fr : Nat × Nat} [a : Has W G (.cells cs t fr)] (h : ∀ v ∈ cs.toList, P v) (hn : cs.size = n) : ListOk P W (some ⟨G, 0, none⟩) n := fun i hi =>
  ⟨G, 0, cs[i], rfl, by rw [has_cell, Nat.zero_add]; exact Array.getElem?_eq_getElem (by omega), h _ (by simp)⟩
set_option maxHeartbeats 1600000 in
set_option maxRecDepth 100000 in
theorem among_any (P : Int → Prop) (A : Option Addr) (n c : Nat) (g : Nat) (k : Int) (w : World) [hc : Cur w g k] (hn : 0 < n ∧ n ≤ 1073741824) (hk : k ≤ 562949953421312)
    (hl : ∀ w', Kp w (XE g) w' → ListOk (fun v => ∃ j, v = .int .i64 j ∧ P j) w' A n) :
    Calls Try.prog 61 #[.pointer (some ⟨g, 0, none⟩), .slice A n c] w fun e w' => ∃ j : Int, e = .returned (.int .i64 j) ∧ P j ∧ Drew w g (k + 2) w' := by
  go_enter Try.func61, Try.ntmps61
  go_wp2_with (((fail_if_success (have _q := r9)); go_at_call 73; refine (pick_any (n : Int) g _ _ (by omega) (by omega)).mono ?_; rintro e9 w9 ⟨r9, rfl, ha9, hb9, h1, h2⟩; haveI := h1; haveI := h2; clear h1 h2); obtain ⟨b, o, v, hA, hcell, j, rfl, hP⟩ := hl w9 inferInstance r9.toNat (by omega); subst hA)
  refine bodyPost_ret (v := .int .i64 j) (by simp [results, Try.results61, go_sem]) rfl ?_
  exact ⟨j, rfl, hP, drew _ _ _ (by omega)⟩
set_option maxHeartbeats 1600000 in
set_option maxRecDepth 100000 in
theorem of_any (P : ByteArray → Prop) (A : Option Addr) (n c : Nat) (g : Nat) (k : Int) (w : World) [hc : Cur w g k] (hn : 0 < n ∧ n ≤ 1073741824) (hk : k ≤ 562949953421312)
    (hl : ∀ w', Kp w (XE g) w' → ListOk (fun v => ∃ j, v = .string j ∧ P j) w' A n) :
    Calls Try.prog 124 #[.pointer (some ⟨g, 0, none⟩), .slice A n c] w fun e w' => ∃ j : ByteArray, e = .returned (.string j) ∧ P j ∧ Drew w g (k + 2) w' := by
  go_enter Try.func124, Try.ntmps124
  go_wp2_with (((fail_if_success (have _q := r9)); go_at_call 73; refine (pick_any (n : Int) g _ _ (by omega) (by omega)).mono ?_; rintro e9 w9 ⟨r9, rfl, ha9, hb9, h1, h2⟩; haveI := h1; haveI := h2; clear h1 h2); obtain ⟨b, o, v, hA, hcell, j, rfl, hP⟩ := hl w9 inferInstance r9.toNat (by omega); subst hA)
  refine bodyPost_ret (v := .string j) (by simp [results, Try.results124, go_sem]) rfl ?_
  exact ⟨j, rfl, hP, drew _ _ _ (by omega)⟩

theorem size0 : (⟨#[]⟩ : ByteArray).size = 0 := rfl
set_option maxHeartbeats 1600000 in
set_option maxRecDepth 100000 in
theorem word_any (n : Int) (g : Nat) (k : Int) (w : World) [hc : Cur w g k] (hn : 0 ≤ n ∧ n ≤ 100) (hk : k ≤ 281474976710656) :
    Calls Try.prog 108 #[.pointer (some ⟨g, 0, none⟩), .int .i64 n] w fun e w' => ∃ s : ByteArray, e = .returned (.string s) ∧ (s.size : Int) ≤ n ∧ Drew w g (k + 1000) w' := by
  go_enter Try.func108, Try.ntmps108
  go_wp2_with (((fail_if_success (have _q := r10)); go_at_call 73; refine (pick_any (n + 1) g _ _ (by omega) (by omega)).mono ?_; rintro e10 w10 ⟨r10, rfl, ha10, hb10, h1, h2⟩; haveI := h1; haveI := h2; clear h1 h2))
  go_loopw [5, 6] (fun s i wr => ∃ (m : Nat) (u : ByteArray), s = .string u ∧ i = .int .i64 m ∧ (u.size : Int) + m ≤ n ∧ Kp w10 (XE g) wr ∧ Cur wr g (k + 1000 - 2 * m)) (fun _ i _ => (intOf i).toNat)
  case atStart =>
    exact ⟨r10.toNat, _, rfl, by go_num, by rw [size0]; omega, kp _ _ _, Cur.le inferInstance (by omega)⟩
  case round =>
    obtain ⟨m, u, rfl, rfl, hu, _, hcr⟩ := hrel
    haveI := hcr
    by_cases hm : m = 0
    · subst hm
      go_wp2
      refine bodyPost_ret (v := .string u) (by simp [results, Try.results108, go_sem]) rfl ?_
      exact ⟨u, rfl, by omega, drew _ _ _ (by omega)⟩
    · go_wp2_with (((fail_if_success (have _q := r18)); go_at_call 124; refine (of_any (fun s => s.size = 1) _ 3 _ g _ _ (by omega) (by omega) (fun W hW => by haveI := hW; exact ListOk.of (by simp; try decide) rfl)).mono ?_; rintro e18 w18 ⟨r18, rfl, hp18, h1, h2⟩; haveI := h1; haveI := h2; clear h1 h2))
      exact ⟨⟨m - 1, u ++ r18, rfl, by go_num, by rw [ByteArray.size_append, hp18]; omega, kp _ _ _, Cur.le inferInstance (by omega)⟩, by simp [intOf]; omega⟩
end Go.Proofs.Ytphabopnbcgodaa
