import Derived.Deep.CutBlock
import Derived.OwnWalk
import Derived.Maps.AppendAt
import Derived.Maps.OwnSet
import Derived.Maps.OwnOps
import Derived.Laws.ResultCell
import Derived.Test.Qxb6500880aGreatLe
set_option linter.unusedVariables false
set_option linter.unusedSimpArgs false
namespace Go.Proofs.Qxb6500880aGreat
open Go.RowKit

theorem cell_newL2 (w : World) (a0 a1 : Value) (ty : TypeId) : ∀ j u, ([a0, a1] : List Value)[j]? = some u → (w.alloc (.cells #[a0, a1] ty)).cell? ((⟨w.heap.size, 0, none⟩ : Addr).add j) = some u := by
  intro j u h
  have : ((⟨w.heap.size, 0, none⟩ : Addr).add j) = ⟨w.heap.size, j, none⟩ := by
    simp [Addr.add]
    try omega
  rw [this, new_cell rfl]
  simpa using h
theorem cell_newL3 (w : World) (a0 a1 a2 : Value) (ty : TypeId) : ∀ j u, ([a0, a1, a2] : List Value)[j]? = some u → (w.alloc (.cells #[a0, a1, a2] ty)).cell? ((⟨w.heap.size, 0, none⟩ : Addr).add j) = some u := by
  intro j u h
  have : ((⟨w.heap.size, 0, none⟩ : Addr).add j) = ⟨w.heap.size, j, none⟩ := by
    simp [Addr.add]
    try omega
  rw [this, new_cell rfl]
  simpa using h
theorem cell_newL4 (w : World) (a0 a1 a2 a3 : Value) (ty : TypeId) : ∀ j u, ([a0, a1, a2, a3] : List Value)[j]? = some u → (w.alloc (.cells #[a0, a1, a2, a3] ty)).cell? ((⟨w.heap.size, 0, none⟩ : Addr).add j) = some u := by
  intro j u h
  have : ((⟨w.heap.size, 0, none⟩ : Addr).add j) = ⟨w.heap.size, j, none⟩ := by
    simp [Addr.add]
    try omega
  rw [this, new_cell rfl]
  simpa using h
theorem cell_newL8 (w : World) (a0 a1 a2 a3 a4 a5 a6 a7 : Value) (ty : TypeId) : ∀ j u, ([a0, a1, a2, a3, a4, a5, a6, a7] : List Value)[j]? = some u → (w.alloc (.cells #[a0, a1, a2, a3, a4, a5, a6, a7] ty)).cell? ((⟨w.heap.size, 0, none⟩ : Addr).add j) = some u := by
  intro j u h
  have : ((⟨w.heap.size, 0, none⟩ : Addr).add j) = ⟨w.heap.size, j, none⟩ := by
    simp [Addr.add]
    try omega
  rw [this, new_cell rfl]
  simpa using h
theorem cell_newL12 (w : World) (a0 a1 a2 a3 a4 a5 a6 a7 a8 a9 a10 a11 : Value) (ty : TypeId) : ∀ j u, ([a0, a1, a2, a3, a4, a5, a6, a7, a8, a9, a10, a11] : List Value)[j]? = some u → (w.alloc (.cells #[a0, a1, a2, a3, a4, a5, a6, a7, a8, a9, a10, a11] ty)).cell? ((⟨w.heap.size, 0, none⟩ : Addr).add j) = some u := by
  intro j u h
  have : ((⟨w.heap.size, 0, none⟩ : Addr).add j) = ⟨w.heap.size, j, none⟩ := by
    simp [Addr.add]
    try omega
  rw [this, new_cell rfl]
  simpa using h
/-- Rows of 2 numbers. -/
def pL (f : Nat → Nat → Nat) : Nat → List Value
  | 0 => []
  | n + 1 => pL f n ++ [.int .i64 (f n 0 : Int), .int .i64 (f n 1 : Int)]
theorem pL_len (f : Nat → Nat → Nat) : ∀ n, (pL f n).length = n * 2
  | 0 => rfl
  | n + 1 => by unfold pL; rw [List.length_append, pL_len f n]; simp; omega
theorem pL_get (f : Nat → Nat → Nat) : ∀ n i t, i < n → t < 2 → (pL f n)[i * 2 + t]? = some (.int .i64 (f i t : Int))
  | 0, i, t, h, _ => by omega
  | n + 1, i, t, h, ht => by
    have hl := pL_len f n
    unfold pL
    by_cases q : i < n
    · rw [List.getElem?_append_left (by omega)]
      exact pL_get f n i t q ht
    · have e : i = n := by omega
      subst e
      rw [List.getElem?_append_right (by omega), hl, Nat.add_sub_cancel_left]
      rcases (by omega : t = 0 ∨ t = 1) with h | h <;> (subst h; rfl)
theorem pL_congr {f f' : Nat → Nat → Nat} : ∀ n, (∀ i t, i < n → t < 2 → f i t = f' i t) → pL f n = pL f' n
  | 0, _ => rfl
  | n + 1, h => by
    unfold pL
    rw [pL_congr n (fun i t hi ht => h i t (by omega) ht), h n 0 (by omega) (by omega), h n 1 (by omega) (by omega)]
/-- Rows of 3 numbers. -/
def tL (f : Nat → Nat → Nat) : Nat → List Value
  | 0 => []
  | n + 1 => tL f n ++ [.int .i64 (f n 0 : Int), .int .i64 (f n 1 : Int), .int .i64 (f n 2 : Int)]
theorem tL_len (f : Nat → Nat → Nat) : ∀ n, (tL f n).length = n * 3
  | 0 => rfl
  | n + 1 => by unfold tL; rw [List.length_append, tL_len f n]; simp; omega
theorem tL_get (f : Nat → Nat → Nat) : ∀ n i t, i < n → t < 3 → (tL f n)[i * 3 + t]? = some (.int .i64 (f i t : Int))
  | 0, i, t, h, _ => by omega
  | n + 1, i, t, h, ht => by
    have hl := tL_len f n
    unfold tL
    by_cases q : i < n
    · rw [List.getElem?_append_left (by omega)]
      exact tL_get f n i t q ht
    · have e : i = n := by omega
      subst e
      rw [List.getElem?_append_right (by omega), hl, Nat.add_sub_cancel_left]
      rcases (by omega : t = 0 ∨ t = 1 ∨ t = 2) with h | h | h <;> (subst h; rfl)
theorem tL_congr {f f' : Nat → Nat → Nat} : ∀ n, (∀ i t, i < n → t < 3 → f i t = f' i t) → tL f n = tL f' n
  | 0, _ => rfl
  | n + 1, h => by
    unfold tL
    rw [tL_congr n (fun i t hi ht => h i t (by omega) ht), h n 0 (by omega) (by omega), h n 1 (by omega) (by omega), h n 2 (by omega) (by omega)]
/-- The facts, as cells. -/
def dbL (fk : Nat → Fin 4) (av : Nat → Value) : Nat → List Value
  | 0 => []
  | n + 1 => dbL fk av n ++ [.string (nmS (fk n)), av n]
theorem dbL_len (fk : Nat → Fin 4) (av : Nat → Value) : ∀ n, (dbL fk av n).length = n * 2
  | 0 => rfl
  | n + 1 => by unfold dbL; rw [List.length_append, dbL_len fk av n]; simp; omega
theorem dbL_get (fk : Nat → Fin 4) (av : Nat → Value) : ∀ n i, i < n → (dbL fk av n)[i * 2]? = some (.string (nmS (fk i))) ∧ (dbL fk av n)[i * 2 + 1]? = some (av i)
  | 0, i, h => by omega
  | n + 1, i, h => by
    have hl := dbL_len fk av n
    unfold dbL
    by_cases q : i < n
    · rw [List.getElem?_append_left (by omega), List.getElem?_append_left (by omega)]
      exact dbL_get fk av n i q
    · have e : i = n := by omega
      subst e
      rw [List.getElem?_append_right (by omega), List.getElem?_append_right (by omega), hl, Nat.sub_self, Nat.add_sub_cancel_left]
      exact ⟨rfl, rfl⟩
theorem dbL_congr {fk fk' : Nat → Fin 4} {av av' : Nat → Value} : ∀ n, (∀ i, i < n → fk i = fk' i ∧ av i = av' i) → dbL fk av n = dbL fk' av' n
  | 0, _ => rfl
  | n + 1, h => by
    unfold dbL
    rw [dbL_congr n (fun i hi => h i (by omega)), (h n (by omega)).1, (h n (by omega)).2]
/-- The arguments of a fact, in a block of their own. -/
def ArgAt (w : World) (v : Value) (n : Nat) (f : Nat → Nat) : Prop := ∃ g, v = .slice (some ⟨g, 0, none⟩) n n ∧ g < w.heap.size ∧ ∀ j, j < n → w.cell? ⟨g, j * 4, none⟩ = some (.int .u8 1) ∧ w.cell? ⟨g, j * 4 + 1, none⟩ = some (.int .i64 0) ∧ w.cell? ⟨g, j * 4 + 2, none⟩ = some (.int .i64 (f j : Int)) ∧ w.cell? ⟨g, j * 4 + 3, none⟩ = some (.string ByteArray.empty)
theorem ArgAt.keep {w w' : World} {v : Value} {n : Nat} {f : Nat → Nat} (h : ArgAt w v n f) (hs : w.heap.size ≤ w'.heap.size) (hk : ∀ q, v.ownBlock = some q → q < w.heap.size → w'.heap[q]? = w.heap[q]?) : ArgAt w' v n f := by
  obtain ⟨g, e, hg, hc⟩ := h
  have eb := hk g (by rw [e]; rfl) hg
  exact ⟨g, e, by omega, fun j hj => ⟨(World.cell?_of_block (a := ⟨g, j * 4, none⟩) eb).trans (hc j hj).1, (World.cell?_of_block (a := ⟨g, j * 4 + 1, none⟩) eb).trans (hc j hj).2.1, (World.cell?_of_block (a := ⟨g, j * 4 + 2, none⟩) eb).trans (hc j hj).2.2.1, (World.cell?_of_block (a := ⟨g, j * 4 + 3, none⟩) eb).trans (hc j hj).2.2.2⟩⟩
theorem ArgAt.congr {w : World} {v : Value} {n : Nat} {f f' : Nat → Nat} (h : ArgAt w v n f) (e : ∀ j, j < n → f j = f' j) : ArgAt w v n f' := by
  obtain ⟨g, e1, hg, hc⟩ := h
  exact ⟨g, e1, hg, fun j hj => by rw [← e j hj]; exact hc j hj⟩
theorem ArgAt.lt {w : World} {v : Value} {n : Nat} {f : Nat → Nat} (h : ArgAt w v n f) {q : Nat} (hq : v.ownBlock = some q) : q < w.heap.size := by
  obtain ⟨g, e1, hg, hc⟩ := h
  rw [e1] at hq
  have e : g = q := Option.some.inj hq
  omega
theorem ArgAt.ints {w : World} {v : Value} {n : Nat} {f : Nat → Nat} (h : ArgAt w v n f) : IntsAt w v n f := by
  obtain ⟨g, e1, hg, hc⟩ := h
  exact ⟨_, n, e1, Nat.le_refl _, .inr ⟨g, rfl, hc⟩⟩
/-- What column col draws from. -/
def PoolAt (w : World) (G col g : Nat) : Prop := ∃ (n c : Nat) (pv : Nat → Nat), w.cell? ⟨G, col, none⟩ = some (.slice (some ⟨g, 0, none⟩) n c) ∧ 0 < n ∧ n ≤ 4 ∧ (∀ j, j < n → pv j < 64) ∧ ∀ j, j < n → w.cell? ⟨g, j, none⟩ = some (.int .i64 (pv j : Int))
theorem PoolAt.keep {w w' : World} {G col g : Nat} (h : PoolAt w G col g) (h1 : w'.heap[G]? = w.heap[G]?) (h2 : w'.heap[g]? = w.heap[g]?) : PoolAt w' G col g := by
  obtain ⟨n, c, pv, a, b, c', d, e⟩ := h
  exact ⟨n, c, pv, (World.cell?_of_block (a := ⟨G, col, none⟩) h1).trans a, b, c', d, fun j hj => (World.cell?_of_block (a := ⟨g, j, none⟩) h2).trans (e j hj)⟩
theorem PoolAt.lt {w : World} {G col g : Nat} (h : PoolAt w G col g) : G < w.heap.size ∧ g < w.heap.size := by
  obtain ⟨n, c, pv, a, b, c', d, e⟩ := h
  exact ⟨World.block_lt_of_cell? _ _ a, World.block_lt_of_cell? _ _ (e 0 b)⟩
/-- The law's data in the middle of a round. -/
structure LX where
  v9 : Value
  n9 : Nat
  fv : Nat → Nat → Nat
  av : Nat → Value
  v17 : Value
  n17 : Nat
  v18 : Value
  n18 : Nat
def fpW (B G : Nat) (gp : Nat → Nat) (x : LX) : Nat → Nat → Prop
  | 0 => fun q => q = B
  | 1 => fun q => q = G ∨ ∃ col, col < 3 ∧ q = gp col
  | 2 => fun q => x.v9.ownBlock = some q
  | 3 => fun q => ∃ i, i < x.n9 ∧ (x.av i).ownBlock = some q
  | 4 => fun q => x.v17.ownBlock = some q
  | 5 => fun q => x.v18.ownBlock = some q
  | _ => fun _ => False
structure LAt (w w0 : World) (B G np : Nat) (gp : Nat → Nat) (x : LX) : Prop where
  d : DiceAt w B
  c : ∀ col, col < 3 → PoolAt w G col (gp col)
  db : w.ownsRow 0 34 2 x.v9 x.n9 (dbL (fkN np) x.av x.n9)
  a : ∀ i, i < x.n9 → ArgAt w (x.av i) (nnN np i) (x.fv i)
  p : w.ownsRow 0 44 2 x.v17 x.n17 (pL (fun i => x.fv (64 + i)) x.n17)
  t : w.ownsRow 0 47 3 x.v18 x.n18 (tL (fun i => x.fv (64 + np + i)) x.n18)
  dj : Disj (fpW B G gp x) 6
  lo : ∀ k q, k < 6 → fpW B G gp x k q → B ≤ q
  bl : Below B w0 w
theorem LAt.flt {w w0 : World} {B G np : Nat} {gp : Nat → Nat} {x : LX} (h : LAt w w0 B G np gp x) : ∀ k q, k < 6 → fpW B G gp x k q → q < w.heap.size
  | 0, q, _, hq => by have e : q = B := hq; rw [e]; exact h.d.lt
  | 1, q, _, hq => by
    rcases hq with e | ⟨col, hc, e⟩
    · rw [e]; exact (h.c 0 (by omega)).lt.1
    · rw [e]; exact (h.c col hc).lt.2
  | 2, q, _, hq => (h.db.lt q hq).2
  | 3, q, _, hq => by obtain ⟨i, hi, e⟩ := hq; exact (h.a i hi).lt e
  | 4, q, _, hq => (h.p.lt q hq).2
  | 5, q, _, hq => (h.t.lt q hq).2
/-- Only part k is written. -/
theorem LAt.step {w w' w0 : World} {B G np k : Nat} {gp : Nat → Nat} {x y : LX} (h : LAt w w0 B G np gp x) (hk : k < 6) (W : Ws (fpW B G gp x k) w w') (hv : ∀ q, fpW B G gp y k q → fpW B G gp x k q ∨ w.heap.size ≤ q) (ho : ∀ j, j ≠ k → ∀ q, fpW B G gp y j q → fpW B G gp x j q) :
    (∀ j q, j < 6 → j ≠ k → fpW B G gp x j q → w'.heap[q]? = w.heap[q]?) ∧ Disj (fpW B G gp y) 6 ∧ (∀ j q, j < 6 → fpW B G gp y j q → B ≤ q) ∧ Below B w0 w' := by
  have hB := h.d.lt
  refine ⟨fun j q hj hjk hq => W.block q (h.flt j q hj hq) (fun z => hjk (h.dj j k q hj hk hq z)), h.dj.upd (fun j q hj hq => h.flt j q hj hq) hv ho, fun j q hj hq => ?_, ⟨W.os.trans h.bl.os, W.tape.trans h.bl.tape, W.output.trans h.bl.output, Nat.le_trans h.bl.size W.size, fun q hq => (W.block q (by omega) (fun z => by have := h.lo k q hk z; omega)).trans (h.bl.block q hq)⟩⟩
  by_cases e : j = k
  · subst e
    rcases hv q hq with z | z
    · exact h.lo j q hj z
    · omega
  · exact h.lo j q hj (ho j e q hq)
theorem LAt.below {w w' w0 : World} {B G np : Nat} {gp : Nat → Nat} {x : LX} (h : LAt w w0 B G np gp x) (hb : Below w.heap.size w w') : LAt w' w0 B G np gp x := by
  have hB := h.d.lt
  have hG := (h.c 0 (by omega)).lt.1
  exact ⟨h.d.below hb, fun col hc => (h.c col hc).keep (hb.block G hG) (hb.block _ (h.c col hc).lt.2), own_keep h.db (fun q _ hl => hb.block q hl), fun i hi => (h.a i hi).keep hb.size (fun q _ hl => hb.block q hl), own_keep h.p (fun q _ hl => hb.block q hl), own_keep h.t (fun q _ hl => hb.block q hl), h.dj, h.lo, h.bl.trans (hb.mono (by omega))⟩
theorem LAt.dice {w w' w0 : World} {B G np : Nat} {gp : Nat → Nat} {x : LX} (h : LAt w w0 B G np gp x) (D : DiceAt w' B) (W : Wr B w w') : LAt w' w0 B G np gp x := by
  obtain ⟨kp, dj, lo, bl⟩ := h.step (y := x) (k := 0) (by omega) (Ws.of_wr W rfl) (fun q z => .inl z) (fun j _ q z => z)
  have hG := (h.c 0 (by omega)).lt.1
  exact ⟨D, fun col hc => (h.c col hc).keep (kp 1 G (by omega) (by omega) (.inl rfl)) (kp 1 _ (by omega) (by omega) (.inr ⟨col, hc, rfl⟩)), own_keep h.db (fun q hq _ => kp 2 q (by omega) (by omega) hq), fun i hi => (h.a i hi).keep W.size (fun q hq _ => kp 3 q (by omega) (by omega) ⟨i, hi, hq⟩), own_keep h.p (fun q hq _ => kp 4 q (by omega) (by omega) hq), own_keep h.t (fun q hq _ => kp 5 q (by omega) (by omega) hq), dj, lo, bl⟩
theorem LAt.ch {w w0 : World} {B G np : Nat} {gp : Nat → Nat} {x : LX} (h : LAt w w0 B G np gp x) : ChAt w G B := ⟨fun col hc => by
  obtain ⟨n, c, pv, h1, h2, h3, h4, h5⟩ := h.c col hc
  refine ⟨gp col, n, c, pv, h1, h2, h3, fun e => ?_, h4, h5⟩
  have := h.dj 1 0 (gp col) (by omega) (by omega) (.inr ⟨col, hc, rfl⟩) e
  omega, fun e => by
  have := h.dj 1 0 G (by omega) (by omega) (.inl rfl) e
  omega⟩
theorem LAt.pairs {w w' w0 : World} {B G np : Nat} {gp : Nat → Nat} {x : LX} (h : LAt w w0 B G np gp x) {v : Value} {n : Nat} (O : w'.ownsRow 0 44 2 v n (pL (fun i => x.fv (64 + i)) n)) (hv : ∀ q, v.ownBlock = some q → x.v17.ownBlock = some q ∨ w.heap.size ≤ q) (W : Ws (fun q => x.v17.ownBlock = some q) w w') : LAt w' w0 B G np gp { x with v17 := v, n17 := n } := by
  obtain ⟨kp, dj, lo, bl⟩ := h.step (y := { x with v17 := v, n17 := n }) (k := 4) (by omega) W hv (fun j hj q z => by
    match j, hj, z with
    | 0, _, z => exact z
    | 1, _, z => exact z
    | 2, _, z => exact z
    | 3, _, z => exact z
    | 4, hj, _ => exact absurd rfl hj
    | 5, _, z => exact z
    | j + 6, _, z => exact z)
  exact ⟨h.d.blk (kp 0 B (by omega) (by omega) rfl), fun col hc => (h.c col hc).keep (kp 1 G (by omega) (by omega) (.inl rfl)) (kp 1 _ (by omega) (by omega) (.inr ⟨col, hc, rfl⟩)), own_keep h.db (fun q hq _ => kp 2 q (by omega) (by omega) hq), fun i hi => (h.a i hi).keep W.size (fun q hq _ => kp 3 q (by omega) (by omega) ⟨i, hi, hq⟩), O, own_keep h.t (fun q hq _ => kp 5 q (by omega) (by omega) hq), dj, lo, bl⟩
theorem LAt.trips {w w' w0 : World} {B G np : Nat} {gp : Nat → Nat} {x : LX} (h : LAt w w0 B G np gp x) {v : Value} {n : Nat} (O : w'.ownsRow 0 47 3 v n (tL (fun i => x.fv (64 + np + i)) n)) (hv : ∀ q, v.ownBlock = some q → x.v18.ownBlock = some q ∨ w.heap.size ≤ q) (W : Ws (fun q => x.v18.ownBlock = some q) w w') : LAt w' w0 B G np gp { x with v18 := v, n18 := n } := by
  obtain ⟨kp, dj, lo, bl⟩ := h.step (y := { x with v18 := v, n18 := n }) (k := 5) (by omega) W hv (fun j hj q z => by
    match j, hj, z with
    | 0, _, z => exact z
    | 1, _, z => exact z
    | 2, _, z => exact z
    | 3, _, z => exact z
    | 4, _, z => exact z
    | 5, hj, _ => exact absurd rfl hj
    | j + 6, _, z => exact z)
  exact ⟨h.d.blk (kp 0 B (by omega) (by omega) rfl), fun col hc => (h.c col hc).keep (kp 1 G (by omega) (by omega) (.inl rfl)) (kp 1 _ (by omega) (by omega) (.inr ⟨col, hc, rfl⟩)), own_keep h.db (fun q hq _ => kp 2 q (by omega) (by omega) hq), fun i hi => (h.a i hi).keep W.size (fun q hq _ => kp 3 q (by omega) (by omega) ⟨i, hi, hq⟩), own_keep h.p (fun q hq _ => kp 4 q (by omega) (by omega) hq), O, dj, lo, bl⟩
end Go.Proofs.Qxb6500880aGreat
