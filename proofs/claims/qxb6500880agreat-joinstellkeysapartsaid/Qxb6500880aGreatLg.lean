import Derived.Deep.CutBlock
import Derived.OwnWalk
import Derived.Maps.AppendAt
import Derived.Maps.OwnSet
import Derived.Maps.OwnOps
import Derived.Laws.ResultCell
import Derived.Test.Qxb6500880aGreatLf
set_option linter.unusedVariables false
set_option linter.unusedSimpArgs false
namespace Go.Proofs.Qxb6500880aGreat
open Go.RowKit

def updF (f : Nat → Nat → Nat) (i : Nat) (x : Nat → Nat) : Nat → Nat → Nat := fun j => if j = i then x else f j
theorem updF_same (f : Nat → Nat → Nat) (i : Nat) (x : Nat → Nat) : updF f i x i = x := if_pos rfl
theorem updF_other (f : Nat → Nat → Nat) {i j : Nat} (x : Nat → Nat) (h : j ≠ i) : updF f i x j = f j := if_neg h
def updA (f : Nat → Value) (i : Nat) (x : Value) : Nat → Value := fun j => if j = i then x else f j
theorem updA_same (f : Nat → Value) (i : Nat) (x : Value) : updA f i x i = x := if_pos rfl
theorem updA_other (f : Nat → Value) {i j : Nat} (x : Value) (h : j ≠ i) : updA f i x j = f j := if_neg h
theorem LAt.setv {w w0 : World} {B G np : Nat} {gp : Nat → Nat} {x : LX} (h : LAt w w0 B G np gp x) (f : Nat → Nat) (h1 : 64 + x.n17 ≤ x.n9) (h2 : x.n18 = 0 ∨ 64 + np + x.n18 ≤ x.n9) : LAt w w0 B G np gp { x with fv := updF x.fv x.n9 f } := by
  refine ⟨h.d, h.c, h.db, fun i hi => ?_, ?_, ?_, h.dj, h.lo, h.bl⟩
  · show ArgAt w (x.av i) (nnN np i) (updF x.fv x.n9 f i)
    rw [updF_other _ _ (by have : i < x.n9 := hi; omega)]
    exact h.a i hi
  · have e : pL (fun i => updF x.fv x.n9 f (64 + i)) x.n17 = pL (fun i => x.fv (64 + i)) x.n17 := pL_congr _ (fun i t hi _ => by rw [updF_other _ _ (by omega)])
    show w.ownsRow 0 44 2 x.v17 x.n17 (pL (fun i => updF x.fv x.n9 f (64 + i)) x.n17)
    rw [e]; exact h.p
  · have e : tL (fun i => updF x.fv x.n9 f (64 + np + i)) x.n18 = tL (fun i => x.fv (64 + np + i)) x.n18 := tL_congr _ (fun i t hi _ => by rw [updF_other _ _ (by omega)])
    show w.ownsRow 0 47 3 x.v18 x.n18 (tL (fun i => updF x.fv x.n9 f (64 + np + i)) x.n18)
    rw [e]; exact h.t
theorem LAt.fact {w w' w0 : World} {B G np : Nat} {gp : Nat → Nat} {x : LX} (h : LAt w w0 B G np gp x) {v a : Value} (O : w'.ownsRow 0 34 2 v (x.n9 + 1) (dbL (fkN np) x.av x.n9 ++ [.string (nmS (fkN np x.n9)), a])) (A : ArgAt w' a (nnN np x.n9) (x.fv x.n9)) (hv : ∀ q, v.ownBlock = some q → x.v9.ownBlock = some q ∨ w.heap.size ≤ q) (ha : ∀ q, a.ownBlock = some q → w.heap.size ≤ q ∧ v.ownBlock ≠ some q) (W : Ws (fun q => x.v9.ownBlock = some q) w w') : LAt w' w0 B G np gp { x with v9 := v, n9 := x.n9 + 1, av := updA x.av x.n9 a } := by
  have hB := h.d.lt
  have kp : ∀ j q, j < 6 → j ≠ 2 → fpW B G gp x j q → w'.heap[q]? = w.heap[q]? := fun j q hj h2 hq => W.block q (h.flt j q hj hq) (fun z => h2 (h.dj j 2 q hj (by omega) hq z))
  have cl : ∀ j q, j < 6 → fpW B G gp { x with v9 := v, n9 := x.n9 + 1, av := updA x.av x.n9 a } j q → fpW B G gp x j q ∨ (w.heap.size ≤ q ∧ ((j = 2 ∧ v.ownBlock = some q) ∨ (j = 3 ∧ a.ownBlock = some q))) := fun j q hj hq => by
    match j, hj, hq with
    | 0, _, z => exact .inl z
    | 1, _, z => exact .inl z
    | 2, _, z =>
      rcases hv q z with y | y
      · exact .inl y
      · exact .inr ⟨y, .inl ⟨rfl, z⟩⟩
    | 3, _, z =>
      obtain ⟨i, hi, e⟩ := z
      have hi : i < x.n9 + 1 := hi
      have e : (updA x.av x.n9 a i).ownBlock = some q := e
      by_cases y : i = x.n9
      · rw [y, updA_same] at e
        exact .inr ⟨(ha q e).1, .inr ⟨rfl, e⟩⟩
      · rw [updA_other _ _ y] at e
        exact .inl ⟨i, by omega, e⟩
    | 4, _, z => exact .inl z
    | 5, _, z => exact .inl z
  refine ⟨h.d.blk (kp 0 B (by omega) (by omega) rfl), fun col hc => (h.c col hc).keep (kp 1 G (by omega) (by omega) (.inl rfl)) (kp 1 _ (by omega) (by omega) (.inr ⟨col, hc, rfl⟩)), ?_, fun i hi => ?_, own_keep h.p (fun q hq _ => kp 4 q (by omega) (by omega) hq), own_keep h.t (fun q hq _ => kp 5 q (by omega) (by omega) hq), fun i j q hi hj h1 h2 => ?_, fun j q hj hq => ?_, ⟨W.os.trans h.bl.os, W.tape.trans h.bl.tape, W.output.trans h.bl.output, Nat.le_trans h.bl.size W.size, fun q hq => (W.block q (by omega) (fun z => by have := h.lo 2 q (by omega) z; omega)).trans (h.bl.block q hq)⟩⟩
  · show w'.ownsRow 0 34 2 v (x.n9 + 1) (dbL (fkN np) (updA x.av x.n9 a) (x.n9 + 1))
    unfold dbL
    rw [updA_same, dbL_congr x.n9 (fun i hi => ⟨rfl, updA_other _ _ (by omega)⟩)]
    exact O
  · show ArgAt w' (updA x.av x.n9 a i) (nnN np i) (x.fv i)
    have hi : i < x.n9 + 1 := hi
    by_cases y : i = x.n9
    · rw [y, updA_same]; exact A
    · rw [updA_other _ _ y]
      exact (h.a i (by omega)).keep W.size (fun q hq _ => kp 3 q (by omega) (by omega) ⟨i, by omega, hq⟩)
  · rcases cl i q hi h1 with z1 | ⟨z1, y1⟩ <;> rcases cl j q hj h2 with z2 | ⟨z2, y2⟩
    · exact h.dj i j q hi hj z1 z2
    · have := h.flt i q hi z1; omega
    · have := h.flt j q hj z2; omega
    · rcases y1 with ⟨a1, b1⟩ | ⟨a1, b1⟩ <;> rcases y2 with ⟨a2, b2⟩ | ⟨a2, b2⟩
      · omega
      · exact absurd b1 (ha q b2).2
      · exact absurd b2 (ha q b1).2
      · omega
  · rcases cl j q hj hq with z | ⟨z, _⟩
    · exact h.lo j q hj z
    · omega
/-- The facts before any pair is drawn. -/
structure DbZ (w w1 : World) (B : Nat) (v : Value) (n : Nat) (av : Nat → Value) : Prop where
  own : w.ownsRow (B + 1) 34 2 v n (dbL (fun _ => 3) av n)
  a : ∀ i, i < n → ArgAt w (av i) 1 (fun _ => i)
  ap : ∀ i q, i < n → (av i).ownBlock = some q → B + 1 ≤ q ∧ v.ownBlock ≠ some q
  bl : Below (B + 1) w1 w
theorem DbZ.below {w w' w1 : World} {B n : Nat} {v : Value} {av : Nat → Value} (h : DbZ w w1 B v n av) (hb : Below w.heap.size w w') (hB : B + 1 ≤ w.heap.size) : DbZ w' w1 B v n av := ⟨own_keep h.own (fun q _ hl => hb.block q hl), fun i hi => (h.a i hi).keep hb.size (fun q _ hl => hb.block q hl), h.ap, h.bl.trans (hb.mono hB)⟩
theorem DbZ.next {w w' w1 : World} {B n : Nat} {v v' a : Value} {av : Nat → Value} (h : DbZ w w1 B v n av) (hB : B + 1 ≤ w.heap.size) (O : w'.ownsRow (B + 1) 34 2 v' (n + 1) (dbL (fun _ => 3) av n ++ [.string (nmS 3), a])) (A : ArgAt w' a 1 (fun _ => n)) (hv : ∀ q, v'.ownBlock = some q → v.ownBlock = some q ∨ w.heap.size ≤ q) (ha : ∀ q, a.ownBlock = some q → w.heap.size ≤ q ∧ v'.ownBlock ≠ some q) (W : Ws (fun q => v.ownBlock = some q) w w') : DbZ w' w1 B v' (n + 1) (updA av n a) := by
  refine ⟨?_, fun i hi => ?_, fun i q hi hq => ?_, ⟨W.os.trans h.bl.os, W.tape.trans h.bl.tape, W.output.trans h.bl.output, Nat.le_trans h.bl.size W.size, fun q hq => (W.block q (by omega) (fun z => by have := (h.own.lt q z).1; omega)).trans (h.bl.block q hq)⟩⟩
  · unfold dbL
    rw [updA_same, dbL_congr n (fun i hi => ⟨rfl, updA_other _ _ (by omega)⟩)]
    exact O
  · by_cases y : i = n
    · rw [y, updA_same]; exact A
    · rw [updA_other _ _ y]
      exact (h.a i (by omega)).keep W.size (fun q hq hl => W.block q hl (fun z => (h.ap i q (by omega) hq).2 z))
  · by_cases y : i = n
    · rw [y, updA_same] at hq
      exact ⟨by have := (ha q hq).1; omega, (ha q hq).2⟩
    · rw [updA_other _ _ y] at hq
      have z := h.ap i q (by omega) hq
      refine ⟨z.1, fun e => ?_⟩
      rcases hv q e with u | u
      · exact z.2 u
      · have := (h.a i (by omega)).lt hq; omega
/-- All is laid for the pairs. -/
theorem DbZ.lat {w w1 w0 : World} {B G np : Nat} {gp : Nat → Nat} {v : Value} {av : Nat → Value} (h : DbZ w w1 B v 64 av) (D : DiceAt w B) (C : ∀ col, col < 3 → PoolAt w G col (gp col)) (hb : Below B w0 w) (hG : B < G) (hv : v.ownBlock ≠ some G ∧ ∀ i, i < 64 → (av i).ownBlock ≠ some G) (hg : ∀ col, col < 3 → B < gp col ∧ v.ownBlock ≠ some (gp col) ∧ ∀ i, i < 64 → (av i).ownBlock ≠ some (gp col)) : LAt w w0 B G np gp ⟨v, 64, fun i _ => i, av, .slice none 0 0, 0, .slice none 0 0, 0⟩ := by
  have e1 : dbL (fkN np) av 64 = dbL (fun _ => 3) av 64 := dbL_congr 64 (fun i hi => ⟨by unfold fkN; rw [if_pos hi], rfl⟩)
  refine ⟨D, C, ?_, fun i hi => ?_, own_nil _ _ _ _, own_nil _ _ _ _, fun i j q hi hj h1 h2 => ?_, fun j q hj hq => ?_, hb⟩
  · show w.ownsRow 0 34 2 v 64 (dbL (fkN np) av 64)
    rw [e1]
    exact own_base h.own (by omega)
  · have hi : i < 64 := hi
    show ArgAt w (av i) (nnN np i) (fun _ => i)
    have e : nnN np i = 1 := by unfold nnN fkN; rw [if_pos hi]; rfl
    rw [e]
    exact h.a i hi
  · have o : ∀ q, v.ownBlock = some q → B < q := fun q hq => by have := (h.own.lt q hq).1; omega
    have cl : ∀ k, k < 6 → fpW B G gp ⟨v, 64, fun i _ => i, av, .slice none 0 0, 0, .slice none 0 0, 0⟩ k q → (k = 0 ∧ q = B) ∨ (k = 1 ∧ (q = G ∨ ∃ col, col < 3 ∧ q = gp col)) ∨ (k = 2 ∧ v.ownBlock = some q) ∨ (k = 3 ∧ ∃ i, i < 64 ∧ (av i).ownBlock = some q) := fun k hk hq => by
      match k, hk, hq with
      | 0, _, z => exact .inl ⟨rfl, z⟩
      | 1, _, z => exact .inr (.inl ⟨rfl, z⟩)
      | 2, _, z => exact .inr (.inr (.inl ⟨rfl, z⟩))
      | 3, _, z => exact .inr (.inr (.inr ⟨rfl, z⟩))
      | 4, _, z => cases z
      | 5, _, z => cases z
    have x01 : q = B → (q = G ∨ ∃ col, col < 3 ∧ q = gp col) → False := fun a b => by
      rcases b with z | ⟨c, hc, z⟩
      · omega
      · have := hg c hc; omega
    have x02 : q = B → v.ownBlock = some q → False := fun a b => by have := o q b; omega
    have x03 : q = B → (∃ i, i < 64 ∧ (av i).ownBlock = some q) → False := fun a ⟨k, hk, z⟩ => by have := (h.ap k q hk z).1; omega
    have x12 : (q = G ∨ ∃ col, col < 3 ∧ q = gp col) → v.ownBlock = some q → False := fun a b => by
      rcases a with z | ⟨c, hc, z⟩
      · exact absurd (z ▸ b) hv.1
      · exact absurd (z ▸ b) (hg c hc).2.1
    have x13 : (q = G ∨ ∃ col, col < 3 ∧ q = gp col) → (∃ i, i < 64 ∧ (av i).ownBlock = some q) → False := fun a ⟨k, hk, y⟩ => by
      rcases a with z | ⟨c, hc, z⟩
      · exact absurd (z ▸ y) (hv.2 k hk)
      · exact absurd (z ▸ y) ((hg c hc).2.2 k hk)
    have x23 : v.ownBlock = some q → (∃ i, i < 64 ∧ (av i).ownBlock = some q) → False := fun a ⟨k, hk, y⟩ => absurd a (h.ap k q hk y).2
    rcases cl i hi h1 with ⟨a1, b1⟩ | ⟨a1, b1⟩ | ⟨a1, b1⟩ | ⟨a1, b1⟩ <;> rcases cl j hj h2 with ⟨a2, b2⟩ | ⟨a2, b2⟩ | ⟨a2, b2⟩ | ⟨a2, b2⟩
    · omega
    · exact (x01 b1 b2).elim
    · exact (x02 b1 b2).elim
    · exact (x03 b1 b2).elim
    · exact (x01 b2 b1).elim
    · omega
    · exact (x12 b1 b2).elim
    · exact (x13 b1 b2).elim
    · exact (x02 b2 b1).elim
    · exact (x12 b2 b1).elim
    · omega
    · exact (x23 b1 b2).elim
    · exact (x03 b2 b1).elim
    · exact (x13 b2 b1).elim
    · exact (x23 b2 b1).elim
    · omega
  · match j, hj, hq with
    | 0, _, z => have z : q = B := z; omega
    | 1, _, z =>
      rcases z with z | ⟨c, hc, z⟩
      · omega
      · have := hg c hc; omega
    | 2, _, z => have := (h.own.lt q z).1; omega
    | 3, _, z => obtain ⟨k, hk, y⟩ := z; have := (h.ap k q hk y).1; omega
    | 4, _, z => cases z
    | 5, _, z => cases z
theorem info34 : (Tryz.prog.info? 34).map (fun i => (i.zero, i.size, i.bytes)) = some (some (.agg #[.string ByteArray.empty, .slice none 0 0]), 2, 40) := by kernel_rfl
theorem info44 : (Tryz.prog.info? 44).map (fun i => (i.zero, i.size, i.bytes)) = some (some (.agg #[.int .i64 0, .int .i64 0]), 2, 16) := by kernel_rfl
theorem info47 : (Tryz.prog.info? 47).map (fun i => (i.zero, i.size, i.bytes)) = some (some (.agg #[.int .i64 0, .int .i64 0, .int .i64 0]), 3, 24) := by kernel_rfl
theorem new_at2 (w : World) (o : Obj) (a0 a1 : Value) (ty : TypeId) : ∀ j u, ([a0, a1] : List Value)[j]? = some u → ((w.alloc o).alloc (.cells #[a0, a1] ty)).cell? ((⟨w.heap.size + 1, 0, none⟩ : Addr).add j) = some u := by
  have h := cell_newL2 (w.alloc o) a0 a1 ty
  have e : (w.alloc o).heap.size = w.heap.size + 1 := by simp
  rw [e] at h
  exact h
/-- What an append behind two new blocks leaves. -/
theorem fact_frame {w2 w4 w5 : World} {cs : Array Value} {v v' : Value} {n4 : Nat} (h4 : ∀ q, q ≤ w2.heap.size → w4.heap[q]? = (w2.alloc (.cells cs 26)).heap[q]?) (b4 : Below w2.heap.size w2 w4) (hn : w2.heap.size < n4 ∧ w4.heap.size = n4) (hg : w4.grownBy w5 v.ownBlock) (hb : v'.ownBlock = v.ownBlock ∨ v'.ownBlock = some n4) (hl : ∀ q, v.ownBlock = some q → q < w2.heap.size) :
    Ws (fun q => v.ownBlock = some q) w2 w5 ∧ w5.heap[w2.heap.size]? = (w2.alloc (.cells cs 26)).heap[w2.heap.size]? ∧ w2.heap.size < w5.heap.size ∧ (∀ q, v'.ownBlock = some q → v.ownBlock = some q ∨ w2.heap.size ≤ q) ∧ v'.ownBlock ≠ some w2.heap.size := by
  have hs := hg.size
  refine ⟨(Ws.of_below b4).grow hg (fun q hq => .inl hq), (hg.block _ (by omega) (fun e => by have := hl _ e.symm; omega)).trans (h4 _ (Nat.le_refl _)), by omega, fun q hq => ?_, fun e => ?_⟩
  · rcases hb with z | z
    · exact .inl (z ▸ hq)
    · rw [z] at hq
      have := Option.some.inj hq
      exact .inr (by omega)
  · rcases hb with z | z
    · have := hl _ (z ▸ e); omega
    · rw [z] at e
      have := Option.some.inj e
      omega
theorem arg_new {w2 w5 : World} {cs : Array Value} {n : Nat} {f : Nat → Nat} (e5 : w5.heap[w2.heap.size]? = (w2.alloc (.cells cs 26)).heap[w2.heap.size]?) (hs : w2.heap.size < w5.heap.size) (hc : ∀ j, j < n → cs[j * 4]? = some (.int .u8 1) ∧ cs[j * 4 + 1]? = some (.int .i64 0) ∧ cs[j * 4 + 2]? = some (.int .i64 (f j : Int)) ∧ cs[j * 4 + 3]? = some (.string ByteArray.empty)) : ArgAt w5 (.slice (some ⟨w2.heap.size, 0, none⟩) n n) n f :=
  ⟨w2.heap.size, rfl, hs, fun j hj => ⟨(World.cell?_of_block (a := ⟨w2.heap.size, j * 4, none⟩) e5).trans ((new_cell rfl _ _ _).trans (hc j hj).1), (World.cell?_of_block (a := ⟨w2.heap.size, j * 4 + 1, none⟩) e5).trans ((new_cell rfl _ _ _).trans (hc j hj).2.1), (World.cell?_of_block (a := ⟨w2.heap.size, j * 4 + 2, none⟩) e5).trans ((new_cell rfl _ _ _).trans (hc j hj).2.2.1), (World.cell?_of_block (a := ⟨w2.heap.size, j * 4 + 3, none⟩) e5).trans ((new_cell rfl _ _ _).trans (hc j hj).2.2.2)⟩⟩
theorem DbZ.move {w w' w1 : World} {B n : Nat} {v : Value} {av : Nat → Value} (h : DbZ w w1 B v n av) (hs : w.heap.size ≤ w'.heap.size) (hk : ∀ q, B + 1 ≤ q → q < w.heap.size → w'.heap[q]? = w.heap[q]?) : DbZ w' w' B v n av :=
  ⟨own_keep h.own (fun q hq hl => hk q (h.own.lt q hq).1 hl), fun i hi => (h.a i hi).keep hs (fun q hq hl => hk q (h.ap i q hi hq).1 hl), h.ap, Below.refl _ _⟩
theorem DbZ.lts {w w1 : World} {B n : Nat} {v : Value} {av : Nat → Value} (h : DbZ w w1 B v n av) : (∀ q, v.ownBlock = some q → q < w.heap.size) ∧ ∀ i q, i < n → (av i).ownBlock = some q → q < w.heap.size := ⟨fun q hq => (h.own.lt q hq).2, fun i q hi hq => (h.a i hi).lt hq⟩
/-- The pools: those of the first col columns are drawn. -/
structure ChS (w3 wr : World) (B G col : Nat) (gp : Nat → Nat) : Prop where
  d : DiceAt wr B
  p : ∀ c, c < col → PoolAt wr G c (gp c) ∧ G < gp c
  z : ∀ c, col ≤ c → c < 3 → wr.cell? ⟨G, c, none⟩ = some (.slice none 0 0)
  fz : ∀ o, wr.frozen? ⟨G, o, none⟩ = false
  W : Ws (fun q => q = B ∨ q = G) w3 wr
theorem ChS.dice {w3 wr w4 : World} {B G col : Nat} {gp : Nat → Nat} (h : ChS w3 wr B G col gp) (D : DiceAt w4 B) (W : Wr B wr w4) (hBG : B < G) (hG : G < wr.heap.size) : ChS w3 w4 B G col gp := by
  have eG := W.block G hG (by omega)
  exact ⟨D, fun c hc => ⟨(h.p c hc).1.keep eG (W.block _ (h.p c hc).1.lt.2 (by have := (h.p c hc).2; omega)), (h.p c hc).2⟩, fun c h1 h2 => (World.cell?_of_block (a := ⟨G, c, none⟩) eG).trans (h.z c h1 h2), fun o => (World.frozen?_of_block (a := ⟨G, o, none⟩) eG).trans (h.fz o), h.W.trans (Ws.of_wr W (.inl rfl))⟩
/-- One pool while it is drawn. -/
structure ChI (w4 wr : World) (B G col j : Nat) (v : Value) (pv : Nat → Nat) : Prop where
  c : wr.cell? ⟨G, col, none⟩ = some v
  o : wr.ownsRow w4.heap.size 3 1 v j (intF pv j)
  b : ∀ i, i < j → pv i < 64
  d : DiceAt wr B
  fz : ∀ o, wr.frozen? ⟨G, o, none⟩ = false
  k : ∀ c, c ≠ col → wr.cell? ⟨G, c, none⟩ = w4.cell? ⟨G, c, none⟩
  W : Ws (fun q => q = B ∨ q = G) w4 wr
theorem ChI.next {w4 wr w5 w7 : World} {B G col j x : Nat} {v v' : Value} {pv : Nat → Nat} (h : ChI w4 wr B G col j v pv) (D : DiceAt w5 B) (W5 : Wr B wr w5) (hBG : B < G) (hG : G < w4.heap.size) (hx : x < 64) (hg : (w5.alloc (.cells #[.int .i64 (x : Int)] 3)).grownBy w7 v.ownBlock) (O : w7.ownsRow w4.heap.size 3 1 v' (j + 1) (intF pv j ++ [.int .i64 (x : Int)])) (hv : ∀ q, v'.ownBlock = some q → q ≠ G) : ChI w4 (w7.setCell ⟨G, col, none⟩ v') B G col (j + 1) v' (updN pv j x) := by
  have hs4 := h.W.size
  have hs5 := W5.size
  have bN := one_alloc w5 (.cells #[.int .i64 (x : Int)] 3)
  have hs7 := hg.size
  have hsN := bN.size
  have nr : ∀ q, q < w4.heap.size → ¬ some q = v.ownBlock := fun q hq e => by have := (h.o.lt q e.symm).1; omega
  have e7 : ∀ q, q < w4.heap.size → q ≠ B → w7.heap[q]? = wr.heap[q]? := fun q h1 h2 => (hg.block q (by omega) (nr q h1)).trans ((bN.block q (by omega)).trans (W5.block q (by omega) h2))
  have eB : w7.heap[B]? = w5.heap[B]? := (hg.block B (by omega) (nr B (by omega))).trans (bN.block B (by omega))
  have eG := e7 G hG (by omega)
  have hBn : B ≠ G := by omega
  have e1 : intF (updN pv j x) (j + 1) = intF pv j ++ [.int .i64 (x : Int)] := by
    rw [intF_succ, updN_same, intF_congr (fun i hi => updN_other pv x (by omega))]
  refine ⟨World.cell?_setCell_same _ _ _ ((World.cell?_of_block (a := ⟨G, col, none⟩) eG).trans h.c), by rw [e1]; exact own_keep O (fun q hq _ => far_set (hv q hq)), fun i hi => ?_, D.blk ((far_set hBn).trans eB), fun o => (World.frozen?_setCell _ _ _ _).trans ((World.frozen?_of_block (a := ⟨G, o, none⟩) eG).trans (h.fz o)), fun c hc => (World.cell?_setCell_other _ _ _ _ (by simp <;> omega)).trans ((World.cell?_of_block (a := ⟨G, c, none⟩) eG).trans (h.k c hc)), ?_⟩
  · by_cases q : i = j
    · rw [q, updN_same]; exact hx
    · rw [updN_other pv x q]; exact h.b i (by omega)
  · refine ⟨hg.os.trans (bN.os.trans (W5.os.trans h.W.os)), hg.tape.trans (bN.tape.trans (W5.tape.trans h.W.tape)), hg.output.trans (bN.output.trans (W5.output.trans h.W.output)), by simp; omega, fun q h1 h2 => ?_⟩
    have h2a : q ≠ B := fun e => h2 (.inl e)
    have h2b : q ≠ G := fun e => h2 (.inr e)
    exact (far_set h2b).trans ((e7 q h1 h2a).trans (h.W.block q h1 h2))
/-- A pool is drawn. -/
theorem ChI.done {w3 w4 wr : World} {B G col j : Nat} {v : Value} {pv gp : Nat → Nat} (h : ChI w4 wr B G col j v pv) (H : ChS w3 w4 B G col gp) (hj : 0 < j) (hj4 : j ≤ 4) (hc : col < 3) (hBG : B < G) (hG : G < w4.heap.size) : ∃ g, ChS w3 wr B G (col + 1) (updN gp col g) := by
  obtain ⟨g, c, ev, hcc, hg, hgl, hcl, hfz⟩ := own_full h.o hj
  have hC := h.c
  rw [ev] at hC
  refine ⟨g, h.d, fun c' hc' => ?_, fun c' h1 h2 => (h.k c' (by omega)).trans (H.z c' (by omega) h2), h.fz, H.W.trans h.W⟩
  by_cases q : c' = col
  · rw [q, updN_same]
    exact ⟨⟨j, c, pv, hC, hj, hj4, h.b, fun i hi => (hcl i (by omega)).trans (intF_get hi)⟩, by omega⟩
  · rw [updN_other gp g q]
    obtain ⟨P, hp⟩ := H.p c' (by omega)
    refine ⟨?_, hp⟩
    obtain ⟨n', k', pv', a1, a2, a3, a4, a5⟩ := P
    refine ⟨n', k', pv', (h.k c' q).trans a1, a2, a3, a4, fun i hi => ?_⟩
    have hl5 : gp c' < w4.heap.size := World.block_lt_of_cell? _ _ (a5 i hi)
    exact (World.cell?_of_block (a := ⟨gp c', i, none⟩) (h.W.block (gp c') hl5 (fun e => by omega))).trans (a5 i hi)
theorem num_x {w : World} {x : Nat} (hx : x ≤ 1000) :
    Calls Tryz.prog 5 #[.int .i64 (x : Int)] w fun e w' => e = .returned (.agg #[.int .u8 1, .int .i64 0, .int .i64 (x : Int), .string ByteArray.empty]) ∧ Below w.heap.size w w' := num_any hx
/-- From the pools to the pairs. -/
theorem ChS.lat {wa w1 w3 wr w7 wk : World} {B G np : Nat} {gp : Nat → Nat} {v : Value} {av : Nat → Value} (Z : DbZ wa w1 B v 64 av) (hG : wa.heap.size = G) (b3 : Below G wa w3) (CS : ChS w3 wr B G 3 gp) (W : Ws (fun q => q = B) wr w7) (D : DiceAt w7 B) (bka : Below B wk wa) (hBG : B < G) (hG3 : G < w3.heap.size) : LAt w7 wk B G np gp ⟨v, 64, fun i _ => i, av, .slice none 0 0, 0, .slice none 0 0, 0⟩ := by
  have hs3 := CS.W.size
  have hs7 := W.size
  have kk : ∀ q, q < G → q ≠ B → w7.heap[q]? = wa.heap[q]? := fun q h1 h2 => (W.block q (by omega) h2).trans ((CS.W.block q (by omega) (fun e => by omega)).trans (b3.block q h1))
  have Z7 : DbZ w7 w7 B v 64 av := Z.move (by omega) (fun q h1 h2 => kk q (by omega) (by omega))
  have eG : w7.heap[G]? = wr.heap[G]? := W.block G (by omega) (by omega)
  have lts := Z.lts
  refine Z7.lat D (fun col hc => (CS.p col hc).1.keep eG (W.block _ (CS.p col hc).1.lt.2 (by have := (CS.p col hc).2; omega))) ?_ hBG ⟨fun e => by have := lts.1 _ e; omega, fun i hi e => by have := lts.2 i _ hi e; omega⟩ (fun col hc => ?_)
  · exact ⟨W.os.trans (CS.W.os.trans (b3.os.trans bka.os)), W.tape.trans (CS.W.tape.trans (b3.tape.trans bka.tape)), W.output.trans (CS.W.output.trans (b3.output.trans bka.output)), by have := bka.size; omega, fun q hq => (kk q (by omega) (by omega)).trans (bka.block q hq)⟩
  · have hp := (CS.p col hc).2
    exact ⟨by omega, fun e => by have := lts.1 _ e; omega, fun i hi e => by have := lts.2 i _ hi e; omega⟩
/-- The drawn values are fit. -/
structure VOk (np : Nat) (x : LX) : Prop where
  n0 : ∀ i, i < 64 → x.fv i 0 = i
  v : ∀ i t, i < x.n9 → t < nnN np i → x.fv i t < 64
theorem VOk.start (np : Nat) (v : Value) (av : Nat → Value) : VOk np ⟨v, 64, fun i _ => i, av, .slice none 0 0, 0, .slice none 0 0, 0⟩ := ⟨fun i _ => rfl, fun i t hi _ => hi⟩
theorem VOk.next {np : Nat} {x : LX} (h : VOk np x) (h9 : 64 ≤ x.n9) {f : Nat → Nat} (hf : ∀ t, f t < 64) {v9 v17 v18 : Value} {n17 n18 : Nat} {av : Nat → Value} : VOk np ⟨v9, x.n9 + 1, updF x.fv x.n9 f, av, v17, n17, v18, n18⟩ := ⟨fun i hi => by
  show updF x.fv x.n9 f i 0 = i
  rw [updF_other _ _ (by omega)]; exact h.n0 i hi, fun i t hi ht => by
  show updF x.fv x.n9 f i t < 64
  have hi : i < x.n9 + 1 := hi
  by_cases q : i = x.n9
  · rw [q, updF_same]; exact hf t
  · rw [updF_other _ _ q]; exact h.v i t (by omega) ht⟩
def two (a b : Nat) (t : Nat) : Nat := if t = 0 then a else b
def three (a b c : Nat) (t : Nat) : Nat := if t = 0 then a else if t = 1 then b else c
theorem two_lt {a b : Nat} (ha : a < 64) (hb : b < 64) (t : Nat) : two a b t < 64 := by unfold two; split <;> omega
theorem three_lt {a b c : Nat} (ha : a < 64) (hb : b < 64) (hc : c < 64) (t : Nat) : three a b c t < 64 := by unfold three; split; omega; split <;> omega
end Go.Proofs.Qxb6500880aGreat
