import Derived.Test.Qxb6500877aGreatDoorNPd
import Derived.Test.Qxb6500877aGreatDoorNPe
import Derived.Test.Qxb6500877aGreatDoorNPf
set_option linter.unusedVariables false
set_option linter.unusedSimpArgs false
namespace Go.Proofs.Qxb6500877aGreatDoor
open Go.RowKit

/-- The places of the law's own things. -/
structure LP (n0 B mb base Sb Gb mc : Nat) : Prop where
  two : 2 < n0
  lo : n0 ≤ B ∧ n0 ≤ mb ∧ n0 ≤ Sb ∧ n0 ≤ Gb ∧ n0 ≤ mc
  hi : B < base ∧ mb < base ∧ Sb < base ∧ Gb < base ∧ mc < base
  ne : Sb ≠ B ∧ Sb ≠ mb ∧ Gb ≠ B ∧ Gb ≠ mb ∧ mc ≠ B ∧ mc ≠ mb ∧ mc ≠ Sb ∧ mc ≠ Gb ∧ Sb ≠ Gb
/-- Where the law stands. -/
structure LS (n0 : Nat) (w0 w : World) (B mb t k : Nat) (ν : Net) (base Sb Gb mc : Nat) (S : Nat → List MsgV) (g : Nat → Nat) : Prop where
  m : Mach w B mb t k ν
  n : NetL ν S g
  r : ∃ V, Rws w base Sb Gb V (rowsOf S g)
  c : w.cell? ⟨mc, 0, none⟩ = some (.pointer (some ⟨B, 0, none⟩))
  b : Below n0 w0 w
  hb : base ≤ w.heap.size
theorem LP.n0 {n0 B mb base Sb Gb mc : Nat} (P : LP n0 B mb base Sb Gb mc) : n0 ≤ base := by have := P.lo; have := P.hi; omega
theorem LS.len {n0 : Nat} {w0 w : World} {B mb t k : Nat} {ν : Net} {base Sb Gb mc : Nat} {S : Nat → List MsgV} {g : Nat → Nat} (H : LS n0 w0 w B mb t k ν base Sb Gb mc S g) {i : Nat} (hi : i < 16) : (S i).length ≤ k := by
  have h1 := H.n.acc i hi
  have h2 := (H.m.net.2 i hi).acc.2
  omega
theorem LS.below {n0 : Nat} {w0 w w' : World} {B mb t k : Nat} {ν : Net} {base Sb Gb mc : Nat} {S : Nat → List MsgV} {g : Nat → Nat} (H : LS n0 w0 w B mb t k ν base Sb Gb mc S g) (P : LP n0 B mb base Sb Gb mc) (hb : Below w.heap.size w w') : LS n0 w0 w' B mb t k ν base Sb Gb mc S g := by
  obtain ⟨V, R⟩ := H.r
  have h0 := P.n0
  have h1 := H.hb
  have h2 := hb.size
  exact ⟨H.m.below hb, H.n, ⟨V, R.below hb⟩, (World.cell?_of_block (a := ⟨mc, 0, none⟩) (hb.block mc (World.block_lt_of_cell? _ _ H.c))).trans H.c, below_to H.b hb (by omega), by omega⟩
theorem LS.drew {n0 : Nat} {w0 w : World} {B mb t k : Nat} {ν : Net} {base Sb Gb mc : Nat} {S : Nat → List MsgV} {g : Nat → Nat} (H : LS n0 w0 w B mb t k ν base Sb Gb mc S g) : LS n0 w0 w.drew B mb t k ν base Sb Gb mc S g := by
  obtain ⟨V, R⟩ := H.r
  exact ⟨H.m.drew, H.n, ⟨V, R.drew⟩, H.c, ⟨H.b.os, H.b.tape, H.b.output, H.b.size, H.b.block⟩, H.hb⟩
theorem LS.mono {n0 : Nat} {w0 w : World} {B mb t k k' : Nat} {ν : Net} {base Sb Gb mc : Nat} {S : Nat → List MsgV} {g : Nat → Nat} (H : LS n0 w0 w B mb t k ν base Sb Gb mc S g) (hk : k ≤ k') : LS n0 w0 w B mb t k' ν base Sb Gb mc S g := ⟨H.m.mono hk, H.n, H.r, H.c, H.b, H.hb⟩
/-- A step of the machine, seen from the law: the net may have turned. -/
theorem LS.step {n0 : Nat} {w0 w w' : World} {B mb t k t' k' : Nat} {ν ν' : Net} {base Sb Gb mc : Nat} {S : Nat → List MsgV} {g : Nat → Nat} (H : LS n0 w0 w B mb t k ν base Sb Gb mc S g) (P : LP n0 B mb base Sb Gb mc) (D : Done w w' B mb t' k' ν') :
    Mach w' B mb t' k' ν' ∧ (∀ V, Rws w base Sb Gb V (rowsOf S g) → Rws w' base Sb Gb V (rowsOf S g)) ∧ w'.cell? ⟨mc, 0, none⟩ = some (.pointer (some ⟨B, 0, none⟩)) ∧ Below n0 w0 w' ∧ base ≤ w'.heap.size := by
  have h0 := P.n0
  have h1 := H.hb
  have h2 := D.f.size
  obtain ⟨_, p1, p2, p3⟩ := P
  refine ⟨D.m, fun V R => R.done D (by omega) (by omega), ?_, below_done H.b D (by omega) (by omega) (by omega), by omega⟩
  exact (World.cell?_of_block (a := ⟨mc, 0, none⟩) (D.f.block mc (World.block_lt_of_cell? _ _ H.c) (by omega) (by omega))).trans H.c
/-- The cells of a result that the law reads. -/
structure RcAt (w : World) (b : Nat) (z co : Int) (hm : Bool) (m : MsgV) : Prop where
  c0 : w.cell? ⟨b, 0, none⟩ = some (.int .i64 z)
  c1 : w.cell? ⟨b, 1, none⟩ = some (.int .i64 co)
  c4 : w.cell? ⟨b, 4, none⟩ = some (.bool hm)
  m0 : w.cell? ⟨b, 5, none⟩ = some (.int .i64 m.mf)
  m1 : w.cell? ⟨b, 6, none⟩ = some (.int .i64 m.mt)
  m2 : w.cell? ⟨b, 7, none⟩ = some (.int .u32 m.md)
  m3 : w.cell? ⟨b, 8, none⟩ = some (.int .u64 m.mq)
  m4 : w.cell? ⟨b, 9, none⟩ = some (.int .u64 m.ma)
  m5 : w.cell? ⟨b, 10, none⟩ = some (.int .u64 m.x0)
  m6 : w.cell? ⟨b, 11, none⟩ = some (.int .u64 m.x1)
  m7 : w.cell? ⟨b, 12, none⟩ = some (.int .u64 m.x2)
  m8 : w.cell? ⟨b, 13, none⟩ = some (.int .u64 m.x3)
theorem RcAt.blk {w w' : World} {b : Nat} {z co : Int} {hm : Bool} {m : MsgV} (h : RcAt w b z co hm m) (e : w'.heap[b]? = w.heap[b]?) : RcAt w' b z co hm m :=
  ⟨(World.cell?_of_block (a := ⟨b, 0, none⟩) e).trans h.c0, (World.cell?_of_block (a := ⟨b, 1, none⟩) e).trans h.c1, (World.cell?_of_block (a := ⟨b, 4, none⟩) e).trans h.c4, (World.cell?_of_block (a := ⟨b, 5, none⟩) e).trans h.m0, (World.cell?_of_block (a := ⟨b, 6, none⟩) e).trans h.m1, (World.cell?_of_block (a := ⟨b, 7, none⟩) e).trans h.m2, (World.cell?_of_block (a := ⟨b, 8, none⟩) e).trans h.m3, (World.cell?_of_block (a := ⟨b, 9, none⟩) e).trans h.m4, (World.cell?_of_block (a := ⟨b, 10, none⟩) e).trans h.m5, (World.cell?_of_block (a := ⟨b, 11, none⟩) e).trans h.m6, (World.cell?_of_block (a := ⟨b, 12, none⟩) e).trans h.m7, (World.cell?_of_block (a := ⟨b, 13, none⟩) e).trans h.m8⟩
theorem RcAt.lt {w : World} {b : Nat} {z co : Int} {hm : Bool} {m : MsgV} (h : RcAt w b z co hm m) : b < w.heap.size := World.block_lt_of_cell? _ _ h.c0
theorem rc_new (w : World) (z co tk tm : Int) (hm : Bool) (m : MsgV) (p : Option Addr) (a n : Nat) (t : TypeId) : RcAt (w.alloc (.cells #[.int .i64 z, .int .i64 co, .int .i64 tk, .int .u64 tm, .bool hm, .int .i64 m.mf, .int .i64 m.mt, .int .u32 m.md, .int .u64 m.mq, .int .u64 m.ma, .int .u64 m.x0, .int .u64 m.x1, .int .u64 m.x2, .int .u64 m.x3, .slice p a n] t)) w.heap.size z co hm m := by
  refine ⟨?_, ?_, ?_, ?_, ?_, ?_, ?_, ?_, ?_, ?_, ?_, ?_⟩ <;> simp
theorem info40 : (Tryz.prog.info? 40).map (fun i => (i.zero, i.size, i.bytes)) = some (some (.agg #[.int .i64 0, .int .i64 0, .int .u32 0, .int .u64 0, .int .u64 0, .int .u64 0, .int .u64 0, .int .u64 0, .int .u64 0]), 9, 72) := by kernel_rfl
theorem cell_nine_new (w : World) (m : MsgV) (t : TypeId) : ∀ j u, (msg9 m)[j]? = some u → (w.alloc (.cells #[.int .i64 m.mf, .int .i64 m.mt, .int .u32 m.md, .int .u64 m.mq, .int .u64 m.ma, .int .u64 m.x0, .int .u64 m.x1, .int .u64 m.x2, .int .u64 m.x3] t)).cell? ((⟨w.heap.size, 0, none⟩ : Addr).add j) = some u := by
  intro j u hj
  unfold msg9 at hj
  match j, hj with
  | 0, hj => simp at hj; subst hj; simp [Addr.add]
  | 1, hj => simp at hj; subst hj; simp [Addr.add]
  | 2, hj => simp at hj; subst hj; simp [Addr.add]
  | 3, hj => simp at hj; subst hj; simp [Addr.add]
  | 4, hj => simp at hj; subst hj; simp [Addr.add]
  | 5, hj => simp at hj; subst hj; simp [Addr.add]
  | 6, hj => simp at hj; subst hj; simp [Addr.add]
  | 7, hj => simp at hj; subst hj; simp [Addr.add]
  | 8, hj => simp at hj; subst hj; simp [Addr.add]
  | j + 9, hj => simp at hj
theorem msg9_one (m : MsgV) : ∀ x ∈ msg9 m, x.oneCell' = true := by
  intro x hx
  unfold msg9 at hx
  simp at hx
  rcases hx with rfl | rfl | rfl | rfl | rfl | rfl | rfl | rfl | rfl <;> rfl
theorem ite_take {c : Prop} [Decidable c] {A B : Prop} (h : c) (ha : A) : if c then A else B := by rw [if_pos h]; exact ha
theorem own_shape {w : World} {base e size n : Nat} {v : Value} {xs : List Value} (h : w.ownsRow base e size v n xs) : ∃ p c, v = .slice p n c := by
  rcases h.2 with ⟨e1, e2⟩ | ⟨g, cap, cur, e1, _⟩
  · exact ⟨none, 0, by rw [e1, e2]⟩
  · exact ⟨_, _, e1⟩
theorem Mach.blocks {w w' : World} {B mb t k : Nat} {ν : Net} (h : Mach w B mb t k ν) (hk : ∀ q, q ≤ 2 ∨ q = B ∨ q = mb → w'.heap[q]? = w.heap[q]?) : Mach w' B mb t k ν := by
  have eB := hk B (by omega)
  have em := hk mb (by omega)
  have e0 := hk 0 (by omega)
  have e2 := hk 2 (by omega)
  have cB : ∀ o, w'.cell? ⟨B, o, none⟩ = w.cell? ⟨B, o, none⟩ := fun o => World.cell?_of_block (a := ⟨B, o, none⟩) eB
  have fB : ∀ o, w'.frozen? ⟨B, o, none⟩ = w.frozen? ⟨B, o, none⟩ := fun o => World.frozen?_of_block (a := ⟨B, o, none⟩) eB
  have c0 : ∀ o, w'.cell? ⟨0, o, none⟩ = w.cell? ⟨0, o, none⟩ := fun o => World.cell?_of_block (a := ⟨0, o, none⟩) e0
  have c2 : ∀ o, w'.cell? ⟨2, o, none⟩ = w.cell? ⟨2, o, none⟩ := fun o => World.cell?_of_block (a := ⟨2, o, none⟩) e2
  obtain ⟨s, L, fr, f, T, I, q1, q2⟩ := h.tim
  obtain ⟨N, K⟩ := h.net
  obtain ⟨c, C, O⟩ := h.sch
  have hv := h.vac
  refine ⟨by rw [cB]; exact h.clk, h.tlt, ⟨s, L, fr, f, ⟨T.wh.same eB, T.mp.block (by rw [q2]; exact em), T.ne⟩, I, q1, q2⟩, ⟨⟨fun o ho => by rw [cB]; exact N.cell o ho, fun o => by rw [fB]; exact N.frz o⟩, K⟩, ⟨c, ⟨fun o ho => by rw [cB]; exact C.cell o ho, fun o => by rw [fB]; exact C.frz o⟩, O⟩, fun j hj => by rw [cB]; exact h.sts j hj, by rw [cB]; exact h.snk, ?_, fun k hk => by rw [c2]; exact h.tab k hk, h.hB, h.hm⟩
  exact ⟨by rw [c0]; exact hv.v0, by rw [c0]; exact hv.v1, by rw [c0]; exact hv.v2, by rw [c0]; exact hv.v3, by rw [c0]; exact hv.v4⟩
theorem pushed_block {wr w3 : World} {ob : Obj} {row : Option Nat} {A : Addr} {v' : Value} {q : Nat} (hg : ((World.drew wr).alloc ob).grownBy w3 row) (h1 : q < wr.heap.size) (h2 : some q ≠ row) (h3 : A.block ≠ q) : (w3.setCell A v').heap[q]? = wr.heap[q]? := by
  have e1 : (w3.setCell A v').heap[q]? = w3.heap[q]? := heap_set h3
  have hs : ((World.drew wr).alloc ob).heap.size = wr.heap.size + 1 := by
    show ((World.drew wr).alloc ob).heap.size = (World.drew wr).heap.size + 1
    simp
  have e2 : w3.heap[q]? = ((World.drew wr).alloc ob).heap[q]? := hg.block q (by omega) h2
  exact e1.trans (e2.trans ((one_alloc (World.drew wr) ob).block q h1))
theorem pushed_frozen {wr w3 : World} {ob : Obj} {row : Option Nat} {q : Nat} (hg : ((World.drew wr).alloc ob).grownBy w3 row) (h1 : q < wr.heap.size) (h2 : some q ≠ row) (o : Nat) : w3.frozen? ⟨q, o, none⟩ = wr.frozen? ⟨q, o, none⟩ := by
  have hs : ((World.drew wr).alloc ob).heap.size = wr.heap.size + 1 := by
    show ((World.drew wr).alloc ob).heap.size = (World.drew wr).heap.size + 1
    simp
  have e2 : w3.heap[q]? = wr.heap[q]? := (hg.block q (by omega) h2).trans ((one_alloc (World.drew wr) ob).block q h1)
  exact World.frozen?_of_block (a := ⟨q, o, none⟩) e2
/-- What a law lays behind one of its rows leaves the machine and the law's other things as they were. -/
theorem pushed {n0 : Nat} {w0 wr w3 : World} {B mb t k : Nat} {ν : Net} {base Sb Gb mc r : Nat} {V : Nat → Value} {L : Nat → List MsgV} {mm : MsgV} {ob : Obj} {v' : Value} (P : LP n0 B mb base Sb Gb mc) (M : Mach wr B mb t k ν) (R : Rws wr base Sb Gb V L) (hc : wr.cell? ⟨mc, 0, none⟩ = some (.pointer (some ⟨B, 0, none⟩))) (hb : Below n0 w0 wr) (hs : base ≤ wr.heap.size) (hr : r < 32)
    (ho : w3.ownsRow base 40 9 v' ((L r).length + 1) (msgCells (L r) ++ msg9 mm)) (hg : ((World.drew wr).alloc ob).grownBy w3 (V r).ownBlock) (hk : v'.ownBlock = (V r).ownBlock ∨ v'.ownBlock = some ((World.drew wr).alloc ob).heap.size) :
    Mach (w3.setCell (rowA Sb Gb r) v') B mb t k ν ∧ Rws (w3.setCell (rowA Sb Gb r) v') base Sb Gb (upd V r v') (upd L r (L r ++ [mm])) ∧ (w3.setCell (rowA Sb Gb r) v').cell? ⟨mc, 0, none⟩ = some (.pointer (some ⟨B, 0, none⟩)) ∧ Below n0 w0 (w3.setCell (rowA Sb Gb r) v') ∧ base ≤ (w3.setCell (rowA Sb Gb r) v').heap.size ∧ (∀ q, base ≤ q → q < wr.heap.size → (∀ s, s < 32 → (V s).ownBlock ≠ some q) → (w3.setCell (rowA Sb Gb r) v').heap[q]? = wr.heap[q]? ∧ ∀ s, s < 32 → (upd V r v' s).ownBlock ≠ some q) ∧ wr.heap.size ≤ (w3.setCell (rowA Sb Gb r) v').heap.size := by
  obtain ⟨p0, p1, p2, p3⟩ := P
  have hsz : ((World.drew wr).alloc ob).heap.size = wr.heap.size + 1 := by
    show ((World.drew wr).alloc ob).heap.size = (World.drew wr).heap.size + 1
    simp
  have hge := hg.size
  have hss : (w3.setCell (rowA Sb Gb r) v').heap.size = w3.heap.size := by simp
  have hrow : ∀ q, (V r).ownBlock = some q → base ≤ q := fun q e => ((R.own r hr).lt q e).1
  have blk : ∀ q, q < base → q ≠ Sb → q ≠ Gb → (w3.setCell (rowA Sb Gb r) v').heap[q]? = wr.heap[q]? := fun q h1 h2 h3 =>
    pushed_block hg (by omega) (fun e => by have := hrow q e.symm; omega) (by rcases rowA_blk Sb Gb r with e | e <;> rw [e] <;> omega)
  have R' : Rws ((World.drew wr).alloc ob) base Sb Gb V L := R.drew.below (one_alloc _ _)
  refine ⟨M.blocks fun q hq => blk q (by omega) (by omega) (by omega), R'.push hr hg ho hk, ?_, ⟨?_, ?_, ?_, ?_, fun q hq => ?_⟩, by omega, fun q h1 h2 h3 => ⟨?_, fun s hs => ?_⟩, by omega⟩
  · exact (World.cell?_of_block (a := ⟨mc, 0, none⟩) (blk mc (by omega) (by omega) (by omega))).trans hc
  · exact (show w3.os = w0.os from hg.os.trans hb.os)
  · exact (show w3.tape = w0.tape from hg.tape.trans hb.tape)
  · exact (show w3.output = w0.output from hg.output.trans hb.output)
  · have := hb.size
    omega
  · exact (blk q (by omega) (by omega) (by omega)).trans (hb.block q hq)
  · exact pushed_block hg h2 (fun e => h3 r hr e.symm) (by rcases rowA_blk Sb Gb r with e | e <;> rw [e] <;> omega)
  · by_cases e : s = r
    · subst e
      rw [upd_same]
      intro e2
      rcases hk with hk | hk
      · exact h3 s hs (hk.symm.trans e2)
      · rw [hk] at e2
        have := Option.some.inj e2
        omega
    · rw [upd_other _ _ e]
      exact h3 s hs
def takeG (S : Nat → List MsgV) (g : Nat → Nat) (i : Nat) : Nat → Nat := if g i < (S i).length then upd g i (g i + 1) else g
end Go.Proofs.Qxb6500877aGreatDoor
