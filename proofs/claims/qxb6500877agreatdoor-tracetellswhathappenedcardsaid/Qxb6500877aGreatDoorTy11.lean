import Derived.Deep.CutBlock
import Derived.OwnWalk
import Derived.Maps.AppendAt
import Derived.Test.Qxb6500877aGreatDoorTy5
import Derived.Test.Qxb6500877aGreatDoorTy7
import Derived.Test.Qxb6500877aGreatDoorTy10
set_option linter.unusedVariables false
set_option linter.unusedSimpArgs false
namespace Go.Proofs.Qxb6500877aGreatDoor
open Go.RowKit

theorem lt_start {w w1 w2 w3 : World} {R F N B mb B2 mb2 : Nat} (RG : RingAt w1 R F N []) (hN : 0 < N ∧ N ≤ 8) (hR : w.heap.size ≤ R) (hF : w.heap.size ≤ F) (hb1 : Below w.heap.size w w1) (M1 : Mach (blk0 w2 B) B mb 0 0 net0 τ0 σE) (k1 : w2.cell? ⟨B, 6752, none⟩ = some (.iface 110 (.pointer (some ⟨w1.heap.size, 0, none⟩)))) (hwB : (w1.alloc (.cells #[.slice none 0 0, .iface 108 (.pointer (some ⟨R, 0, none⟩))] 115)).heap.size ≤ B) (hwm : (w1.alloc (.cells #[.slice none 0 0, .iface 108 (.pointer (some ⟨R, 0, none⟩))] 115)).heap.size ≤ mb) (hb2 : Below (w1.alloc (.cells #[.slice none 0 0, .iface 108 (.pointer (some ⟨R, 0, none⟩))] 115)).heap.size (w1.alloc (.cells #[.slice none 0 0, .iface 108 (.pointer (some ⟨R, 0, none⟩))] 115)) w2) (M2 : Mach w3 B2 mb2 0 0 net0 τ0 σE) (hwB2 : w2.heap.size ≤ B2) (hwm2 : w2.heap.size ≤ mb2) (hb3 : Below w2.heap.size w2 w3) (h2 : 2 < w.heap.size) :
    LT w w3 B mb B2 mb2 ⟨w1.heap.size, R, F, N, w3.heap.size⟩ 0 (4 * 0) net0 τ0 σE ⟨⟨w1.heap.size, R, F, N, w3.heap.size⟩, .slice none 0 0, []⟩ 0 (4 * 0) net0 τ0 σE := by
  have hza : (w1.alloc (.cells #[.slice none 0 0, .iface 108 (.pointer (some ⟨R, 0, none⟩))] 115)).heap.size = w1.heap.size + 1 := by simp
  have bA := one_alloc w1 (.cells #[.slice none 0 0, .iface 108 (.pointer (some ⟨R, 0, none⟩))] 115)
  have lB := M1.lt
  have lm := M1.mlt
  rw [blk_size] at lB lm
  have l2 := M2.lt
  have l3 := M2.mlt
  have s1 := hb1.size
  have s2 := hb2.size
  have s3 := hb3.size
  have rR := RG.lt
  have rF := RG.ltF hN.1
  have bc : ∀ q, q < w1.heap.size → w3.heap[q]? = w1.heap[q]? := fun q hq => (hb3.block q (by omega)).trans ((hb2.block q (by omega)).trans (bA.block q hq))
  have a0 : (w1.alloc (.cells #[.slice none 0 0, .iface 108 (.pointer (some ⟨R, 0, none⟩))] 115)).cell? ⟨w1.heap.size, 0, none⟩ = some (.slice none 0 0) := by simp
  have a1 : (w1.alloc (.cells #[.slice none 0 0, .iface 108 (.pointer (some ⟨R, 0, none⟩))] 115)).cell? ⟨w1.heap.size, 1, none⟩ = some (.iface 108 (.pointer (some ⟨R, 0, none⟩))) := by simp
  have af : ∀ o, (w1.alloc (.cells #[.slice none 0 0, .iface 108 (.pointer (some ⟨R, 0, none⟩))] 115)).frozen? ⟨w1.heap.size, o, none⟩ = false := fun o => by simp
  have eC : w3.heap[w1.heap.size]? = (w1.alloc (.cells #[.slice none 0 0, .iface 108 (.pointer (some ⟨R, 0, none⟩))] 115)).heap[w1.heap.size]? := (hb3.block _ (by omega)).trans (hb2.block _ (by omega))
  have M : Mut B 0 0 w2 w3 := Mut.of_below hb3 lB
  have h2' := M1.hB
  have h3' := M1.hm
  have hne := M1.ne
  refine ⟨⟨⟨M1.keep (M.blank (by omega) ⟨_, k1⟩), cell_later hb3 k1, ⟨(World.cell?_of_block (a := ⟨w1.heap.size, 0, none⟩) eC).trans a0, (World.cell?_of_block (a := ⟨w1.heap.size, 1, none⟩) eC).trans a1, fun o => (World.frozen?_of_block (a := ⟨w1.heap.size, o, none⟩) eC).trans (af o), ⟨by simp [evCells], .inl ⟨rfl, rfl⟩⟩, RingX.two RG (bc R rR) (bc F rF), hN, ?_⟩, ?_, Nat.le_refl _⟩⟩, M2, rfl, below_to (below_to (below_to hb1 bA s1) hb2 (by omega)) hb3 (by omega), ?_, ?_⟩
  · show w1.heap.size < w3.heap.size ∧ R < w3.heap.size ∧ F < w3.heap.size ∧ w1.heap.size ≠ R ∧ w1.heap.size ≠ F
    omega
  · show (w1.heap.size ≠ B ∧ R ≠ B ∧ F ≠ B) ∧ (w1.heap.size ≠ mb ∧ R ≠ mb ∧ F ≠ mb) ∧ (2 < w1.heap.size ∧ 2 < R ∧ 2 < F) ∧ B < w3.heap.size ∧ mb < w3.heap.size ∧ 2 < w3.heap.size
    omega
  · show 2 < w.heap.size ∧ (w.heap.size ≤ B ∧ w.heap.size ≤ mb) ∧ (w.heap.size ≤ B2 ∧ w.heap.size ≤ mb2) ∧ w.heap.size ≤ w1.heap.size ∧ w.heap.size ≤ R ∧ w.heap.size ≤ F ∧ w.heap.size ≤ w3.heap.size
    omega
  · show (B2 ≠ B ∧ B2 ≠ mb ∧ mb2 ≠ B ∧ mb2 ≠ mb) ∧ (B2 ≠ w1.heap.size ∧ B2 ≠ R ∧ B2 ≠ F) ∧ (mb2 ≠ w1.heap.size ∧ mb2 ≠ R ∧ mb2 ≠ F) ∧ B2 < w3.heap.size ∧ mb2 < w3.heap.size
    omega
theorem LT.col {w0 w : World} {B mb B2 mb2 t k t2 k2 : Nat} {ν ν2 : Net} {τ τ2 : TSt} {σ σ2 : Sg} {T : TS} {Λ : W.LS} (h : LT w0 w B mb B2 mb2 T t k ν τ σ Λ t2 k2 ν2 τ2 σ2) : ∃ p c, Λ.V = .slice p Λ.l.length c ∧ w.cell? ⟨T.C, 0, none⟩ = some (.slice p Λ.l.length c) ∧ w.ownsRow T.b 123 9 (.slice p Λ.l.length c) Λ.l.length (evCells Λ.l) ∧ RingAt w T.R T.F T.N Λ.l ∧ 0 < T.N ∧ T.N ≤ 8 := by
  have tr := h.m.h.tr
  obtain ⟨p, c, e⟩ := own_shape tr.own
  have c0 := tr.c0
  have o := tr.own
  have r := tr.ring
  have hN := tr.hN
  rw [h.e] at c0 o r hN
  rw [e] at c0 o
  exact ⟨p, c, e, c0, o, r, hN⟩
theorem field48 (a b c : Int) (w : World) : (Instr.field 48 (.agg #[.int .u8 a, .int .i64 b, .int .i64 c]) 0).run Tryz.prog w = .ok (.int .u8 a) w := by
  kernel_rfl
theorem wpList_field48 {w : World} {ops : Array Oper} {rest : List Oper} {o : Oper} {a : Act} {Q : Exit → Act → World → Prop} (hgd : o.guard = none) (x : Operand) (ho : o.op = .field 48 x 0) {p q r : Int} (hx : a.eval x = .agg #[.int .u8 p, .int .i64 q, .int .i64 r])
    (h : wpList Tryz.prog ops Q rest (a.put o.dst (.int .u8 p)) w) : wpList Tryz.prog ops Q (o :: rest) a w := by
  refine wpList_plain hgd fun K hK => ?_
  have hrun := field48 p q r w
  unfold Oper.wp
  simp [execOp, ho, hx, hrun, Result.andThen]
  exact hK _ _ h
theorem cntK_take {l : List EvS} {j : Nat} {e : EvS} (h : l[j]? = some e) (k : Nat) : cntK (l.take (j + 1)) k = cntK (l.take j) k + (if e.kd = (k : Int) then 1 else 0) := by
  unfold cntK
  rw [List.take_add_one, h, List.filter_append, List.length_append]
  by_cases q : e.kd = (k : Int)
  · simp [q]
  · simp [q]
theorem cntK_le (l : List EvS) (k : Nat) : 0 ≤ cntK l k ∧ cntK l k ≤ l.length := by
  unfold cntK
  have := List.length_filter_le (fun e : EvS => decide (e.kd = (k : Int))) l
  omega
end Go.Proofs.Qxb6500877aGreatDoor
