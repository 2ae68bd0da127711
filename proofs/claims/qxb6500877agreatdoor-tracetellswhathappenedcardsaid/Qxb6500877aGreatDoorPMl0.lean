import Derived.Laws.Externs
import Derived.Test.Qxb6500877aGreatDoorPMm
set_option linter.unusedVariables false
set_option linter.unusedSimpArgs false
namespace Go.Proofs.Qxb6500877aGreatDoor
open Go.RowKit


/-- A result: its code, its core, whether a message came, and the message. -/
def resV (c co tk tm : Int) (hm : Bool) (m : MsgV) (p : Option Addr) (a n : Nat) : Value := .agg #[.int .i64 c, .int .i64 co, .int .i64 tk, .int .u64 tm, .bool hm, .int .i64 m.mf, .int .i64 m.mt, .int .u32 m.md, .int .u64 m.mq, .int .u64 m.ma, .int .u64 m.x0, .int .u64 m.x1, .int .u64 m.x2, .int .u64 m.x3, .slice p a n]


theorem add64_run (x y : Int) (hx : 0 ≤ x) (hy : 0 ≤ y) (w : World) : (callFunc 100 #[.int .u64 x, .int .u64 y, .int .u64 0]).run Tryz.prog w = .ok (.value (.tuple #[.int .u64 ((x + y + 0) % 18446744073709551616), .int .u64 ((x + y + 0) / 18446744073709551616)])) w := by
  rw [run_callFunc_extern Tryz.func100 (by kernel_rfl) (by kernel_rfl) (by kernel_rfl) (e := add64Entry) (by kernel_rfl), run_add64 x y 0 hx hy (by omega) (by omega)]
  rfl
set_option maxHeartbeats 1000000 in
theorem later_any {t n : Nat} (ht : t < 18446744073709551616) (hn : n < 18446744073709551616) (w : World) : Calls Tryz.prog 39 #[.int .u64 (t : Int), .int .u64 (n : Int)] w fun e w' => e = .returned (.int .u64 ((afterF t n : Nat) : Int)) ∧ w' = w := by
  have hrun := add64_run t n (by omega) (by omega) w
  by_cases hc : 18446744073709551615 - t < n
  · have e1 : ((t : Int) + n + 0) / 18446744073709551616 = 1 := by omega
    rw [e1] at hrun
    have hv : ((afterF t n : Nat) : Int) = 18446744073709551615 := by rw [afterF, if_pos hc]; rfl
    rw [hv]
    clear e1 hv hc
    generalize ((t : Int) + n + 0) % 18446744073709551616 = q at hrun
    go_enter Tryz.func39, Tryz.ntmps39
    go_wp2
    go_ret
    exact ⟨rfl, rfl⟩
  · have e1 : ((t : Int) + n + 0) / 18446744073709551616 = 0 := by omega
    have e2 : ((t : Int) + n + 0) % 18446744073709551616 = ((afterF t n : Nat) : Int) := by rw [afterF, if_neg hc]; omega
    rw [e1, e2] at hrun
    clear e1 e2 hc
    generalize ((afterF t n : Nat) : Int) = q at hrun ⊢
    go_enter Tryz.func39, Tryz.ntmps39
    go_wp2
    go_ret
    exact ⟨rfl, rfl⟩
set_option maxHeartbeats 1000000 in
theorem small_any {p : Option Addr} {n c : Nat} (w : World) : Calls Tryz.prog 16 #[.slice p n c] w fun e w' => e = .returned (.bool (decide (n ≤ 65536))) ∧ w' = w := by
  by_cases h : n ≤ 65536
  · have h1 : ¬ ((65536 : Int) < (n : Int)) := by omega
    rw [decide_eq_true h]
    clear h
    go_enter Tryz.func16, Tryz.ntmps16
    go_wp2
    go_ret
    exact ⟨rfl, rfl⟩
  · have h1 : (65536 : Int) < (n : Int) := by omega
    rw [decide_eq_false h]
    clear h
    go_enter Tryz.func16, Tryz.ntmps16
    go_wp2
    go_ret
    exact ⟨rfl, rfl⟩
/-- A step of the script, where the caller keeps it. -/
structure OpCs (w : World) (b q : Nat) (o : OpS) : Prop where
  c0 : w.cell? ⟨b, q, none⟩ = some (.int .u8 o.kd)
  c1 : w.cell? ⟨b, q + 1, none⟩ = some (.int .i64 o.a)
  c2 : w.cell? ⟨b, q + 2, none⟩ = some (.int .i64 o.b)
  c3 : w.cell? ⟨b, q + 3, none⟩ = some (.int .i64 o.c)
  c4 : w.cell? ⟨b, q + 4, none⟩ = some (.int .u64 o.x)
  c5 : w.cell? ⟨b, q + 5, none⟩ = some (.int .u64 o.y)
def OpsIn (w : World) (p : Option Addr) (L : List OpS) : Prop := L = [] ∨ ∃ b off, p = some ⟨b, off, none⟩ ∧ ∀ j (h : j < L.length), OpCs w b (off + j * 6) L[j]
theorem below_done {n : Nat} {w w1 w2 : World} {B mb t k : Nat} {ν : Net} {τ : TSt} {σ : Sg} (h : Below n w w1) (d : Done w1 w2 B mb t k ν τ σ) (hn : n ≤ w1.heap.size) (hB : n ≤ B) (hm : n ≤ mb) : Below n w w2 :=
  ⟨d.f.os.trans h.os, d.f.tape.trans h.tape, d.f.output.trans h.output, Nat.le_trans h.size d.f.size, fun k hk => (d.f.block k (by omega) (by omega) (by omega)).trans (h.block k hk)⟩
theorem below_to {n : Nat} {w w1 w2 : World} (h : Below n w w1) (d : Below w1.heap.size w1 w2) (hn : n ≤ w1.heap.size) : Below n w w2 := h.trans (d.mono hn)

end Go.Proofs.Qxb6500877aGreatDoor
