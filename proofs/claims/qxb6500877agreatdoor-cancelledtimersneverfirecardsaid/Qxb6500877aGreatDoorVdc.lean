import Derived.Test.Qxb6500877aGreatDoorVd0
set_option linter.unusedVariables false
set_option linter.unusedSimpArgs false
namespace Go.Proofs.Qxb6500877aGreatDoor
open Go.RowKit

set_option maxRecDepth 20000 in
set_option maxHeartbeats 8000000 in
theorem note_c {w : World} {bk pb cb n : Nat} {τ : Int → Option TmV} {χ : Int → Bool} (H : BookAt w bk pb cb n τ χ) (hn : n < 900000) {o : OpS} (ho : o.ok) {t : Nat} (ht : t < 18446744073709551616) {c co tk tm : Int} {hm : Bool} {mm : MsgV} {p : Option Addr} {a' n' : Nat} (hc : c ≠ 0) :
    Calls Tryz.prog 37 #[.pointer (some ⟨bk, 0, none⟩), opV o, resV c co tk tm hm mm p a' n', .int .u64 (t : Int)] w fun e w' => e = .returned (.tuple #[]) ∧ BookAt w' bk pb cb (n + 1) (noteT o c tm t τ) (noteX o c χ) ∧ MutM pb cb w w' := by
  have hlt := H.lt
  have hne := H.ne
  have hox := ho.x
  have hmx : n < maxLen := by unfold maxLen; omega
  unfold opV resV
  go_enter Tryz.func37, Tryz.ntmps37
  go_upto_region 0 with fail
  go_cut [5, 6] (fun a5 a6 wc => a5 = .pointer (some ⟨w.heap.size, 0, none⟩) ∧ a6 = .pointer (some ⟨w.heap.size + 1, 0, none⟩) ∧ OpAt wc w.heap.size o ∧ wc.cell? ⟨w.heap.size + 1, 0, none⟩ = some (.int .i64 c) ∧ wc.cell? ⟨w.heap.size + 1, 3, none⟩ = some (.int .u64 tm) ∧ BookAt wc bk pb cb n τ χ ∧ MutM pb cb w wc ∧ w.heap.size + 1 < wc.heap.size)
  case first =>
    have b1 := one_alloc w (.cells #[.int .u8 o.kd, .int .i64 o.a, .int .i64 o.b, .int .i64 o.c, .int .u64 o.x, .int .u64 o.y] 32)
    have o1 := op_new w o 32
    have s1 : (w.alloc (.cells #[.int .u8 o.kd, .int .i64 o.a, .int .i64 o.b, .int .i64 o.c, .int .u64 o.x, .int .u64 o.y] 32)).heap.size = w.heap.size + 1 := by simp
    go_wp2
    go_meet
    case rel =>
      generalize w.alloc (.cells #[.int .u8 o.kd, .int .i64 o.a, .int .i64 o.b, .int .i64 o.c, .int .u64 o.x, .int .u64 o.y] 32) = W1 at *
      have b2 := one_alloc W1 (.cells #[.int .i64 c, .int .i64 co, .int .i64 tk, .int .u64 tm, .bool hm, .int .i64 mm.mf, .int .i64 mm.mt, .int .u32 mm.md, .int .u64 mm.mq, .int .u64 mm.ma, .int .u64 mm.x0, .int .u64 mm.x1, .int .u64 mm.x2, .int .u64 mm.x3, .slice p a' n'] 43)
      refine ⟨rfl, by simp [s1], o1.blk (b2.block _ (by omega)), by rw [← s1]; simp, by rw [← s1]; simp, (H.below b1).below b2, (MutM.below b1).trans (MutM.below b2), by simp; omega⟩
  case rest =>
  obtain ⟨rfl, rfl, OP, r0, r3, BK, MC, hsz⟩ := hcut
  have g0 := OP.c0
  have g1 := OP.c1
  have g4 := OP.c4
  have g5 := OP.c5
  clear H
  have hcz : (c != 0) = true := by simpa using hc
  have HN : Hid (noteT o c tm t τ = τ ∧ noteX o c χ = χ) := hideIt ⟨by simp [noteT, hc], by simp [noteX, hc]⟩
  clear hc
  go_wp2
  first | go_end0 | refine bodyPost_ret (results_none rfl _ _ _) rfl ?_
  rw [HN.out.1, HN.out.2]
  exact ⟨rfl, BK.mono (by omega), MC⟩
end Go.Proofs.Qxb6500877aGreatDoor
