import Derived.Test.Qxb6500877aGreatDoorVd0
set_option linter.unusedVariables false
set_option linter.unusedSimpArgs false
namespace Go.Proofs.Qxb6500877aGreatDoor
open Go.RowKit

set_option maxRecDepth 20000 in
set_option maxHeartbeats 8000000 in
theorem note_6 {w : World} {bk pb cb n : Nat} {τ : Int → Option TmV} {χ : Int → Bool} (H : BookAt w bk pb cb n τ χ) (hn : n < 900000) {o : OpS} (ho : o.ok) {t : Nat} (ht : t < 18446744073709551616) {co tk tm : Int} {hm : Bool} {mm : MsgV} {p : Option Addr} {a' n' : Nat} (k6 : o.kd = 6) (h0 : 0 ≤ tm) (h1 : tm < 18446744073709551616) :
    Calls Tryz.prog 37 #[.pointer (some ⟨bk, 0, none⟩), opV o, resV 0 co tk tm hm mm p a' n', .int .u64 (t : Int)] w fun e w' => e = .returned (.tuple #[]) ∧ BookAt w' bk pb cb (n + 1) (noteT o 0 tm t τ) (noteX o 0 χ) ∧ MutM pb cb w w' := by
  have hlt := H.lt
  have hne := H.ne
  have hox := ho.x
  have hmx : n < maxLen := by unfold maxLen; omega
  have HKk := hideIt k6
  clear k6
  unfold opV resV
  go_enter Tryz.func37, Tryz.ntmps37
  go_upto_region 0 with fail
  go_cut [5, 6] (fun a5 a6 wc => a5 = .pointer (some ⟨w.heap.size, 0, none⟩) ∧ a6 = .pointer (some ⟨w.heap.size + 1, 0, none⟩) ∧ OpAt wc w.heap.size o ∧ wc.cell? ⟨w.heap.size + 1, 0, none⟩ = some (.int .i64 0) ∧ wc.cell? ⟨w.heap.size + 1, 3, none⟩ = some (.int .u64 tm) ∧ BookAt wc bk pb cb n τ χ ∧ MutM pb cb w wc ∧ w.heap.size + 1 < wc.heap.size)
  case first =>
    have b1 := one_alloc w (.cells #[.int .u8 o.kd, .int .i64 o.a, .int .i64 o.b, .int .i64 o.c, .int .u64 o.x, .int .u64 o.y] 32)
    have o1 := op_new w o 32
    have s1 : (w.alloc (.cells #[.int .u8 o.kd, .int .i64 o.a, .int .i64 o.b, .int .i64 o.c, .int .u64 o.x, .int .u64 o.y] 32)).heap.size = w.heap.size + 1 := by simp
    go_wp2
    go_meet
    case rel =>
      generalize w.alloc (.cells #[.int .u8 o.kd, .int .i64 o.a, .int .i64 o.b, .int .i64 o.c, .int .u64 o.x, .int .u64 o.y] 32) = W1 at *
      have b2 := one_alloc W1 (.cells #[.int .i64 0, .int .i64 co, .int .i64 tk, .int .u64 tm, .bool hm, .int .i64 mm.mf, .int .i64 mm.mt, .int .u32 mm.md, .int .u64 mm.mq, .int .u64 mm.ma, .int .u64 mm.x0, .int .u64 mm.x1, .int .u64 mm.x2, .int .u64 mm.x3, .slice p a' n'] 43)
      refine ⟨rfl, by simp [s1], o1.blk (b2.block _ (by omega)), by rw [← s1]; simp, by rw [← s1]; simp, (H.below b1).below b2, (MutM.below b1).trans (MutM.below b2), by simp; omega⟩
  case rest =>
  obtain ⟨rfl, rfl, OP, r0, r3, BK, MC, hsz⟩ := hcut
  have g0 := OP.c0
  have g1 := OP.c1
  have g4 := OP.c4
  have g5 := OP.c5
  clear H
  have k6 := HKk.out
  rw [k6] at g0
  have HN : Hid (noteT o 0 tm t τ = updT τ tm (some ⟨o.a, o.x, o.y⟩) ∧ noteX o 0 χ = χ) := hideIt ⟨by simp [noteT, k6], by simp [noteX, k6]⟩
  clear k6
  obtain ⟨w3, hrun, hm3, ht3⟩ := BK.drew.pm.store (v := ⟨o.a, o.x, o.y⟩) hmx h0 h1
  simp only [tmVal] at hrun
  have HM := hideIt (And.intro hm3 ht3)
  clear hm3 ht3
  go_wp2_with fail
  refine wp_region_l (l := 15) (S := (fun w' => w'.cell? ⟨bk, 0, none⟩ = some (.map (some pb)) ∧ w'.cell? ⟨w.heap.size + 1, 3, none⟩ = some (.int .u64 tm) ∧ w'.cell? ⟨w.heap.size, 1, none⟩ = some (.int .i64 o.a) ∧ w'.cell? ⟨w.heap.size, 4, none⟩ = some (.int .u64 o.x) ∧ w'.cell? ⟨w.heap.size, 5, none⟩ = some (.int .u64 o.y))) (by kernel_rfl) ⟨BK.c0, r3, g1, g4, g5⟩ (fun hHeld => ?_)
  refine AnyL.take (i := 0) (oi := { dst := some 16, op := Go.Op.move (Go.Operand.tmp 0), type := 78, pos := _, after := #[], guard := none }) (v := ?vv1) (by kernel_rfl) rfl (by kernel_rfl) (by kernel_rfl) (by kernel_rfl) (fun _ _ _ h => h) (Or.inl ⟨by rfl, ?hy1⟩) (by assumption) ?tk1
  case hy1 => (intro w hSw; (try dsimp only at hSw); go_simp; (try with_reducible rfl))
  try simp only [Act.put, List.setIfInBounds_toArray, List.set_cons_zero, List.set_cons_succ]
  refine AnyL.take (i := 1) (oi := { dst := some 17, op := Go.Op.nilCheck (Go.Operand.tmp 16), type := 0, pos := _, after := #[{ on := 0, ground := Go.Ground.data }], guard := none }) (v := ?vv2) (by kernel_rfl) rfl (by kernel_rfl) (by kernel_rfl) (by kernel_rfl) (fun _ _ _ h => h) (Or.inl ⟨by rfl, ?hy2⟩) (by assumption) ?tk2
  case hy2 => (intro w hSw; (try dsimp only at hSw); go_simp; (try with_reducible rfl))
  try simp only [Act.put, List.setIfInBounds_toArray, List.set_cons_zero, List.set_cons_succ]
  refine AnyL.take (i := 2) (oi := { dst := some 18, op := Go.Op.fieldAddr 91 (Go.Operand.tmp 17) 0, type := 0, pos := _, after := #[{ on := 1, ground := Go.Ground.data }], guard := none }) (v := ?vv3) (by kernel_rfl) rfl (by kernel_rfl) (by kernel_rfl) (by kernel_rfl) (fun _ _ _ h => h) (Or.inl ⟨by rfl, ?hy3⟩) (by assumption) ?tk3
  case hy3 => (intro w hSw; (try dsimp only at hSw); go_simp; (try with_reducible rfl))
  try simp only [Act.put, List.setIfInBounds_toArray, List.set_cons_zero, List.set_cons_succ]
  refine AnyL.take (i := 3) (oi := { dst := some 19, op := Go.Op.load 88 (Go.Operand.tmp 18), type := 88, pos := _, after := #[{ on := 2, ground := Go.Ground.data }], guard := none }) (v := ?vv4) (by kernel_rfl) rfl (by kernel_rfl) (by kernel_rfl) (by kernel_rfl) (fun _ _ _ h => h) (Or.inl ⟨by rfl, ?hy4⟩) (by assumption) ?tk4
  case hy4 => (intro w hSw; (try dsimp only at hSw); go_simp; (try with_reducible rfl))
  try simp only [Act.put, List.setIfInBounds_toArray, List.set_cons_zero, List.set_cons_succ]
  refine AnyL.take (i := 4) (oi := { dst := some 20, op := Go.Op.fieldAddr 43 (Go.Operand.tmp 6) 3, type := 0, pos := _, after := #[], guard := none }) (v := ?vv5) (by kernel_rfl) rfl (by kernel_rfl) (by kernel_rfl) (by kernel_rfl) (fun _ _ _ h => h) (Or.inl ⟨by rfl, ?hy5⟩) (by assumption) ?tk5
  case hy5 => (intro w hSw; (try dsimp only at hSw); go_simp; (try with_reducible rfl))
  try simp only [Act.put, List.setIfInBounds_toArray, List.set_cons_zero, List.set_cons_succ]
  refine AnyL.take (i := 5) (oi := { dst := some 21, op := Go.Op.load 36 (Go.Operand.tmp 20), type := 36, pos := _, after := #[{ on := 4, ground := Go.Ground.data }], guard := none }) (v := ?vv6) (by kernel_rfl) rfl (by kernel_rfl) (by kernel_rfl) (by kernel_rfl) (fun _ _ _ h => h) (Or.inl ⟨by rfl, ?hy6⟩) (by assumption) ?tk6
  case hy6 => (intro w hSw; (try dsimp only at hSw); go_simp; (try with_reducible rfl))
  try simp only [Act.put, List.setIfInBounds_toArray, List.set_cons_zero, List.set_cons_succ]
  refine AnyL.take (i := 6) (oi := { dst := some 22, op := Go.Op.fieldAddr 43 (Go.Operand.tmp 6) 3, type := 0, pos := _, after := #[], guard := none }) (v := ?vv7) (by kernel_rfl) rfl (by kernel_rfl) (by kernel_rfl) (by kernel_rfl) (fun _ _ _ h => h) (Or.inl ⟨by rfl, ?hy7⟩) (by assumption) ?tk7
  case hy7 => (intro w hSw; (try dsimp only at hSw); go_simp; (try with_reducible rfl))
  try simp only [Act.put, List.setIfInBounds_toArray, List.set_cons_zero, List.set_cons_succ]
  refine AnyL.take (i := 7) (oi := { dst := some 23, op := Go.Op.load 36 (Go.Operand.tmp 22), type := 36, pos := _, after := #[{ on := 6, ground := Go.Ground.data }], guard := none }) (v := ?vv8) (by kernel_rfl) rfl (by kernel_rfl) (by kernel_rfl) (by kernel_rfl) (fun _ _ _ h => h) (Or.inl ⟨by rfl, ?hy8⟩) (by assumption) ?tk8
  case hy8 => (intro w hSw; (try dsimp only at hSw); go_simp; (try with_reducible rfl))
  try simp only [Act.put, List.setIfInBounds_toArray, List.set_cons_zero, List.set_cons_succ]
  refine AnyL.take (i := 8) (oi := { dst := some 24, op := Go.Op.fieldAddr 32 (Go.Operand.tmp 5) 1, type := 0, pos := _, after := #[], guard := none }) (v := ?vv9) (by kernel_rfl) rfl (by kernel_rfl) (by kernel_rfl) (by kernel_rfl) (fun _ _ _ h => h) (Or.inl ⟨by rfl, ?hy9⟩) (by assumption) ?tk9
  case hy9 => (intro w hSw; (try dsimp only at hSw); go_simp; (try with_reducible rfl))
  try simp only [Act.put, List.setIfInBounds_toArray, List.set_cons_zero, List.set_cons_succ]
  refine AnyL.take (i := 9) (oi := { dst := some 25, op := Go.Op.load 2 (Go.Operand.tmp 24), type := 2, pos := _, after := #[{ on := 8, ground := Go.Ground.data }], guard := none }) (v := ?vv10) (by kernel_rfl) rfl (by kernel_rfl) (by kernel_rfl) (by kernel_rfl) (fun _ _ _ h => h) (Or.inl ⟨by rfl, ?hy10⟩) (by assumption) ?tk10
  case hy10 => (intro w hSw; (try dsimp only at hSw); go_simp; (try with_reducible rfl))
  try simp only [Act.put, List.setIfInBounds_toArray, List.set_cons_zero, List.set_cons_succ]
  refine AnyL.take (i := 10) (oi := { dst := some 26, op := Go.Op.fieldAddr 32 (Go.Operand.tmp 5) 4, type := 0, pos := _, after := #[], guard := none }) (v := ?vv11) (by kernel_rfl) rfl (by kernel_rfl) (by kernel_rfl) (by kernel_rfl) (fun _ _ _ h => h) (Or.inl ⟨by rfl, ?hy11⟩) (by assumption) ?tk11
  case hy11 => (intro w hSw; (try dsimp only at hSw); go_simp; (try with_reducible rfl))
  try simp only [Act.put, List.setIfInBounds_toArray, List.set_cons_zero, List.set_cons_succ]
  refine AnyL.take (i := 11) (oi := { dst := some 27, op := Go.Op.load 28 (Go.Operand.tmp 26), type := 28, pos := _, after := #[{ on := 10, ground := Go.Ground.data }], guard := none }) (v := ?vv12) (by kernel_rfl) rfl (by kernel_rfl) (by kernel_rfl) (by kernel_rfl) (fun _ _ _ h => h) (Or.inl ⟨by rfl, ?hy12⟩) (by assumption) ?tk12
  case hy12 => (intro w hSw; (try dsimp only at hSw); go_simp; (try with_reducible rfl))
  try simp only [Act.put, List.setIfInBounds_toArray, List.set_cons_zero, List.set_cons_succ]
  refine AnyL.take (i := 12) (oi := { dst := some 28, op := Go.Op.fieldAddr 32 (Go.Operand.tmp 5) 5, type := 0, pos := _, after := #[], guard := none }) (v := ?vv13) (by kernel_rfl) rfl (by kernel_rfl) (by kernel_rfl) (by kernel_rfl) (fun _ _ _ h => h) (Or.inl ⟨by rfl, ?hy13⟩) (by assumption) ?tk13
  case hy13 => (intro w hSw; (try dsimp only at hSw); go_simp; (try with_reducible rfl))
  try simp only [Act.put, List.setIfInBounds_toArray, List.set_cons_zero, List.set_cons_succ]
  refine AnyL.take (i := 13) (oi := { dst := some 29, op := Go.Op.load 28 (Go.Operand.tmp 28), type := 28, pos := _, after := #[{ on := 12, ground := Go.Ground.data }], guard := none }) (v := ?vv14) (by kernel_rfl) rfl (by kernel_rfl) (by kernel_rfl) (by kernel_rfl) (fun _ _ _ h => h) (Or.inl ⟨by rfl, ?hy14⟩) (by assumption) ?tk14
  case hy14 => (intro w hSw; (try dsimp only at hSw); go_simp; (try with_reducible rfl))
  try simp only [Act.put, List.setIfInBounds_toArray, List.set_cons_zero, List.set_cons_succ]
  refine AnyL.take (i := 14) (oi := { dst := some 30, op := Go.Op.build 84 #[(0, Go.Operand.tmp 23), (1, Go.Operand.tmp 25), (2, Go.Operand.tmp 27), (3, Go.Operand.tmp 29)], type := 84, pos := _, after := #[{ on := 7, ground := Go.Ground.data }, { on := 9, ground := Go.Ground.data }, { on := 11, ground := Go.Ground.data }, { on := 13, ground := Go.Ground.data }], guard := none }) (v := ?vv15) (by kernel_rfl) rfl (by kernel_rfl) (by kernel_rfl) (by kernel_rfl) (fun _ _ _ h => h) (Or.inl ⟨by rfl, ?hy15⟩) (by assumption) ?tk15
  case hy15 => (intro w hSw; (try dsimp only at hSw); go_simp; (try with_reducible rfl))
  try simp only [Act.put, List.setIfInBounds_toArray, List.set_cons_zero, List.set_cons_succ]
  refine AnyL.last (o := { dst := none, op := Go.Op.mapUpdate 88 (Go.Operand.tmp 19) (Go.Operand.tmp 21) (Go.Operand.tmp 30), type := 0, pos := _, after := #[{ on := 3, ground := Go.Ground.data }, { on := 5, ground := Go.Ground.data }, { on := 14, ground := Go.Ground.data }, { on := 0, ground := Go.Ground.phase }, { on := 1, ground := Go.Ground.phase }, { on := 2, ground := Go.Ground.phase }, { on := 3, ground := Go.Ground.phase }, { on := 4, ground := Go.Ground.phase }, { on := 5, ground := Go.Ground.phase }, { on := 6, ground := Go.Ground.phase }, { on := 7, ground := Go.Ground.phase }, { on := 8, ground := Go.Ground.phase }, { on := 9, ground := Go.Ground.phase }, { on := 10, ground := Go.Ground.phase }, { on := 11, ground := Go.Ground.phase }, { on := 12, ground := Go.Ground.phase }, { on := 13, ground := Go.Ground.phase }, { on := 14, ground := Go.Ground.phase }], guard := none }) (by kernel_rfl) rfl (by kernel_rfl) (fun K' hK' => ?_)
  go_simp
  clear hHeld
  refine hK'.out _ _ ?_
  clear hK' K'
  try simp only [Act.put, List.setIfInBounds_toArray, List.set_cons_zero, List.set_cons_succ]
  clear hrun
  go_wp2
  first | go_end0 | refine bodyPost_ret (results_none rfl _ _ _) rfl ?_
  rw [HN.out.1, HN.out.2]
  have hk := fun {k : Nat} (q : k ≠ pb) => turned_block HM.out.2 q
  exact ⟨rfl, ⟨(World.cell?_of_block (a := ⟨bk, 0, none⟩) (hk hne.1)).trans BK.c0, (World.cell?_of_block (a := ⟨bk, 1, none⟩) (hk hne.1)).trans BK.c1, HM.out.1, (BK.cm.block (w' := w3) (hk (fun e => hne.2.2 e.symm))).mono (by omega), hne⟩, MC.trans ((MutM.refl pb cb wc).drew.trans (MutM.turned HM.out.2 (.inl rfl)))⟩
end Go.Proofs.Qxb6500877aGreatDoor
