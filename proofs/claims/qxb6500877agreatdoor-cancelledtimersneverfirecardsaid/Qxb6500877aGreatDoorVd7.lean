import Derived.Test.Qxb6500877aGreatDoorVd0
set_option linter.unusedVariables false
set_option linter.unusedSimpArgs false
namespace Go.Proofs.Qxb6500877aGreatDoor
open Go.RowKit

set_option maxRecDepth 20000 in
set_option maxHeartbeats 8000000 in
theorem note_7 {w : World} {bk pb cb n : Nat} {τ : Int → Option TmV} {χ : Int → Bool} (H : BookAt w bk pb cb n τ χ) (hn : n < 900000) {o : OpS} (ho : o.ok) {t : Nat} (ht : t < 18446744073709551616) {co tk tm : Int} {hm : Bool} {mm : MsgV} {p : Option Addr} {a' n' : Nat} (k7 : o.kd = 7) (h0 : 0 ≤ tm) (h1 : tm < 18446744073709551616) :
    Calls Tryz.prog 37 #[.pointer (some ⟨bk, 0, none⟩), opV o, resV 0 co tk tm hm mm p a' n', .int .u64 (t : Int)] w fun e w' => e = .returned (.tuple #[]) ∧ BookAt w' bk pb cb (n + 1) (noteT o 0 tm t τ) (noteX o 0 χ) ∧ MutM pb cb w w' := by
  have hlt := H.lt
  have hne := H.ne
  have hox := ho.x
  have hmx : n < maxLen := by unfold maxLen; omega
  have HKk := hideIt k7
  clear k7
  unfold opV resV
  go_enter Tryz.func37, Tryz.ntmps37
  go_upto_region 0 with fail
  go_cut [5, 6] (fun a5 a6 wc => a5 = .pointer (some ⟨w.heap.size, 0, none⟩) ∧ a6 = .pointer (some ⟨w.heap.size + 1, 0, none⟩) ∧ OpAt wc w.heap.size o ∧ wc.cell? ⟨w.heap.size + 1, 0, none⟩ = some (.int .i64 0) ∧ wc.cell? ⟨w.heap.size + 1, 3, none⟩ = some (.int .u64 tm) ∧ BookAt wc bk pb cb n τ χ ∧ MutM pb cb w wc ∧ w.heap.size + 1 < wc.heap.size)
  case first =>
    have b1 := one_alloc w (.cells #[.int .u8 o.kd, .int .i64 o.a, .int .i64 o.b, .int .i64 o.c, .int .u64 o.x, .int .u64 o.y] 32)
    have o1 := op_new w o 32
    have s1 : (w.alloc (.cells #[.int .u8 o.kd, .int .i64 o.a, .int .i64 o.b, .int .i64 o.c, .int .u64 o.x, .int .u64 o.y] 32)).heap.size = w.heap.size + 1 := by simp
    go_wp2
    go_meet
    case rel =>
      generalize w.alloc (.cells #[.int .u8 o.kd, .int .i64 o.a, .int .i64 o.b, .int .i64 o.c, .int .u64 o.x, .int .u64 o.y] 32) = W1 at *
      have b2 := one_alloc W1 (.cells #[.int .i64 0, .int .i64 co, .int .i64 tk, .int .u64 tm, .bool hm, .int .i64 mm.mf, .int .i64 mm.mt, .int .u32 mm.md, .int .u64 mm.mq, .int .u64 mm.ma, .int .u64 mm.x0, .int .u64 mm.x1, .int .u64 mm.x2, .int .u64 mm.x3, .slice p a' n'] 43)
      refine ⟨rfl, by simp [s1], o1.blk (b2.block _ (by omega)), by rw [← s1]; simp, by rw [← s1]; simp, (H.below b1).below b2, (MutM.below b1).trans (MutM.below b2), by simp; omega⟩
  case rest =>
  obtain ⟨rfl, rfl, OP, r0, r3, BK, MC, hsz⟩ := hcut
  have g0 := OP.c0
  have g1 := OP.c1
  have g4 := OP.c4
  have g5 := OP.c5
  clear H
  have k7 := HKk.out
  rw [k7] at g0
  have HN : Hid (noteT o 0 tm t τ = updT τ tm (some ⟨o.a, (afterF t o.x : Nat), o.y⟩) ∧ noteX o 0 χ = χ) := hideIt ⟨by simp [noteT, k7], by simp [noteX, k7]⟩
  clear k7
  obtain ⟨q, HQ⟩ : ∃ q, Hid (afterF t o.x = q) := ⟨_, hideIt rfl⟩
  rw [HQ.out] at HN
  obtain ⟨w3, hrun, hm3, ht3⟩ := BK.drew.pm.store (v := ⟨o.a, (q : Nat), o.y⟩) hmx h0 h1
  simp only [tmVal] at hrun
  have HM := hideIt (And.intro hm3 ht3)
  clear hm3 ht3
  go_wp2_with fail
  refine wp_region_l (l := 17) (S := (fun w' => w'.cell? ⟨bk, 0, none⟩ = some (.map (some pb)) ∧ w'.cell? ⟨w.heap.size + 1, 3, none⟩ = some (.int .u64 tm) ∧ w'.cell? ⟨w.heap.size, 1, none⟩ = some (.int .i64 o.a) ∧ w'.cell? ⟨w.heap.size, 4, none⟩ = some (.int .u64 o.x) ∧ w'.cell? ⟨w.heap.size, 5, none⟩ = some (.int .u64 o.y))) (by kernel_rfl) ⟨BK.c0, r3, g1, g4, g5⟩ (fun hHeld => ?_)
  refine AnyL.take (i := 0) (oi := { dst := some 33, op := Go.Op.move (Go.Operand.tmp 0), type := 78, pos := _, after := #[], guard := none }) (v := ?vv16) (by kernel_rfl) rfl (by kernel_rfl) (by kernel_rfl) (by kernel_rfl) (fun _ _ _ h => h) (Or.inl ⟨by rfl, ?hy16⟩) (by assumption) ?tk16
  case hy16 => (intro w hSw; (try dsimp only at hSw); go_simp; (try with_reducible rfl))
  try simp only [Act.put, List.setIfInBounds_toArray, List.set_cons_zero, List.set_cons_succ]
  refine AnyL.take (i := 1) (oi := { dst := some 34, op := Go.Op.nilCheck (Go.Operand.tmp 33), type := 0, pos := _, after := #[{ on := 0, ground := Go.Ground.data }], guard := none }) (v := ?vv17) (by kernel_rfl) rfl (by kernel_rfl) (by kernel_rfl) (by kernel_rfl) (fun _ _ _ h => h) (Or.inl ⟨by rfl, ?hy17⟩) (by assumption) ?tk17
  case hy17 => (intro w hSw; (try dsimp only at hSw); go_simp; (try with_reducible rfl))
  try simp only [Act.put, List.setIfInBounds_toArray, List.set_cons_zero, List.set_cons_succ]
  refine AnyL.take (i := 2) (oi := { dst := some 35, op := Go.Op.fieldAddr 91 (Go.Operand.tmp 34) 0, type := 0, pos := _, after := #[{ on := 1, ground := Go.Ground.data }], guard := none }) (v := ?vv18) (by kernel_rfl) rfl (by kernel_rfl) (by kernel_rfl) (by kernel_rfl) (fun _ _ _ h => h) (Or.inl ⟨by rfl, ?hy18⟩) (by assumption) ?tk18
  case hy18 => (intro w hSw; (try dsimp only at hSw); go_simp; (try with_reducible rfl))
  try simp only [Act.put, List.setIfInBounds_toArray, List.set_cons_zero, List.set_cons_succ]
  refine AnyL.take (i := 3) (oi := { dst := some 36, op := Go.Op.load 88 (Go.Operand.tmp 35), type := 88, pos := _, after := #[{ on := 2, ground := Go.Ground.data }], guard := none }) (v := ?vv19) (by kernel_rfl) rfl (by kernel_rfl) (by kernel_rfl) (by kernel_rfl) (fun _ _ _ h => h) (Or.inl ⟨by rfl, ?hy19⟩) (by assumption) ?tk19
  case hy19 => (intro w hSw; (try dsimp only at hSw); go_simp; (try with_reducible rfl))
  try simp only [Act.put, List.setIfInBounds_toArray, List.set_cons_zero, List.set_cons_succ]
  refine AnyL.take (i := 4) (oi := { dst := some 37, op := Go.Op.fieldAddr 43 (Go.Operand.tmp 6) 3, type := 0, pos := _, after := #[], guard := none }) (v := ?vv20) (by kernel_rfl) rfl (by kernel_rfl) (by kernel_rfl) (by kernel_rfl) (fun _ _ _ h => h) (Or.inl ⟨by rfl, ?hy20⟩) (by assumption) ?tk20
  case hy20 => (intro w hSw; (try dsimp only at hSw); go_simp; (try with_reducible rfl))
  try simp only [Act.put, List.setIfInBounds_toArray, List.set_cons_zero, List.set_cons_succ]
  refine AnyL.take (i := 5) (oi := { dst := some 38, op := Go.Op.load 36 (Go.Operand.tmp 37), type := 36, pos := _, after := #[{ on := 4, ground := Go.Ground.data }], guard := none }) (v := ?vv21) (by kernel_rfl) rfl (by kernel_rfl) (by kernel_rfl) (by kernel_rfl) (fun _ _ _ h => h) (Or.inl ⟨by rfl, ?hy21⟩) (by assumption) ?tk21
  case hy21 => (intro w hSw; (try dsimp only at hSw); go_simp; (try with_reducible rfl))
  try simp only [Act.put, List.setIfInBounds_toArray, List.set_cons_zero, List.set_cons_succ]
  refine AnyL.take (i := 6) (oi := { dst := some 39, op := Go.Op.fieldAddr 43 (Go.Operand.tmp 6) 3, type := 0, pos := _, after := #[], guard := none }) (v := ?vv22) (by kernel_rfl) rfl (by kernel_rfl) (by kernel_rfl) (by kernel_rfl) (fun _ _ _ h => h) (Or.inl ⟨by rfl, ?hy22⟩) (by assumption) ?tk22
  case hy22 => (intro w hSw; (try dsimp only at hSw); go_simp; (try with_reducible rfl))
  try simp only [Act.put, List.setIfInBounds_toArray, List.set_cons_zero, List.set_cons_succ]
  refine AnyL.take (i := 7) (oi := { dst := some 40, op := Go.Op.load 36 (Go.Operand.tmp 39), type := 36, pos := _, after := #[{ on := 6, ground := Go.Ground.data }], guard := none }) (v := ?vv23) (by kernel_rfl) rfl (by kernel_rfl) (by kernel_rfl) (by kernel_rfl) (fun _ _ _ h => h) (Or.inl ⟨by rfl, ?hy23⟩) (by assumption) ?tk23
  case hy23 => (intro w hSw; (try dsimp only at hSw); go_simp; (try with_reducible rfl))
  try simp only [Act.put, List.setIfInBounds_toArray, List.set_cons_zero, List.set_cons_succ]
  refine AnyL.take (i := 8) (oi := { dst := some 41, op := Go.Op.fieldAddr 32 (Go.Operand.tmp 5) 1, type := 0, pos := _, after := #[], guard := none }) (v := ?vv24) (by kernel_rfl) rfl (by kernel_rfl) (by kernel_rfl) (by kernel_rfl) (fun _ _ _ h => h) (Or.inl ⟨by rfl, ?hy24⟩) (by assumption) ?tk24
  case hy24 => (intro w hSw; (try dsimp only at hSw); go_simp; (try with_reducible rfl))
  try simp only [Act.put, List.setIfInBounds_toArray, List.set_cons_zero, List.set_cons_succ]
  refine AnyL.take (i := 9) (oi := { dst := some 42, op := Go.Op.load 2 (Go.Operand.tmp 41), type := 2, pos := _, after := #[{ on := 8, ground := Go.Ground.data }], guard := none }) (v := ?vv25) (by kernel_rfl) rfl (by kernel_rfl) (by kernel_rfl) (by kernel_rfl) (fun _ _ _ h => h) (Or.inl ⟨by rfl, ?hy25⟩) (by assumption) ?tk25
  case hy25 => (intro w hSw; (try dsimp only at hSw); go_simp; (try with_reducible rfl))
  try simp only [Act.put, List.setIfInBounds_toArray, List.set_cons_zero, List.set_cons_succ]
  refine AnyL.take (i := 10) (oi := { dst := some 43, op := Go.Op.move (Go.Operand.tmp 3), type := 29, pos := _, after := #[], guard := none }) (v := ?vv26) (by kernel_rfl) rfl (by kernel_rfl) (by kernel_rfl) (by kernel_rfl) (fun _ _ _ h => h) (Or.inl ⟨by rfl, ?hy26⟩) (by assumption) ?tk26
  case hy26 => (intro w hSw; (try dsimp only at hSw); go_simp; (try with_reducible rfl))
  try simp only [Act.put, List.setIfInBounds_toArray, List.set_cons_zero, List.set_cons_succ]
  refine AnyL.take (i := 11) (oi := { dst := some 44, op := Go.Op.fieldAddr 32 (Go.Operand.tmp 5) 4, type := 0, pos := _, after := #[], guard := none }) (v := ?vv27) (by kernel_rfl) rfl (by kernel_rfl) (by kernel_rfl) (by kernel_rfl) (fun _ _ _ h => h) (Or.inl ⟨by rfl, ?hy27⟩) (by assumption) ?tk27
  case hy27 => (intro w hSw; (try dsimp only at hSw); go_simp; (try with_reducible rfl))
  try simp only [Act.put, List.setIfInBounds_toArray, List.set_cons_zero, List.set_cons_succ]
  refine AnyL.take (i := 12) (oi := { dst := some 45, op := Go.Op.load 28 (Go.Operand.tmp 44), type := 28, pos := _, after := #[{ on := 11, ground := Go.Ground.data }], guard := none }) (v := ?vv28) (by kernel_rfl) rfl (by kernel_rfl) (by kernel_rfl) (by kernel_rfl) (fun _ _ _ h => h) (Or.inl ⟨by rfl, ?hy28⟩) (by assumption) ?tk28
  case hy28 => (intro w hSw; (try dsimp only at hSw); go_simp; (try with_reducible rfl))
  try simp only [Act.put, List.setIfInBounds_toArray, List.set_cons_zero, List.set_cons_succ]
  refine AnyL.take (i := 14) (oi := { dst := some 47, op := Go.Op.fieldAddr 32 (Go.Operand.tmp 5) 5, type := 0, pos := _, after := #[], guard := none }) (v := ?vv29) (by kernel_rfl) rfl (by kernel_rfl) (by kernel_rfl) (by kernel_rfl) (fun _ _ _ h => h) (Or.inl ⟨by rfl, ?hy29⟩) (by assumption) ?tk29
  case hy29 => (intro w hSw; (try dsimp only at hSw); go_simp; (try with_reducible rfl))
  try simp only [Act.put, List.setIfInBounds_toArray, List.set_cons_zero, List.set_cons_succ]
  refine AnyL.take (i := 15) (oi := { dst := some 48, op := Go.Op.load 28 (Go.Operand.tmp 47), type := 28, pos := _, after := #[{ on := 14, ground := Go.Ground.data }], guard := none }) (v := ?vv30) (by kernel_rfl) rfl (by kernel_rfl) (by kernel_rfl) (by kernel_rfl) (fun _ _ _ h => h) (Or.inl ⟨by rfl, ?hy30⟩) (by assumption) ?tk30
  case hy30 => (intro w hSw; (try dsimp only at hSw); go_simp; (try with_reducible rfl))
  try simp only [Act.put, List.setIfInBounds_toArray, List.set_cons_zero, List.set_cons_succ]
  refine AnyL.one (i := 13) (o := { dst := some 46, op := Go.Op.call { callee := Go.Callee.value (Go.Operand.func 39), args := #[Go.Operand.tmp 43, Go.Operand.tmp 45], argTypes := #[29, 28] }, type := 29, pos := _, after := #[{ on := 10, ground := Go.Ground.data }, { on := 12, ground := Go.Ground.data }], guard := none }) (by kernel_rfl) rfl rfl (fun K' hK' => ?_)
  go_simp
  go_at_call 39
  refine (later_any ht ho.x _).mono ?_
  rintro e wq ⟨rfl, rfl⟩
  rw [HQ.out]
  clear hHeld
  refine hK'.out _ _ ⟨BK.c0, r3, g1, g4, g5⟩ (fun hHeld => ?_)
  clear hK' K'
  try simp only [Act.put, List.setIfInBounds_toArray, List.set_cons_zero, List.set_cons_succ]
  refine AnyL.take (i := 16) (oi := { dst := some 49, op := Go.Op.build 84 #[(0, Go.Operand.tmp 40), (1, Go.Operand.tmp 42), (2, Go.Operand.tmp 46), (3, Go.Operand.tmp 48)], type := 84, pos := _, after := #[{ on := 7, ground := Go.Ground.data }, { on := 9, ground := Go.Ground.data }, { on := 13, ground := Go.Ground.data }, { on := 15, ground := Go.Ground.data }], guard := none }) (v := ?vv31) (by kernel_rfl) rfl (by kernel_rfl) (by kernel_rfl) (by kernel_rfl) (fun _ _ _ h => h) (Or.inl ⟨by rfl, ?hy31⟩) (by assumption) ?tk31
  case hy31 => (intro w hSw; (try dsimp only at hSw); go_simp; (try with_reducible rfl))
  try simp only [Act.put, List.setIfInBounds_toArray, List.set_cons_zero, List.set_cons_succ]
  refine AnyL.last (o := { dst := none, op := Go.Op.mapUpdate 88 (Go.Operand.tmp 36) (Go.Operand.tmp 38) (Go.Operand.tmp 49), type := 0, pos := _, after := #[{ on := 3, ground := Go.Ground.data }, { on := 5, ground := Go.Ground.data }, { on := 16, ground := Go.Ground.data }, { on := 13, ground := Go.Ground.chain }, { on := 0, ground := Go.Ground.phase }, { on := 1, ground := Go.Ground.phase }, { on := 2, ground := Go.Ground.phase }, { on := 3, ground := Go.Ground.phase }, { on := 4, ground := Go.Ground.phase }, { on := 5, ground := Go.Ground.phase }, { on := 6, ground := Go.Ground.phase }, { on := 7, ground := Go.Ground.phase }, { on := 8, ground := Go.Ground.phase }, { on := 9, ground := Go.Ground.phase }, { on := 10, ground := Go.Ground.phase }, { on := 11, ground := Go.Ground.phase }, { on := 12, ground := Go.Ground.phase }, { on := 13, ground := Go.Ground.phase }, { on := 14, ground := Go.Ground.phase }, { on := 15, ground := Go.Ground.phase }, { on := 16, ground := Go.Ground.phase }], guard := none }) (by kernel_rfl) rfl (by kernel_rfl) (fun K' hK' => ?_)
  go_simp
  clear hHeld
  refine hK'.out _ _ ?_
  clear hK' K'
  try simp only [Act.put, List.setIfInBounds_toArray, List.set_cons_zero, List.set_cons_succ]
  clear hrun
  go_wp2
  first | go_end0 | refine bodyPost_ret (results_none rfl _ _ _) rfl ?_
  rw [HN.out.1, HN.out.2]
  have hk := fun {k : Nat} (q : k ≠ pb) => turned_block HM.out.2 q
  exact ⟨rfl, ⟨(World.cell?_of_block (a := ⟨bk, 0, none⟩) (hk hne.1)).trans BK.c0, (World.cell?_of_block (a := ⟨bk, 1, none⟩) (hk hne.1)).trans BK.c1, HM.out.1, (BK.cm.block (w' := w3) (hk (fun e => hne.2.2 e.symm))).mono (by omega), hne⟩, MC.trans ((MutM.refl pb cb wc).drew.trans (MutM.turned HM.out.2 (.inl rfl)))⟩
end Go.Proofs.Qxb6500877aGreatDoor
