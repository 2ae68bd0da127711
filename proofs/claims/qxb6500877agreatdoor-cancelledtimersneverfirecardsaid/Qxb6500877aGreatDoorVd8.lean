import Derived.Test.Qxb6500877aGreatDoorVd0
set_option linter.unusedVariables false
set_option linter.unusedSimpArgs false
namespace Go.Proofs.Qxb6500877aGreatDoor
open Go.RowKit

set_option maxRecDepth 20000 in
set_option maxHeartbeats 8000000 in
theorem note_8 {w : World} {bk pb cb n : Nat} {τ : Int → Option TmV} {χ : Int → Bool} (H : BookAt w bk pb cb n τ χ) (hn : n < 900000) {o : OpS} (ho : o.ok) {t : Nat} (ht : t < 18446744073709551616) {co tk tm : Int} {hm : Bool} {mm : MsgV} {p : Option Addr} {a' n' : Nat} (k8 : o.kd = 8) (hre : ∃ v, τ o.x = some v) :
    Calls Tryz.prog 37 #[.pointer (some ⟨bk, 0, none⟩), opV o, resV 0 co tk tm hm mm p a' n', .int .u64 (t : Int)] w fun e w' => e = .returned (.tuple #[]) ∧ BookAt w' bk pb cb (n + 1) (noteT o 0 tm t τ) (noteX o 0 χ) ∧ MutM pb cb w w' := by
  have hlt := H.lt
  have hne := H.ne
  have hox := ho.x
  have hmx : n < maxLen := by unfold maxLen; omega
  have HKk := hideIt k8
  clear k8
  unfold opV resV
  go_enter Tryz.func37, Tryz.ntmps37
  go_upto_region 0 with fail
  go_cut [5, 6] (fun a5 a6 wc => a5 = .pointer (some ⟨w.heap.size, 0, none⟩) ∧ a6 = .pointer (some ⟨w.heap.size + 1, 0, none⟩) ∧ OpAt wc w.heap.size o ∧ wc.cell? ⟨w.heap.size + 1, 0, none⟩ = some (.int .i64 0) ∧ wc.cell? ⟨w.heap.size + 1, 3, none⟩ = some (.int .u64 tm) ∧ BookAt wc bk pb cb n τ χ ∧ MutM pb cb w wc ∧ w.heap.size + 1 < wc.heap.size)
  case first =>
    have b1 := one_alloc w (.cells #[.int .u8 o.kd, .int .i64 o.a, .int .i64 o.b, .int .i64 o.c, .int .u64 o.x, .int .u64 o.y] 32)
    have o1 := op_new w o 32
    have s1 : (w.alloc (.cells #[.int .u8 o.kd, .int .i64 o.a, .int .i64 o.b, .int .i64 o.c, .int .u64 o.x, .int .u64 o.y] 32)).heap.size = w.heap.size + 1 := by simp
    go_wp2
    go_meet
    case rel =>
      generalize w.alloc (.cells #[.int .u8 o.kd, .int .i64 o.a, .int .i64 o.b, .int .i64 o.c, .int .u64 o.x, .int .u64 o.y] 32) = W1 at *
      have b2 := one_alloc W1 (.cells #[.int .i64 0, .int .i64 co, .int .i64 tk, .int .u64 tm, .bool hm, .int .i64 mm.mf, .int .i64 mm.mt, .int .u32 mm.md, .int .u64 mm.mq, .int .u64 mm.ma, .int .u64 mm.x0, .int .u64 mm.x1, .int .u64 mm.x2, .int .u64 mm.x3, .slice p a' n'] 43)
      refine ⟨rfl, by simp [s1], o1.blk (b2.block _ (by omega)), by rw [← s1]; simp, by rw [← s1]; simp, (H.below b1).below b2, (MutM.below b1).trans (MutM.below b2), by simp; omega⟩
  case rest =>
  obtain ⟨rfl, rfl, OP, r0, r3, BK, MC, hsz⟩ := hcut
  have g0 := OP.c0
  have g1 := OP.c1
  have g4 := OP.c4
  have g5 := OP.c5
  clear H
  have k8 := HKk.out
  rw [k8] at g0
  obtain ⟨u, hu⟩ := hre
  have HN : Hid (noteT o 0 tm t τ = updT τ o.x (some ⟨u.core, o.y, u.ck⟩) ∧ noteX o 0 χ = χ) := hideIt ⟨by simp [noteT, k8, hu], by simp [noteX, k8]⟩
  have HLK : Hid (∀ W, MapT W pb n τ → (Instr.lookup 88 (.map (some pb)) (.int .u64 (o.x : Int)) false).run Tryz.prog W = .ok (.agg #[.int .u64 (o.x : Int), .int .i64 u.core, .int .u64 u.dl, .int .u64 u.ck]) W) := hideIt (fun W hM => by
    have := hM.look1 (id := (o.x : Int)) (by omega) (by omega)
    rw [hu] at this
    exact this)
  clear k8 hu
  go_upto_region 8 with fail
  go_cut [8] (fun a8 wd => ∃ b8 : Nat, a8 = .pointer (some ⟨b8, 0, none⟩) ∧ Four wd b8 (o.x : Int) u.core u.dl u.ck ∧ BookAt wd bk pb cb n τ χ ∧ OpAt wd w.heap.size o ∧ MutM pb cb w wd ∧ b8 ≠ bk ∧ b8 ≠ pb ∧ b8 ≠ cb ∧ w.heap.size < b8)
  case first =>
    have b1 := one_alloc (World.drew wc) (.cells #[.int .u64 0, .int .i64 0, .int .u64 0, .int .u64 0] 84)
    have hbl := BK.lt
    have f1 : Four ((World.drew wc).alloc (.cells #[.int .u64 0, .int .i64 0, .int .u64 0, .int .u64 0] 84)) wc.heap.size 0 0 0 0 := four_new (World.drew wc) 0 0 0 0 84
    have q1 : ¬ (wc.heap.size = bk) := by omega
    have q2 : ¬ (wc.heap.size = w.heap.size) := by omega
    refine wp_region_l (l := 8) (S := (fun w' => w'.cell? ⟨bk, 0, none⟩ = some (.map (some pb)) ∧ w'.cell? ⟨w.heap.size, 4, none⟩ = some (.int .u64 o.x) ∧ (Instr.lookup 88 (.map (some pb)) (.int .u64 (o.x : Int)) false).run Tryz.prog w' = .ok (.agg #[.int .u64 (o.x : Int), .int .i64 u.core, .int .u64 u.dl, .int .u64 u.ck]) w')) (by kernel_rfl) ⟨BK.c0, g4, HLK.out _ BK.drew.pm⟩ (fun hHeld => ?_)
    refine AnyL.take (i := 0) (oi := { dst := some 52, op := Go.Op.move (Go.Operand.tmp 0), type := 78, pos := _, after := #[], guard := none }) (v := ?vv32) (by kernel_rfl) rfl (by kernel_rfl) (by kernel_rfl) (by kernel_rfl) (fun _ _ _ h => h) (Or.inl ⟨by rfl, ?hy32⟩) (by assumption) ?tk32
    case hy32 => (intro w hSw; (try dsimp only at hSw); go_simp; (try with_reducible rfl))
    try simp only [Act.put, List.setIfInBounds_toArray, List.set_cons_zero, List.set_cons_succ]
    refine AnyL.take (i := 1) (oi := { dst := some 53, op := Go.Op.nilCheck (Go.Operand.tmp 52), type := 0, pos := _, after := #[{ on := 0, ground := Go.Ground.data }], guard := none }) (v := ?vv33) (by kernel_rfl) rfl (by kernel_rfl) (by kernel_rfl) (by kernel_rfl) (fun _ _ _ h => h) (Or.inl ⟨by rfl, ?hy33⟩) (by assumption) ?tk33
    case hy33 => (intro w hSw; (try dsimp only at hSw); go_simp; (try with_reducible rfl))
    try simp only [Act.put, List.setIfInBounds_toArray, List.set_cons_zero, List.set_cons_succ]
    refine AnyL.take (i := 2) (oi := { dst := some 54, op := Go.Op.fieldAddr 91 (Go.Operand.tmp 53) 0, type := 0, pos := _, after := #[{ on := 1, ground := Go.Ground.data }], guard := none }) (v := ?vv34) (by kernel_rfl) rfl (by kernel_rfl) (by kernel_rfl) (by kernel_rfl) (fun _ _ _ h => h) (Or.inl ⟨by rfl, ?hy34⟩) (by assumption) ?tk34
    case hy34 => (intro w hSw; (try dsimp only at hSw); go_simp; (try with_reducible rfl))
    try simp only [Act.put, List.setIfInBounds_toArray, List.set_cons_zero, List.set_cons_succ]
    refine AnyL.take (i := 3) (oi := { dst := some 55, op := Go.Op.load 88 (Go.Operand.tmp 54), type := 88, pos := _, after := #[{ on := 2, ground := Go.Ground.data }], guard := none }) (v := ?vv35) (by kernel_rfl) rfl (by kernel_rfl) (by kernel_rfl) (by kernel_rfl) (fun _ _ _ h => h) (Or.inl ⟨by rfl, ?hy35⟩) (by assumption) ?tk35
    case hy35 => (intro w hSw; (try dsimp only at hSw); go_simp; (try with_reducible rfl))
    try simp only [Act.put, List.setIfInBounds_toArray, List.set_cons_zero, List.set_cons_succ]
    refine AnyL.take (i := 4) (oi := { dst := some 56, op := Go.Op.fieldAddr 32 (Go.Operand.tmp 5) 4, type := 0, pos := _, after := #[], guard := none }) (v := ?vv36) (by kernel_rfl) rfl (by kernel_rfl) (by kernel_rfl) (by kernel_rfl) (fun _ _ _ h => h) (Or.inl ⟨by rfl, ?hy36⟩) (by assumption) ?tk36
    case hy36 => (intro w hSw; (try dsimp only at hSw); go_simp; (try with_reducible rfl))
    try simp only [Act.put, List.setIfInBounds_toArray, List.set_cons_zero, List.set_cons_succ]
    refine AnyL.take (i := 5) (oi := { dst := some 57, op := Go.Op.load 28 (Go.Operand.tmp 56), type := 28, pos := _, after := #[{ on := 4, ground := Go.Ground.data }], guard := none }) (v := ?vv37) (by kernel_rfl) rfl (by kernel_rfl) (by kernel_rfl) (by kernel_rfl) (fun _ _ _ h => h) (Or.inl ⟨by rfl, ?hy37⟩) (by assumption) ?tk37
    case hy37 => (intro w hSw; (try dsimp only at hSw); go_simp; (try with_reducible rfl))
    try simp only [Act.put, List.setIfInBounds_toArray, List.set_cons_zero, List.set_cons_succ]
    refine AnyL.take (i := 6) (oi := { dst := some 58, op := Go.Op.lookup 88 (Go.Operand.tmp 55) (Go.Operand.tmp 57) false, type := 84, pos := _, after := #[{ on := 3, ground := Go.Ground.data }, { on := 5, ground := Go.Ground.data }], guard := none }) (v := ?vv38) (by kernel_rfl) rfl (by kernel_rfl) (by kernel_rfl) (by kernel_rfl) (fun _ _ _ h => h) (Or.inl ⟨by rfl, ?hy38⟩) (by assumption) ?tk38
    case hy38 => (intro w hSw; (try dsimp only at hSw); go_simp; (try with_reducible rfl))
    try simp only [Act.put, List.setIfInBounds_toArray, List.set_cons_zero, List.set_cons_succ]
    refine AnyL.one (i := 7) (o := { dst := some 8, op := Go.Op.alloc 84, type := 0, pos := _, after := #[], guard := none }) (by kernel_rfl) rfl rfl (fun K' hK' => ?_)
    go_simp
    clear hHeld
    refine hK'.out _ _ ⟨(BK.drew.below (one_alloc (World.drew wc) _)).c0, (OP.blk (w' := World.alloc (World.drew wc) _) ((one_alloc (World.drew wc) _).block _ (show w.heap.size < wc.heap.size by omega))).c4, HLK.out _ (BK.drew.below (one_alloc (World.drew wc) _)).pm⟩ (fun hHeld => ?_)
    clear hK' K'
    try simp only [Act.put, List.setIfInBounds_toArray, List.set_cons_zero, List.set_cons_succ]
    refine AnyL.last (o := { dst := none, op := Go.Op.store 84 (Go.Operand.tmp 8) (Go.Operand.tmp 58), type := 0, pos := _, after := #[{ on := 7, ground := Go.Ground.data }, { on := 6, ground := Go.Ground.data }, { on := 0, ground := Go.Ground.phase }, { on := 1, ground := Go.Ground.phase }, { on := 2, ground := Go.Ground.phase }, { on := 3, ground := Go.Ground.phase }, { on := 4, ground := Go.Ground.phase }, { on := 5, ground := Go.Ground.phase }, { on := 6, ground := Go.Ground.phase }, { on := 7, ground := Go.Ground.phase }], guard := none }) (by kernel_rfl) rfl (by kernel_rfl) (fun K' hK' => ?_)
    go_simp
    clear hHeld
    refine hK'.out _ _ ?_
    clear hK' K'
    try simp only [Act.put, List.setIfInBounds_toArray, List.set_cons_zero, List.set_cons_succ]
    go_wp2
    go_meet
    case rel =>
      have b2 := one_alloc wc (.cells #[.int .u64 (o.x : Int), .int .i64 u.core, .int .u64 u.dl, .int .u64 u.ck] 84)
      have f2 := four_new wc (o.x : Int) u.core u.dl u.ck 84
      exact ⟨wc.heap.size, rfl, f2.of_block rfl, (BK.below b2).drew, OP.blk (b2.block _ (by omega)), (MC.trans (MutM.below b2)).drew, by omega, by omega, by omega, by omega⟩
  case rest =>
  clear BK OP MC g0 g1 g4 g5 r0 r3 hsz
  obtain ⟨b8, rfl, F8, BK, OP, MC, q1, q2, q3, q4⟩ := hcut
  go_upto_region 9 with fail
  go_cut [] (fun wd => Four wd b8 (o.x : Int) u.core (o.y : Int) u.ck ∧ BookAt wd bk pb cb n τ χ ∧ OpAt wd w.heap.size o ∧ MutM pb cb w wd)
  case first =>
    have g5 := OP.c5
    have f2 := F8.c2
    have fz := F8.fz
    go_wp2
    go_meet
    case rel =>
      have hk : ∀ k, k ≠ b8 → (wc.setCell ⟨b8, 2, none⟩ (.int .u64 (o.y : Int))).heap[k]? = wc.heap[k]? := fun k hk => heap_set (fun e => hk e.symm)
      refine ⟨⟨?_, ?_, World.cell?_setCell_same _ _ _ F8.c2, ?_, fun o => by simpa using F8.fz o⟩, BK.keep (fun k q => hk k (by omega)), OP.blk (hk _ (by omega)), MC.fresh ⟨b8, 2, none⟩ (by show w.heap.size ≤ b8; omega) _⟩
      · exact (World.cell?_setCell_other _ _ _ _ (by simp)).trans F8.c0
      · exact (World.cell?_setCell_other _ _ _ _ (by simp)).trans F8.c1
      · exact (World.cell?_setCell_other _ _ _ _ (by simp)).trans F8.c3
  case rest =>
  clear BK OP MC F8
  obtain ⟨F8, BK, OP, MC⟩ := hcut
  obtain ⟨w3, hrun, hm3, ht3⟩ := BK.drew.pm.store (id := (o.x : Int)) (v := ⟨u.core, o.y, u.ck⟩) hmx (by omega) (by omega)
  simp only [tmVal] at hrun
  have HM := hideIt (And.intro hm3 ht3)
  clear hm3 ht3
  go_wp2_with fail
  refine wp_region_l (l := 7) (S := (fun w' => w'.cell? ⟨bk, 0, none⟩ = some (.map (some pb)) ∧ w'.cell? ⟨w.heap.size, 4, none⟩ = some (.int .u64 o.x) ∧ w'.cell? ⟨b8, 0, none⟩ = some (.int .u64 (o.x : Int)) ∧ w'.cell? ⟨b8, 1, none⟩ = some (.int .i64 u.core) ∧ w'.cell? ⟨b8, 2, none⟩ = some (.int .u64 (o.y : Int)) ∧ w'.cell? ⟨b8, 3, none⟩ = some (.int .u64 u.ck))) (by kernel_rfl) ⟨BK.c0, OP.c4, F8.c0, F8.c1, F8.c2, F8.c3⟩ (fun hHeld => ?_)
  refine AnyL.take (i := 0) (oi := { dst := some 62, op := Go.Op.move (Go.Operand.tmp 0), type := 78, pos := _, after := #[], guard := none }) (v := ?vv39) (by kernel_rfl) rfl (by kernel_rfl) (by kernel_rfl) (by kernel_rfl) (fun _ _ _ h => h) (Or.inl ⟨by rfl, ?hy39⟩) (by assumption) ?tk39
  case hy39 => (intro w hSw; (try dsimp only at hSw); go_simp; (try with_reducible rfl))
  try simp only [Act.put, List.setIfInBounds_toArray, List.set_cons_zero, List.set_cons_succ]
  refine AnyL.take (i := 1) (oi := { dst := some 63, op := Go.Op.nilCheck (Go.Operand.tmp 62), type := 0, pos := _, after := #[{ on := 0, ground := Go.Ground.data }], guard := none }) (v := ?vv40) (by kernel_rfl) rfl (by kernel_rfl) (by kernel_rfl) (by kernel_rfl) (fun _ _ _ h => h) (Or.inl ⟨by rfl, ?hy40⟩) (by assumption) ?tk40
  case hy40 => (intro w hSw; (try dsimp only at hSw); go_simp; (try with_reducible rfl))
  try simp only [Act.put, List.setIfInBounds_toArray, List.set_cons_zero, List.set_cons_succ]
  refine AnyL.take (i := 2) (oi := { dst := some 64, op := Go.Op.fieldAddr 91 (Go.Operand.tmp 63) 0, type := 0, pos := _, after := #[{ on := 1, ground := Go.Ground.data }], guard := none }) (v := ?vv41) (by kernel_rfl) rfl (by kernel_rfl) (by kernel_rfl) (by kernel_rfl) (fun _ _ _ h => h) (Or.inl ⟨by rfl, ?hy41⟩) (by assumption) ?tk41
  case hy41 => (intro w hSw; (try dsimp only at hSw); go_simp; (try with_reducible rfl))
  try simp only [Act.put, List.setIfInBounds_toArray, List.set_cons_zero, List.set_cons_succ]
  refine AnyL.take (i := 3) (oi := { dst := some 65, op := Go.Op.load 88 (Go.Operand.tmp 64), type := 88, pos := _, after := #[{ on := 2, ground := Go.Ground.data }], guard := none }) (v := ?vv42) (by kernel_rfl) rfl (by kernel_rfl) (by kernel_rfl) (by kernel_rfl) (fun _ _ _ h => h) (Or.inl ⟨by rfl, ?hy42⟩) (by assumption) ?tk42
  case hy42 => (intro w hSw; (try dsimp only at hSw); go_simp; (try with_reducible rfl))
  try simp only [Act.put, List.setIfInBounds_toArray, List.set_cons_zero, List.set_cons_succ]
  refine AnyL.take (i := 4) (oi := { dst := some 66, op := Go.Op.fieldAddr 32 (Go.Operand.tmp 5) 4, type := 0, pos := _, after := #[], guard := none }) (v := ?vv43) (by kernel_rfl) rfl (by kernel_rfl) (by kernel_rfl) (by kernel_rfl) (fun _ _ _ h => h) (Or.inl ⟨by rfl, ?hy43⟩) (by assumption) ?tk43
  case hy43 => (intro w hSw; (try dsimp only at hSw); go_simp; (try with_reducible rfl))
  try simp only [Act.put, List.setIfInBounds_toArray, List.set_cons_zero, List.set_cons_succ]
  refine AnyL.take (i := 5) (oi := { dst := some 67, op := Go.Op.load 28 (Go.Operand.tmp 66), type := 28, pos := _, after := #[{ on := 4, ground := Go.Ground.data }], guard := none }) (v := ?vv44) (by kernel_rfl) rfl (by kernel_rfl) (by kernel_rfl) (by kernel_rfl) (fun _ _ _ h => h) (Or.inl ⟨by rfl, ?hy44⟩) (by assumption) ?tk44
  case hy44 => (intro w hSw; (try dsimp only at hSw); go_simp; (try with_reducible rfl))
  try simp only [Act.put, List.setIfInBounds_toArray, List.set_cons_zero, List.set_cons_succ]
  refine AnyL.take (i := 6) (oi := { dst := some 68, op := Go.Op.load 84 (Go.Operand.tmp 8), type := 84, pos := _, after := #[], guard := none }) (v := ?vv45) (by kernel_rfl) rfl (by kernel_rfl) (by kernel_rfl) (by kernel_rfl) (fun _ _ _ h => h) (Or.inl ⟨by rfl, ?hy45⟩) (by assumption) ?tk45
  case hy45 => (intro w hSw; (try dsimp only at hSw); go_simp; (try with_reducible rfl))
  try simp only [Act.put, List.setIfInBounds_toArray, List.set_cons_zero, List.set_cons_succ]
  refine AnyL.last (o := { dst := none, op := Go.Op.mapUpdate 88 (Go.Operand.tmp 65) (Go.Operand.tmp 67) (Go.Operand.tmp 68), type := 0, pos := _, after := #[{ on := 3, ground := Go.Ground.data }, { on := 5, ground := Go.Ground.data }, { on := 6, ground := Go.Ground.data }, { on := 0, ground := Go.Ground.phase }, { on := 1, ground := Go.Ground.phase }, { on := 2, ground := Go.Ground.phase }, { on := 3, ground := Go.Ground.phase }, { on := 4, ground := Go.Ground.phase }, { on := 5, ground := Go.Ground.phase }, { on := 6, ground := Go.Ground.phase }], guard := none }) (by kernel_rfl) rfl (by kernel_rfl) (fun K' hK' => ?_)
  go_simp
  clear hHeld
  refine hK'.out _ _ ?_
  clear hK' K'
  try simp only [Act.put, List.setIfInBounds_toArray, List.set_cons_zero, List.set_cons_succ]
  clear hrun
  go_wp2
  first | go_end0 | refine bodyPost_ret (results_none rfl _ _ _) rfl ?_
  rw [HN.out.1, HN.out.2]
  have hk := fun {k : Nat} (q : k ≠ pb) => turned_block HM.out.2 q
  exact ⟨rfl, ⟨(World.cell?_of_block (a := ⟨bk, 0, none⟩) (hk hne.1)).trans BK.c0, (World.cell?_of_block (a := ⟨bk, 1, none⟩) (hk hne.1)).trans BK.c1, HM.out.1, (BK.cm.block (w' := w3) (hk (fun e => hne.2.2 e.symm))).mono (by omega), hne⟩, MC.trans ((MutM.refl pb cb wc).drew.trans (MutM.turned HM.out.2 (.inl rfl)))⟩
end Go.Proofs.Qxb6500877aGreatDoor
