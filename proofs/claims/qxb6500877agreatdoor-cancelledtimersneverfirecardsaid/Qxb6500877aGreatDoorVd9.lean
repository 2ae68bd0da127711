import Derived.Test.Qxb6500877aGreatDoorVd0
set_option linter.unusedVariables false
set_option linter.unusedSimpArgs false
namespace Go.Proofs.Qxb6500877aGreatDoor
open Go.RowKit

set_option maxRecDepth 20000 in
set_option maxHeartbeats 8000000 in
theorem note_9 {w : World} {bk pb cb n : Nat} {τ : Int → Option TmV} {χ : Int → Bool} (H : BookAt w bk pb cb n τ χ) (hn : n < 900000) {o : OpS} (ho : o.ok) {t : Nat} (ht : t < 18446744073709551616) {co tk tm : Int} {hm : Bool} {mm : MsgV} {p : Option Addr} {a' n' : Nat} (k9 : o.kd = 9) :
    Calls Tryz.prog 37 #[.pointer (some ⟨bk, 0, none⟩), opV o, resV 0 co tk tm hm mm p a' n', .int .u64 (t : Int)] w fun e w' => e = .returned (.tuple #[]) ∧ BookAt w' bk pb cb (n + 1) (noteT o 0 tm t τ) (noteX o 0 χ) ∧ MutM pb cb w w' := by
  have hlt := H.lt
  have hne := H.ne
  have hox := ho.x
  have hmx : n < maxLen := by unfold maxLen; omega
  have HKk := hideIt k9
  clear k9
  unfold opV resV
  go_enter Tryz.func37, Tryz.ntmps37
  go_upto_region 0 with fail
  go_cut [5, 6] (fun a5 a6 wc => a5 = .pointer (some ⟨w.heap.size, 0, none⟩) ∧ a6 = .pointer (some ⟨w.heap.size + 1, 0, none⟩) ∧ OpAt wc w.heap.size o ∧ wc.cell? ⟨w.heap.size + 1, 0, none⟩ = some (.int .i64 0) ∧ wc.cell? ⟨w.heap.size + 1, 3, none⟩ = some (.int .u64 tm) ∧ BookAt wc bk pb cb n τ χ ∧ MutM pb cb w wc ∧ w.heap.size + 1 < wc.heap.size)
  case first =>
    have b1 := one_alloc w (.cells #[.int .u8 o.kd, .int .i64 o.a, .int .i64 o.b, .int .i64 o.c, .int .u64 o.x, .int .u64 o.y] 32)
    have o1 := op_new w o 32
    have s1 : (w.alloc (.cells #[.int .u8 o.kd, .int .i64 o.a, .int .i64 o.b, .int .i64 o.c, .int .u64 o.x, .int .u64 o.y] 32)).heap.size = w.heap.size + 1 := by simp
    go_wp2
    go_meet
    case rel =>
      generalize w.alloc (.cells #[.int .u8 o.kd, .int .i64 o.a, .int .i64 o.b, .int .i64 o.c, .int .u64 o.x, .int .u64 o.y] 32) = W1 at *
      have b2 := one_alloc W1 (.cells #[.int .i64 0, .int .i64 co, .int .i64 tk, .int .u64 tm, .bool hm, .int .i64 mm.mf, .int .i64 mm.mt, .int .u32 mm.md, .int .u64 mm.mq, .int .u64 mm.ma, .int .u64 mm.x0, .int .u64 mm.x1, .int .u64 mm.x2, .int .u64 mm.x3, .slice p a' n'] 43)
      refine ⟨rfl, by simp [s1], o1.blk (b2.block _ (by omega)), by rw [← s1]; simp, by rw [← s1]; simp, (H.below b1).below b2, (MutM.below b1).trans (MutM.below b2), by simp; omega⟩
  case rest =>
  obtain ⟨rfl, rfl, OP, r0, r3, BK, MC, hsz⟩ := hcut
  have g0 := OP.c0
  have g1 := OP.c1
  have g4 := OP.c4
  have g5 := OP.c5
  clear H
  have k9 := HKk.out
  rw [k9] at g0
  have HN : Hid (noteT o 0 tm t τ = updT τ o.x none ∧ noteX o 0 χ = fun j : Int => if j = (o.x : Int) then true else χ j) := hideIt ⟨by simp [noteT, k9], by simp [noteX, k9]⟩
  clear k9
  obtain ⟨w3, hrun, hm3, ht3⟩ := BK.drew.pm.drop (id := (o.x : Int)) (by omega) (by omega) 0
  have HM := hideIt (And.intro hm3 ht3)
  have k0 : w3.cell? ⟨bk, 0, none⟩ = some (.map (some pb)) := (World.cell?_of_block (a := ⟨bk, 0, none⟩) (turned_block ht3 hne.1)).trans BK.c0
  have hpw : w.heap.size ≠ pb := by omega
  have k4 : w3.cell? ⟨w.heap.size, 4, none⟩ = some (.int .u64 (o.x : Int)) := (World.cell?_of_block (a := ⟨w.heap.size, 4, none⟩) (turned_block ht3 hpw)).trans OP.c4
  clear hm3 ht3
  go_upto_region 12 with fail
  go_cut [] (fun wd => BookAt wd bk pb cb n (updT τ o.x none) χ ∧ OpAt wd w.heap.size o ∧ MutM pb cb w wd)
  case first =>
    refine wp_region_held_drew (S := (fun w' => w'.cell? ⟨bk, 0, none⟩ = some (.map (some pb)) ∧ w'.cell? ⟨w.heap.size, 4, none⟩ = some (.int .u64 o.x))) (by kernel_rfl) ⟨BK.c0, g4⟩ (fun hHeld => ?_)
    refine wpAnyH_take (i := 0) (oi := { dst := some 71, op := Go.Op.move (Go.Operand.tmp 0), type := 78, pos := _, after := #[], guard := none }) (v := ?vv46) rfl (by kernel_rfl) (by kernel_rfl) (by kernel_rfl) (fun _ _ _ h => h) (Or.inl ⟨by rfl, ?hy46⟩) (by assumption) ?tk46
    case hy46 => (intro w hSw; (try dsimp only at hSw); go_simp; (try with_reducible rfl))
    try simp only [Act.put, List.setIfInBounds_toArray, List.set_cons_zero, List.set_cons_succ]
    refine wpAnyH_take (i := 1) (oi := { dst := some 72, op := Go.Op.nilCheck (Go.Operand.tmp 71), type := 0, pos := _, after := #[{ on := 0, ground := Go.Ground.data }], guard := none }) (v := ?vv47) rfl (by kernel_rfl) (by kernel_rfl) (by kernel_rfl) (fun _ _ _ h => h) (Or.inl ⟨by rfl, ?hy47⟩) (by assumption) ?tk47
    case hy47 => (intro w hSw; (try dsimp only at hSw); go_simp; (try with_reducible rfl))
    try simp only [Act.put, List.setIfInBounds_toArray, List.set_cons_zero, List.set_cons_succ]
    refine wpAnyH_take (i := 2) (oi := { dst := some 73, op := Go.Op.fieldAddr 91 (Go.Operand.tmp 72) 0, type := 0, pos := _, after := #[{ on := 1, ground := Go.Ground.data }], guard := none }) (v := ?vv48) rfl (by kernel_rfl) (by kernel_rfl) (by kernel_rfl) (fun _ _ _ h => h) (Or.inl ⟨by rfl, ?hy48⟩) (by assumption) ?tk48
    case hy48 => (intro w hSw; (try dsimp only at hSw); go_simp; (try with_reducible rfl))
    try simp only [Act.put, List.setIfInBounds_toArray, List.set_cons_zero, List.set_cons_succ]
    refine wpAnyH_take (i := 3) (oi := { dst := some 74, op := Go.Op.load 88 (Go.Operand.tmp 73), type := 88, pos := _, after := #[{ on := 2, ground := Go.Ground.data }], guard := none }) (v := ?vv49) rfl (by kernel_rfl) (by kernel_rfl) (by kernel_rfl) (fun _ _ _ h => h) (Or.inl ⟨by rfl, ?hy49⟩) (by assumption) ?tk49
    case hy49 => (intro w hSw; (try dsimp only at hSw); go_simp; (try with_reducible rfl))
    try simp only [Act.put, List.setIfInBounds_toArray, List.set_cons_zero, List.set_cons_succ]
    refine wpAnyH_take (i := 4) (oi := { dst := some 75, op := Go.Op.fieldAddr 32 (Go.Operand.tmp 5) 4, type := 0, pos := _, after := #[], guard := none }) (v := ?vv50) rfl (by kernel_rfl) (by kernel_rfl) (by kernel_rfl) (fun _ _ _ h => h) (Or.inl ⟨by rfl, ?hy50⟩) (by assumption) ?tk50
    case hy50 => (intro w hSw; (try dsimp only at hSw); go_simp; (try with_reducible rfl))
    try simp only [Act.put, List.setIfInBounds_toArray, List.set_cons_zero, List.set_cons_succ]
    refine wpAnyH_take (i := 5) (oi := { dst := some 76, op := Go.Op.load 28 (Go.Operand.tmp 75), type := 28, pos := _, after := #[{ on := 4, ground := Go.Ground.data }], guard := none }) (v := ?vv51) rfl (by kernel_rfl) (by kernel_rfl) (by kernel_rfl) (fun _ _ _ h => h) (Or.inl ⟨by rfl, ?hy51⟩) (by assumption) ?tk51
    case hy51 => (intro w hSw; (try dsimp only at hSw); go_simp; (try with_reducible rfl))
    try simp only [Act.put, List.setIfInBounds_toArray, List.set_cons_zero, List.set_cons_succ]
    refine wpAnyH_ready (rs := [6]) (by kernel_rfl) (by simp) ?_
    refine AllReadyH.cons (o := { dst := none, op := Go.Op.call { callee := Go.Callee.builtin Go.Builtin.delete, args := #[Go.Operand.tmp 74, Go.Operand.tmp 76], argTypes := #[88, 36] }, type := 0, pos := _, after := #[{ on := 3, ground := Go.Ground.data }, { on := 5, ground := Go.Ground.data }], guard := none }) rfl (fun K' hK' => ?_) AllReadyH.nil
    go_simp
    clear hHeld
    refine hK'.out _ _ ⟨k0, k4⟩ (fun hHeld => ?_)
    clear hK' K'
    try simp only [Act.put, List.setIfInBounds_toArray, List.set_cons_zero, List.set_cons_succ]
    refine wpAnyH_done (by kernel_rfl) ?_ _
    go_wp2
    go_meet
    case rel =>
      have hk := fun {k : Nat} (q : k ≠ pb) => turned_block HM.out.2 q
      exact ⟨⟨k0, (World.cell?_of_block (a := ⟨bk, 1, none⟩) (hk hne.1)).trans BK.c1, HM.out.1, BK.cm.block (w' := w3) (hk (fun e => hne.2.2 e.symm)), hne⟩, OP.blk (w' := w3) (hk hpw), MC.trans ((MutM.refl pb cb wc).drew.trans (MutM.turned HM.out.2 (.inl rfl)))⟩
  case rest =>
  clear BK OP MC g0 g1 g4 g5 r0 r3 hsz hrun HM k0 k4
  obtain ⟨BK, OP, MC⟩ := hcut
  obtain ⟨w4, hrun, hm3, ht3⟩ := BK.drew.cm.store hmx (id := (o.x : Int)) (by omega) (by omega) true
  have HM := hideIt (And.intro hm3 ht3)
  clear hm3 ht3
  go_wp2_with fail
  refine wp_region_l (l := 6) (S := (fun w' => w'.cell? ⟨bk, 1, none⟩ = some (.map (some cb)) ∧ w'.cell? ⟨w.heap.size, 4, none⟩ = some (.int .u64 o.x))) (by kernel_rfl) ⟨BK.c1, OP.c4⟩ (fun hHeld => ?_)
  refine AnyL.take (i := 0) (oi := { dst := some 77, op := Go.Op.move (Go.Operand.tmp 0), type := 78, pos := _, after := #[], guard := none }) (v := ?vv52) (by kernel_rfl) rfl (by kernel_rfl) (by kernel_rfl) (by kernel_rfl) (fun _ _ _ h => h) (Or.inl ⟨by rfl, ?hy52⟩) (by assumption) ?tk52
  case hy52 => (intro w hSw; (try dsimp only at hSw); go_simp; (try with_reducible rfl))
  try simp only [Act.put, List.setIfInBounds_toArray, List.set_cons_zero, List.set_cons_succ]
  refine AnyL.take (i := 1) (oi := { dst := some 78, op := Go.Op.nilCheck (Go.Operand.tmp 77), type := 0, pos := _, after := #[{ on := 0, ground := Go.Ground.data }], guard := none }) (v := ?vv53) (by kernel_rfl) rfl (by kernel_rfl) (by kernel_rfl) (by kernel_rfl) (fun _ _ _ h => h) (Or.inl ⟨by rfl, ?hy53⟩) (by assumption) ?tk53
  case hy53 => (intro w hSw; (try dsimp only at hSw); go_simp; (try with_reducible rfl))
  try simp only [Act.put, List.setIfInBounds_toArray, List.set_cons_zero, List.set_cons_succ]
  refine AnyL.take (i := 2) (oi := { dst := some 79, op := Go.Op.fieldAddr 91 (Go.Operand.tmp 78) 1, type := 0, pos := _, after := #[{ on := 1, ground := Go.Ground.data }], guard := none }) (v := ?vv54) (by kernel_rfl) rfl (by kernel_rfl) (by kernel_rfl) (by kernel_rfl) (fun _ _ _ h => h) (Or.inl ⟨by rfl, ?hy54⟩) (by assumption) ?tk54
  case hy54 => (intro w hSw; (try dsimp only at hSw); go_simp; (try with_reducible rfl))
  try simp only [Act.put, List.setIfInBounds_toArray, List.set_cons_zero, List.set_cons_succ]
  refine AnyL.take (i := 3) (oi := { dst := some 80, op := Go.Op.load 89 (Go.Operand.tmp 79), type := 89, pos := _, after := #[{ on := 2, ground := Go.Ground.data }], guard := none }) (v := ?vv55) (by kernel_rfl) rfl (by kernel_rfl) (by kernel_rfl) (by kernel_rfl) (fun _ _ _ h => h) (Or.inl ⟨by rfl, ?hy55⟩) (by assumption) ?tk55
  case hy55 => (intro w hSw; (try dsimp only at hSw); go_simp; (try with_reducible rfl))
  try simp only [Act.put, List.setIfInBounds_toArray, List.set_cons_zero, List.set_cons_succ]
  refine AnyL.take (i := 4) (oi := { dst := some 81, op := Go.Op.fieldAddr 32 (Go.Operand.tmp 5) 4, type := 0, pos := _, after := #[], guard := none }) (v := ?vv56) (by kernel_rfl) rfl (by kernel_rfl) (by kernel_rfl) (by kernel_rfl) (fun _ _ _ h => h) (Or.inl ⟨by rfl, ?hy56⟩) (by assumption) ?tk56
  case hy56 => (intro w hSw; (try dsimp only at hSw); go_simp; (try with_reducible rfl))
  try simp only [Act.put, List.setIfInBounds_toArray, List.set_cons_zero, List.set_cons_succ]
  refine AnyL.take (i := 5) (oi := { dst := some 82, op := Go.Op.load 28 (Go.Operand.tmp 81), type := 28, pos := _, after := #[{ on := 4, ground := Go.Ground.data }], guard := none }) (v := ?vv57) (by kernel_rfl) rfl (by kernel_rfl) (by kernel_rfl) (by kernel_rfl) (fun _ _ _ h => h) (Or.inl ⟨by rfl, ?hy57⟩) (by assumption) ?tk57
  case hy57 => (intro w hSw; (try dsimp only at hSw); go_simp; (try with_reducible rfl))
  try simp only [Act.put, List.setIfInBounds_toArray, List.set_cons_zero, List.set_cons_succ]
  refine AnyL.last (o := { dst := none, op := Go.Op.mapUpdate 89 (Go.Operand.tmp 80) (Go.Operand.tmp 82) (Go.Operand.const (Go.Value.bool true)), type := 0, pos := _, after := #[{ on := 3, ground := Go.Ground.data }, { on := 5, ground := Go.Ground.data }, { on := 0, ground := Go.Ground.phase }, { on := 1, ground := Go.Ground.phase }, { on := 2, ground := Go.Ground.phase }, { on := 3, ground := Go.Ground.phase }, { on := 4, ground := Go.Ground.phase }, { on := 5, ground := Go.Ground.phase }], guard := none }) (by kernel_rfl) rfl (by kernel_rfl) (fun K' hK' => ?_)
  go_simp
  clear hHeld
  refine hK'.out _ _ ?_
  clear hK' K'
  try simp only [Act.put, List.setIfInBounds_toArray, List.set_cons_zero, List.set_cons_succ]
  clear hrun
  go_wp2
  first | go_end0 | refine bodyPost_ret (results_none rfl _ _ _) rfl ?_
  rw [HN.out.1, HN.out.2]
  have hk := fun {k : Nat} (q : k ≠ cb) => turned_block HM.out.2 q
  exact ⟨rfl, ⟨(World.cell?_of_block (a := ⟨bk, 0, none⟩) (hk hne.2.1)).trans BK.c0, (World.cell?_of_block (a := ⟨bk, 1, none⟩) (hk hne.2.1)).trans BK.c1, (BK.pm.block (w' := w4) (hk hne.2.2)).mono (by omega), HM.out.1, hne⟩, MC.trans ((MutM.refl pb cb wc).drew.trans (MutM.turned HM.out.2 (.inr rfl)))⟩
end Go.Proofs.Qxb6500877aGreatDoor
