import Derived.Deep.CutBlock
import Derived.OwnWalk
import Derived.Maps.AppendAt
import Derived.Test.Qxb6500877aGreatDoorTr5
set_option linter.unusedVariables false
set_option linter.unusedSimpArgs false
namespace Go.Proofs.Qxb6500877aGreatDoor
open Go.RowKit

/-- An event with nothing told but its kind and its time. -/
def bl (t : Nat) (kd : Int) : EvS := ⟨kd, t, -1, -1, 0, -1, 0, 0, 0⟩
def evR (t : Nat) (c : Int) : EvS := ⟨10, t, -1, -1, 0, -1, 0, 0, c⟩
theorem sz123 : (Tryz.prog.info? 123).map (·.size) = some 9 := by kernel_rfl
theorem ifc_eql (v : Value) (w : World) : (binOp .eql 113 (.iface 110 v) .nilIface).run Tryz.prog w = .ok (.bool false) w := by kernel_rfl
theorem ifc_neq (v : Value) (w : World) : (binOp .neq 113 (.iface 110 v) .nilIface).run Tryz.prog w = .ok (.bool true) w := by kernel_rfl
set_option maxHeartbeats 1000000 in
theorem blank_any {w : World} {B t : Nat} (hc : w.cell? ⟨B, 0, none⟩ = some (.int .u64 (t : Int))) (kd : Int) : Calls Tryz.prog 172 #[.pointer (some ⟨B, 0, none⟩), .int .u8 kd] w fun e w' => e = .returned (evV (bl t kd)) ∧ Below w.heap.size w w' := by
  have hlt := World.block_lt_of_cell? _ _ hc
  have hne : ¬ (B = w.heap.size) := by have : B < w.heap.size := hlt; omega
  unfold evV bl
  go_enter Tryz.func172, Tryz.ntmps172
  go_wp2
  refine bodyPost_ret (results_cell_row rfl _ _ w.heap.size 123 _ (0, 0) _ rfl (heap_alloc_last w _) Tryz.underlying123 rfl sz123) rfl ⟨rfl, one_alloc w _⟩
set_option maxRecDepth 20000 in
set_option maxHeartbeats 2000000 in
theorem refuse_l {w : World} {B mb t k : Nat} {ν : Net} {τ : TSt} {σ : Sg} {T : TS} {V : Value} {l : List EvS} (H : ML w B mb t k ν τ σ T V l) (hl : l.length < 1000000000) (c : Int) : Calls Tryz.prog 128 #[.pointer (some ⟨B, 0, none⟩), .int .i64 c] w fun e w' => e = .returned (.int .i64 c) ∧ ∃ V', ML w' B mb t k ν τ σ T V' (l ++ [evR t c]) ∧ LF B mb T V V' w w' := by
  have hc := H.clk
  have hs := H.s
  have hbk := blank_any hc 10
  unfold evV bl at hbk
  have hie := fun w => ifc_neq (.pointer (some ⟨T.C, 0, none⟩)) w
  have HH := hideIt H
  clear H
  go_enter Tryz.func128, Tryz.ntmps128
  go_wp2_with fail
  refine hbk.mono ?_
  rintro e w1 ⟨rfl, hb1⟩
  have HB1 := hideIt hb1
  clear hbk hb1
  go_upto_region 4 with fail
  have bb := HB1.out.trans ((one_alloc w1 (.cells #[.int .u8 10, .int .u64 (t : Int), .int .i64 (-1), .int .i64 (-1), .int .u64 0, .int .i64 (-1), .int .u64 0, .int .u8 0, .int .i64 c] 123)).mono HB1.out.size)
  have H1 := HH.out.below bb
  have E1 := Ev9.new w1 ⟨10, t, -1, -1, 0, -1, 0, 0, c⟩ 123
  have hs1 := HB1.out.size
  have HBB := hideIt bb
  clear bb
  simp only at E1
  generalize World.alloc w1 (.cells #[.int .u8 10, .int .u64 (t : Int), .int .i64 (-1), .int .i64 (-1), .int .u64 0, .int .i64 (-1), .int .u64 0, .int .u8 0, .int .i64 c] 123) = wc at *
  generalize hp5 : w1.heap.size = p5 at *
  obtain ⟨_, _, _, d10, d11, d12⟩ := HH.out.d
  obtain ⟨l1, l2, l3, _, _⟩ := HH.out.tr.lt
  have hz := HH.out.sz
  have hPB : p5 ≠ B := by omega
  have hPm : p5 ≠ mb := by omega
  have hPC : p5 ≠ T.C := by omega
  have hPR : p5 ≠ T.R := by omega
  have hPF : p5 ≠ T.F := by omega
  have hPV : V.ownBlock ≠ some p5 := fun e => by have := (HH.out.tr.own.lt p5 e).2; omega
  have s1 := H1.s
  have hrec := coll_rec (e := ⟨10, (t : Int), (-1), (-1), 0, (-1), 0, 0, c⟩) (kk := 10) H1.drew.tr H1.drew.sz hl (by rfl) (by omega)
  unfold evV at hrec
  have hme := fun w => meth_coll (.pointer (some ⟨T.C, 0, none⟩)) w
  have hPd : p5 < (World.drew wc).heap.size := E1.lt
  obtain ⟨e0, e1, e2, e3, e4, e5, e6, e7, e8⟩ := E1
  have E1 : Ev9 wc p5 0 ⟨10, (t : Int), (-1), (-1), 0, (-1), 0, 0, c⟩ := ⟨e0, e1, e2, e3, e4, e5, e6, e7, e8⟩
  simp only [Nat.zero_add] at e1 e2 e3 e4 e5 e6 e7 e8
  refine wp_region_held_drew (S := (fun w' => w'.cell? ⟨B, 6752, none⟩ = some (.iface 110 (.pointer (some ⟨T.C, 0, none⟩))) ∧ w'.cell? ⟨p5, 0, none⟩ = some (.int .u8 10) ∧ w'.cell? ⟨p5, 1, none⟩ = some (.int .u64 (t : Int)) ∧ w'.cell? ⟨p5, 2, none⟩ = some (.int .i64 (-1)) ∧ w'.cell? ⟨p5, 3, none⟩ = some (.int .i64 (-1)) ∧ w'.cell? ⟨p5, 4, none⟩ = some (.int .u64 0) ∧ w'.cell? ⟨p5, 5, none⟩ = some (.int .i64 (-1)) ∧ w'.cell? ⟨p5, 6, none⟩ = some (.int .u64 0) ∧ w'.cell? ⟨p5, 7, none⟩ = some (.int .u8 0) ∧ w'.cell? ⟨p5, 8, none⟩ = some (.int .i64 c))) (by kernel_rfl) ⟨s1, e0, e1, e2, e3, e4, e5, e6, e7, e8⟩ (fun hHeld => ?_)
  refine wpAnyH_take (i := 0) (oi := { dst := some 15, op := Go.Op.move (Go.Operand.tmp 0), type := 24, pos := _, after := #[], guard := none }) (v := ?vv1) rfl (by kernel_rfl) (by kernel_rfl) (by kernel_rfl) (fun _ _ _ h => h) (Or.inl ⟨by rfl, ?hy1⟩) (by assumption) ?tk1
  case hy1 => (intro w hSw; (try dsimp only at hSw); go_simp; (try with_reducible rfl))
  try simp only [Act.put, List.setIfInBounds_toArray, List.set_cons_zero, List.set_cons_succ]
  refine wpAnyH_take (i := 1) (oi := { dst := some 16, op := Go.Op.nilCheck (Go.Operand.tmp 15), type := 0, pos := _, after := #[{ on := 0, ground := Go.Ground.data }], guard := none }) (v := ?vv2) rfl (by kernel_rfl) (by kernel_rfl) (by kernel_rfl) (fun _ _ _ h => h) (Or.inl ⟨by rfl, ?hy2⟩) (by assumption) ?tk2
  case hy2 => (intro w hSw; (try dsimp only at hSw); go_simp; (try with_reducible rfl))
  try simp only [Act.put, List.setIfInBounds_toArray, List.set_cons_zero, List.set_cons_succ]
  refine wpAnyH_take (i := 2) (oi := { dst := some 17, op := Go.Op.fieldAddr 190 (Go.Operand.tmp 16) 5, type := 0, pos := _, after := #[{ on := 1, ground := Go.Ground.data }], guard := none }) (v := ?vv3) rfl (by kernel_rfl) (by kernel_rfl) (by kernel_rfl) (fun _ _ _ h => h) (Or.inl ⟨by rfl, ?hy3⟩) (by assumption) ?tk3
  case hy3 => (intro w hSw; (try dsimp only at hSw); go_simp; (try with_reducible rfl))
  try simp only [Act.put, List.setIfInBounds_toArray, List.set_cons_zero, List.set_cons_succ]
  refine wpAnyH_take (i := 3) (oi := { dst := some 18, op := Go.Op.load 113 (Go.Operand.tmp 17), type := 113, pos := _, after := #[{ on := 2, ground := Go.Ground.data }], guard := none }) (v := ?vv4) rfl (by kernel_rfl) (by kernel_rfl) (by kernel_rfl) (fun _ _ _ h => h) (Or.inl ⟨by rfl, ?hy4⟩) (by assumption) ?tk4
  case hy4 => (intro w hSw; (try dsimp only at hSw); go_simp; (try with_reducible rfl))
  try simp only [Act.put, List.setIfInBounds_toArray, List.set_cons_zero, List.set_cons_succ]
  refine wpAnyH_take (i := 4) (oi := { dst := some 19, op := Go.Op.load 123 (Go.Operand.tmp 5), type := 123, pos := _, after := #[], guard := none }) (v := ?vv5) rfl (by kernel_rfl) (by kernel_rfl) (by kernel_rfl) (fun _ _ _ h => h) (Or.inl ⟨by rfl, ?hy5⟩) (by assumption) ?tk5
  case hy5 => (intro w hSw; (try dsimp only at hSw); go_simp; (try with_reducible rfl))
  try simp only [Act.put, List.setIfInBounds_toArray, List.set_cons_zero, List.set_cons_succ]
  refine wpAnyH_ready (rs := [5]) (by kernel_rfl) (by simp) ?_
  refine AllReadyH.cons (o := { dst := some 20, op := Go.Op.call { callee := Go.Callee.invoke (Go.Operand.tmp 18) "Record", args := #[Go.Operand.tmp 19], argTypes := #[123] }, type := 0, pos := _, after := #[{ on := 3, ground := Go.Ground.data }, { on := 4, ground := Go.Ground.data }], guard := none }) rfl (fun K' hK' => ?_) AllReadyH.nil
  go_simp
  go_at_call 261
  refine hrec.mono ?_
  rintro x w4 ⟨rfl, V4, T4, TW4⟩
  obtain ⟨H4, F4⟩ := H1.drew.told T4 TW4
  have t1 := H4.s
  have E4 := E1.blk (w' := w4) ((F4.block p5 hPd hPB hPm hPC hPR hPF hPV).trans rfl)
  have HQ := hideIt (And.intro H4 F4)
  clear H4 F4 T4 TW4
  obtain ⟨f0, f1, f2, f3, f4, f5, f6, f7, f8⟩ := E4
  simp only [Nat.zero_add] at f1 f2 f3 f4 f5 f6 f7 f8
  clear hHeld
  refine hK'.out _ _ ⟨t1, f0, f1, f2, f3, f4, f5, f6, f7, f8⟩ (fun hHeld => ?_)
  clear hK' K'
  try simp only [Act.put, List.setIfInBounds_toArray, List.set_cons_zero, List.set_cons_succ]
  refine wpAnyH_done (by kernel_rfl) ?_ _
  go_wp2
  go_ret
  obtain ⟨H4, F4⟩ := HQ.out
  exact ⟨rfl, V4, H4, ((LF.refl B mb T V w).below HBB.out).drew.trans F4⟩
def evT (t : Nat) (kd c x : Int) (st : Int) : EvS := ⟨kd, t, c, x, 0, -1, 0, st, 0⟩
def evM (t : Nat) (kd at_ c id : Int) : EvS := ⟨kd, at_, c, -1, id, -1, 0, 0, 0⟩
set_option maxRecDepth 20000 in
set_option maxHeartbeats 2000000 in
theorem noteTask_p {w : World} {B mb t k : Nat} {ν : Net} {τ : TSt} {σ : Sg} {T : TS} {V : Value} {l : List EvS} {kk : Nat} {c x : Int} (H : ML w B mb t k ν τ σ T V l) (hl : l.length < 1000000000) (hkk : kk < 9) : Calls Tryz.prog 130 #[.pointer (some ⟨B, 0, none⟩), .int .u8 (kk : Int), .int .i64 c, .int .i64 x] w fun e w' => e = .returned (.tuple #[]) ∧ ∃ V', ML w' B mb t k ν τ σ T V' (l ++ [evT t kk c x 0]) ∧ LF B mb T V V' w w' := by
  have hc := H.clk
  have hs := H.s
  have hbk := blank_any hc (kk : Int)
  unfold evV bl at hbk
  have hie := fun w => ifc_eql (.pointer (some ⟨T.C, 0, none⟩)) w
  have hk9 : ((kk : Int) == 9) = false := beq_eq_false_iff_ne.2 (by omega)
  have HH := hideIt H
  clear H
  go_enter Tryz.func130, Tryz.ntmps130
  go_wp2_with fail
  refine hbk.mono ?_
  rintro e w1 ⟨rfl, hb1⟩
  have HB1 := hideIt hb1
  clear hbk hb1
  go_upto_region 5 with fail
  have bb := HB1.out.trans ((one_alloc w1 (.cells #[.int .u8 (kk : Int), .int .u64 (t : Int), .int .i64 c, .int .i64 x, .int .u64 0, .int .i64 (-1), .int .u64 0, .int .u8 0, .int .i64 0] 123)).mono HB1.out.size)
  have H1 := HH.out.below bb
  have E1 := Ev9.new w1 ⟨(kk : Int), (t : Int), c, x, 0, (-1), 0, 0, 0⟩ 123
  have hs1 := HB1.out.size
  have HBB := hideIt bb
  clear bb
  simp only at E1
  generalize World.alloc w1 (.cells #[.int .u8 (kk : Int), .int .u64 (t : Int), .int .i64 c, .int .i64 x, .int .u64 0, .int .i64 (-1), .int .u64 0, .int .u8 0, .int .i64 0] 123) = wc at *
  generalize hp5 : w1.heap.size = p5 at *
  obtain ⟨_, _, _, d10, d11, d12⟩ := HH.out.d
  obtain ⟨l1, l2, l3, _, _⟩ := HH.out.tr.lt
  have hz := HH.out.sz
  have hPB : p5 ≠ B := by omega
  have hPm : p5 ≠ mb := by omega
  have hPC : p5 ≠ T.C := by omega
  have hPR : p5 ≠ T.R := by omega
  have hPF : p5 ≠ T.F := by omega
  have hPV : V.ownBlock ≠ some p5 := fun e => by have := (HH.out.tr.own.lt p5 e).2; omega
  have s1 := H1.s
  have hrec := coll_rec (e := ⟨(kk : Int), (t : Int), c, x, 0, (-1), 0, 0, 0⟩) (kk := kk) H1.drew.tr H1.drew.sz hl (by rfl) (by omega)
  unfold evV at hrec
  have hme := fun w => meth_coll (.pointer (some ⟨T.C, 0, none⟩)) w
  have hPd : p5 < (World.drew wc).heap.size := E1.lt
  obtain ⟨e0, e1, e2, e3, e4, e5, e6, e7, e8⟩ := E1
  have E1 : Ev9 wc p5 0 ⟨(kk : Int), (t : Int), c, x, 0, (-1), 0, 0, 0⟩ := ⟨e0, e1, e2, e3, e4, e5, e6, e7, e8⟩
  simp only [Nat.zero_add] at e1 e2 e3 e4 e5 e6 e7 e8
  refine wp_region_held_drew (S := (fun w' => w'.cell? ⟨B, 6752, none⟩ = some (.iface 110 (.pointer (some ⟨T.C, 0, none⟩))) ∧ w'.cell? ⟨p5, 0, none⟩ = some (.int .u8 (kk : Int)) ∧ w'.cell? ⟨p5, 1, none⟩ = some (.int .u64 (t : Int)) ∧ w'.cell? ⟨p5, 2, none⟩ = some (.int .i64 c) ∧ w'.cell? ⟨p5, 3, none⟩ = some (.int .i64 x) ∧ w'.cell? ⟨p5, 4, none⟩ = some (.int .u64 0) ∧ w'.cell? ⟨p5, 5, none⟩ = some (.int .i64 (-1)) ∧ w'.cell? ⟨p5, 6, none⟩ = some (.int .u64 0) ∧ w'.cell? ⟨p5, 7, none⟩ = some (.int .u8 0) ∧ w'.cell? ⟨p5, 8, none⟩ = some (.int .i64 0))) (by kernel_rfl) ⟨s1, e0, e1, e2, e3, e4, e5, e6, e7, e8⟩ (fun hHeld => ?_)
  refine wpAnyH_take (i := 0) (oi := { dst := some 32, op := Go.Op.move (Go.Operand.tmp 0), type := 24, pos := _, after := #[], guard := none }) (v := ?vv6) rfl (by kernel_rfl) (by kernel_rfl) (by kernel_rfl) (fun _ _ _ h => h) (Or.inl ⟨by rfl, ?hy6⟩) (by assumption) ?tk6
  case hy6 => (intro w hSw; (try dsimp only at hSw); go_simp; (try with_reducible rfl))
  try simp only [Act.put, List.setIfInBounds_toArray, List.set_cons_zero, List.set_cons_succ]
  refine wpAnyH_take (i := 1) (oi := { dst := some 33, op := Go.Op.nilCheck (Go.Operand.tmp 32), type := 0, pos := _, after := #[{ on := 0, ground := Go.Ground.data }], guard := none }) (v := ?vv7) rfl (by kernel_rfl) (by kernel_rfl) (by kernel_rfl) (fun _ _ _ h => h) (Or.inl ⟨by rfl, ?hy7⟩) (by assumption) ?tk7
  case hy7 => (intro w hSw; (try dsimp only at hSw); go_simp; (try with_reducible rfl))
  try simp only [Act.put, List.setIfInBounds_toArray, List.set_cons_zero, List.set_cons_succ]
  refine wpAnyH_take (i := 2) (oi := { dst := some 34, op := Go.Op.fieldAddr 190 (Go.Operand.tmp 33) 5, type := 0, pos := _, after := #[{ on := 1, ground := Go.Ground.data }], guard := none }) (v := ?vv8) rfl (by kernel_rfl) (by kernel_rfl) (by kernel_rfl) (fun _ _ _ h => h) (Or.inl ⟨by rfl, ?hy8⟩) (by assumption) ?tk8
  case hy8 => (intro w hSw; (try dsimp only at hSw); go_simp; (try with_reducible rfl))
  try simp only [Act.put, List.setIfInBounds_toArray, List.set_cons_zero, List.set_cons_succ]
  refine wpAnyH_take (i := 3) (oi := { dst := some 35, op := Go.Op.load 113 (Go.Operand.tmp 34), type := 113, pos := _, after := #[{ on := 2, ground := Go.Ground.data }], guard := none }) (v := ?vv9) rfl (by kernel_rfl) (by kernel_rfl) (by kernel_rfl) (fun _ _ _ h => h) (Or.inl ⟨by rfl, ?hy9⟩) (by assumption) ?tk9
  case hy9 => (intro w hSw; (try dsimp only at hSw); go_simp; (try with_reducible rfl))
  try simp only [Act.put, List.setIfInBounds_toArray, List.set_cons_zero, List.set_cons_succ]
  refine wpAnyH_take (i := 4) (oi := { dst := some 36, op := Go.Op.load 123 (Go.Operand.tmp 8), type := 123, pos := _, after := #[], guard := none }) (v := ?vv10) rfl (by kernel_rfl) (by kernel_rfl) (by kernel_rfl) (fun _ _ _ h => h) (Or.inl ⟨by rfl, ?hy10⟩) (by assumption) ?tk10
  case hy10 => (intro w hSw; (try dsimp only at hSw); go_simp; (try with_reducible rfl))
  try simp only [Act.put, List.setIfInBounds_toArray, List.set_cons_zero, List.set_cons_succ]
  refine wpAnyH_ready (rs := [5]) (by kernel_rfl) (by simp) ?_
  refine AllReadyH.cons (o := { dst := some 37, op := Go.Op.call { callee := Go.Callee.invoke (Go.Operand.tmp 35) "Record", args := #[Go.Operand.tmp 36], argTypes := #[123] }, type := 0, pos := _, after := #[{ on := 3, ground := Go.Ground.data }, { on := 4, ground := Go.Ground.data }], guard := none }) rfl (fun K' hK' => ?_) AllReadyH.nil
  go_simp
  go_at_call 261
  refine hrec.mono ?_
  rintro x w4 ⟨rfl, V4, T4, TW4⟩
  obtain ⟨H4, F4⟩ := H1.drew.told T4 TW4
  have t1 := H4.s
  have E4 := E1.blk (w' := w4) ((F4.block p5 hPd hPB hPm hPC hPR hPF hPV).trans rfl)
  have HQ := hideIt (And.intro H4 F4)
  clear H4 F4 T4 TW4
  obtain ⟨f0, f1, f2, f3, f4, f5, f6, f7, f8⟩ := E4
  simp only [Nat.zero_add] at f1 f2 f3 f4 f5 f6 f7 f8
  clear hHeld
  refine hK'.out _ _ ⟨t1, f0, f1, f2, f3, f4, f5, f6, f7, f8⟩ (fun hHeld => ?_)
  clear hK' K'
  try simp only [Act.put, List.setIfInBounds_toArray, List.set_cons_zero, List.set_cons_succ]
  refine wpAnyH_done (by kernel_rfl) ?_ _
  go_end0
  obtain ⟨H4, F4⟩ := HQ.out
  exact ⟨rfl, V4, H4, ((LF.refl B mb T V w).below HBB.out).drew.trans F4⟩
set_option maxRecDepth 20000 in
set_option maxHeartbeats 2000000 in
theorem noteTask_t {w : World} {B mb t k : Nat} {ν : Net} {τ : TSt} {σ : Sg} {T : TS} {V : Value} {l : List EvS} {x : Nat} {c : Int} (H : ML w B mb t k ν τ σ T V l) (hl : l.length < 1000000000) (hx : x < 16) : Calls Tryz.prog 130 #[.pointer (some ⟨B, 0, none⟩), .int .u8 9, .int .i64 c, .int .i64 (x : Int)] w fun e w' => e = .returned (.tuple #[]) ∧ ∃ V', ML w' B mb t k ν τ σ T V' (l ++ [evT t 9 c x (σ.s.tk x).st]) ∧ LF B mb T V V' w w' := by
  have hc := H.clk
  have hs := H.s
  have hbk := blank_any hc 9
  unfold evV bl at hbk
  have hie := fun w => ifc_eql (.pointer (some ⟨T.C, 0, none⟩)) w
  have st0 := (H.sch.1.task hx).1
  have x0 : (0 : Int) ≤ x := by omega
  have x1 : (x : Int) < 16 := by omega
  obtain ⟨sv, hsv⟩ : ∃ sv, sv = (σ.s.tk x).st := ⟨_, rfl⟩
  rw [← hsv] at st0 ⊢
  clear hsv
  have HH := hideIt H
  clear H
  go_enter Tryz.func130, Tryz.ntmps130
  go_wp2_with fail
  refine hbk.mono ?_
  rintro e w1 ⟨rfl, hb1⟩
  have st1 := (World.cell?_of_block (a := ⟨B, 6596 + x * 5, none⟩) (hb1.block B HH.out.blt)).trans st0
  have st2 : ∀ cs, (w1.alloc (.cells cs 123)).cell? ⟨B, 6596 + x * 5, none⟩ = some (.int .u8 sv) := fun cs => (World.cell?_of_block (a := ⟨B, 6596 + x * 5, none⟩) ((one_alloc w1 _).block B (by have := HH.out.blt; have := hb1.size; omega))).trans st1
  have HB1 := hideIt hb1
  clear hbk hb1
  go_upto_region 5 with fail
  have bb := HB1.out.trans ((one_alloc w1 (.cells #[.int .u8 9, .int .u64 (t : Int), .int .i64 c, .int .i64 (x : Int), .int .u64 0, .int .i64 (-1), .int .u64 0, .int .u8 sv, .int .i64 0] 123)).mono HB1.out.size)
  have H1 := HH.out.below bb
  have E1 := Ev9.new w1 ⟨9, (t : Int), c, (x : Int), 0, (-1), 0, sv, 0⟩ 123
  have hs1 := HB1.out.size
  have HBB := hideIt bb
  clear bb
  simp only at E1
  generalize World.alloc w1 (.cells #[.int .u8 9, .int .u64 (t : Int), .int .i64 c, .int .i64 (x : Int), .int .u64 0, .int .i64 (-1), .int .u64 0, .int .u8 sv, .int .i64 0] 123) = wc at *
  generalize hp5 : w1.heap.size = p5 at *
  obtain ⟨_, _, _, d10, d11, d12⟩ := HH.out.d
  obtain ⟨l1, l2, l3, _, _⟩ := HH.out.tr.lt
  have hz := HH.out.sz
  have hPB : p5 ≠ B := by omega
  have hPm : p5 ≠ mb := by omega
  have hPC : p5 ≠ T.C := by omega
  have hPR : p5 ≠ T.R := by omega
  have hPF : p5 ≠ T.F := by omega
  have hPV : V.ownBlock ≠ some p5 := fun e => by have := (HH.out.tr.own.lt p5 e).2; omega
  have s1 := H1.s
  have hrec := coll_rec (e := ⟨9, (t : Int), c, (x : Int), 0, (-1), 0, sv, 0⟩) (kk := 9) H1.drew.tr H1.drew.sz hl (by rfl) (by omega)
  unfold evV at hrec
  have hme := fun w => meth_coll (.pointer (some ⟨T.C, 0, none⟩)) w
  have hPd : p5 < (World.drew wc).heap.size := E1.lt
  obtain ⟨e0, e1, e2, e3, e4, e5, e6, e7, e8⟩ := E1
  have E1 : Ev9 wc p5 0 ⟨9, (t : Int), c, (x : Int), 0, (-1), 0, sv, 0⟩ := ⟨e0, e1, e2, e3, e4, e5, e6, e7, e8⟩
  simp only [Nat.zero_add] at e1 e2 e3 e4 e5 e6 e7 e8
  refine wp_region_held_drew (S := (fun w' => w'.cell? ⟨B, 6752, none⟩ = some (.iface 110 (.pointer (some ⟨T.C, 0, none⟩))) ∧ w'.cell? ⟨p5, 0, none⟩ = some (.int .u8 9) ∧ w'.cell? ⟨p5, 1, none⟩ = some (.int .u64 (t : Int)) ∧ w'.cell? ⟨p5, 2, none⟩ = some (.int .i64 c) ∧ w'.cell? ⟨p5, 3, none⟩ = some (.int .i64 (x : Int)) ∧ w'.cell? ⟨p5, 4, none⟩ = some (.int .u64 0) ∧ w'.cell? ⟨p5, 5, none⟩ = some (.int .i64 (-1)) ∧ w'.cell? ⟨p5, 6, none⟩ = some (.int .u64 0) ∧ w'.cell? ⟨p5, 7, none⟩ = some (.int .u8 sv) ∧ w'.cell? ⟨p5, 8, none⟩ = some (.int .i64 0))) (by kernel_rfl) ⟨s1, e0, e1, e2, e3, e4, e5, e6, e7, e8⟩ (fun hHeld => ?_)
  refine wpAnyH_take (i := 0) (oi := { dst := some 32, op := Go.Op.move (Go.Operand.tmp 0), type := 24, pos := _, after := #[], guard := none }) (v := ?vv11) rfl (by kernel_rfl) (by kernel_rfl) (by kernel_rfl) (fun _ _ _ h => h) (Or.inl ⟨by rfl, ?hy11⟩) (by assumption) ?tk11
  case hy11 => (intro w hSw; (try dsimp only at hSw); go_simp; (try with_reducible rfl))
  try simp only [Act.put, List.setIfInBounds_toArray, List.set_cons_zero, List.set_cons_succ]
  refine wpAnyH_take (i := 1) (oi := { dst := some 33, op := Go.Op.nilCheck (Go.Operand.tmp 32), type := 0, pos := _, after := #[{ on := 0, ground := Go.Ground.data }], guard := none }) (v := ?vv12) rfl (by kernel_rfl) (by kernel_rfl) (by kernel_rfl) (fun _ _ _ h => h) (Or.inl ⟨by rfl, ?hy12⟩) (by assumption) ?tk12
  case hy12 => (intro w hSw; (try dsimp only at hSw); go_simp; (try with_reducible rfl))
  try simp only [Act.put, List.setIfInBounds_toArray, List.set_cons_zero, List.set_cons_succ]
  refine wpAnyH_take (i := 2) (oi := { dst := some 34, op := Go.Op.fieldAddr 190 (Go.Operand.tmp 33) 5, type := 0, pos := _, after := #[{ on := 1, ground := Go.Ground.data }], guard := none }) (v := ?vv13) rfl (by kernel_rfl) (by kernel_rfl) (by kernel_rfl) (fun _ _ _ h => h) (Or.inl ⟨by rfl, ?hy13⟩) (by assumption) ?tk13
  case hy13 => (intro w hSw; (try dsimp only at hSw); go_simp; (try with_reducible rfl))
  try simp only [Act.put, List.setIfInBounds_toArray, List.set_cons_zero, List.set_cons_succ]
  refine wpAnyH_take (i := 3) (oi := { dst := some 35, op := Go.Op.load 113 (Go.Operand.tmp 34), type := 113, pos := _, after := #[{ on := 2, ground := Go.Ground.data }], guard := none }) (v := ?vv14) rfl (by kernel_rfl) (by kernel_rfl) (by kernel_rfl) (fun _ _ _ h => h) (Or.inl ⟨by rfl, ?hy14⟩) (by assumption) ?tk14
  case hy14 => (intro w hSw; (try dsimp only at hSw); go_simp; (try with_reducible rfl))
  try simp only [Act.put, List.setIfInBounds_toArray, List.set_cons_zero, List.set_cons_succ]
  refine wpAnyH_take (i := 4) (oi := { dst := some 36, op := Go.Op.load 123 (Go.Operand.tmp 8), type := 123, pos := _, after := #[], guard := none }) (v := ?vv15) rfl (by kernel_rfl) (by kernel_rfl) (by kernel_rfl) (fun _ _ _ h => h) (Or.inl ⟨by rfl, ?hy15⟩) (by assumption) ?tk15
  case hy15 => (intro w hSw; (try dsimp only at hSw); go_simp; (try with_reducible rfl))
  try simp only [Act.put, List.setIfInBounds_toArray, List.set_cons_zero, List.set_cons_succ]
  refine wpAnyH_ready (rs := [5]) (by kernel_rfl) (by simp) ?_
  refine AllReadyH.cons (o := { dst := some 37, op := Go.Op.call { callee := Go.Callee.invoke (Go.Operand.tmp 35) "Record", args := #[Go.Operand.tmp 36], argTypes := #[123] }, type := 0, pos := _, after := #[{ on := 3, ground := Go.Ground.data }, { on := 4, ground := Go.Ground.data }], guard := none }) rfl (fun K' hK' => ?_) AllReadyH.nil
  go_simp
  go_at_call 261
  refine hrec.mono ?_
  rintro x w4 ⟨rfl, V4, T4, TW4⟩
  obtain ⟨H4, F4⟩ := H1.drew.told T4 TW4
  have t1 := H4.s
  have E4 := E1.blk (w' := w4) ((F4.block p5 hPd hPB hPm hPC hPR hPF hPV).trans rfl)
  have HQ := hideIt (And.intro H4 F4)
  clear H4 F4 T4 TW4
  obtain ⟨f0, f1, f2, f3, f4, f5, f6, f7, f8⟩ := E4
  simp only [Nat.zero_add] at f1 f2 f3 f4 f5 f6 f7 f8
  clear hHeld
  refine hK'.out _ _ ⟨t1, f0, f1, f2, f3, f4, f5, f6, f7, f8⟩ (fun hHeld => ?_)
  clear hK' K'
  try simp only [Act.put, List.setIfInBounds_toArray, List.set_cons_zero, List.set_cons_succ]
  refine wpAnyH_done (by kernel_rfl) ?_ _
  go_end0
  obtain ⟨H4, F4⟩ := HQ.out
  exact ⟨rfl, V4, H4, ((LF.refl B mb T V w).below HBB.out).drew.trans F4⟩
end Go.Proofs.Qxb6500877aGreatDoor
