import Derived.Deep.CutBlock
import Derived.OwnWalk
import Derived.Maps.AppendAt
import Derived.Test.Qxb6500877aGreatDoorTr6
set_option linter.unusedVariables false
set_option linter.unusedSimpArgs false
namespace Go.Proofs.Qxb6500877aGreatDoor
open Go.RowKit

theorem Ev9.s1 {w : World} {b : Nat} {e : EvS} (h : Ev9 w b 0 e) (v : Int) : Ev9 (w.setCell ⟨b, 1, none⟩ (.int .u64 v)) b 0 { e with ti := v } :=
  ⟨(World.cell?_setCell_other _ _ _ _ (by simp)).trans h.c0, World.cell?_setCell_same _ _ _ (by have := h.c1; simp only [Nat.zero_add] at this; exact this), (World.cell?_setCell_other _ _ _ _ (by simp)).trans h.c2, (World.cell?_setCell_other _ _ _ _ (by simp)).trans h.c3, (World.cell?_setCell_other _ _ _ _ (by simp)).trans h.c4, (World.cell?_setCell_other _ _ _ _ (by simp)).trans h.c5, (World.cell?_setCell_other _ _ _ _ (by simp)).trans h.c6, (World.cell?_setCell_other _ _ _ _ (by simp)).trans h.c7, (World.cell?_setCell_other _ _ _ _ (by simp)).trans h.c8⟩
theorem Ev9.s2 {w : World} {b : Nat} {e : EvS} (h : Ev9 w b 0 e) (v : Int) : Ev9 (w.setCell ⟨b, 2, none⟩ (.int .i64 v)) b 0 { e with co := v } :=
  ⟨(World.cell?_setCell_other _ _ _ _ (by simp)).trans h.c0, (World.cell?_setCell_other _ _ _ _ (by simp)).trans h.c1, World.cell?_setCell_same _ _ _ (by have := h.c2; simp only [Nat.zero_add] at this; exact this), (World.cell?_setCell_other _ _ _ _ (by simp)).trans h.c3, (World.cell?_setCell_other _ _ _ _ (by simp)).trans h.c4, (World.cell?_setCell_other _ _ _ _ (by simp)).trans h.c5, (World.cell?_setCell_other _ _ _ _ (by simp)).trans h.c6, (World.cell?_setCell_other _ _ _ _ (by simp)).trans h.c7, (World.cell?_setCell_other _ _ _ _ (by simp)).trans h.c8⟩
theorem Ev9.s4 {w : World} {b : Nat} {e : EvS} (h : Ev9 w b 0 e) (v : Int) : Ev9 (w.setCell ⟨b, 4, none⟩ (.int .u64 v)) b 0 { e with tm := v } :=
  ⟨(World.cell?_setCell_other _ _ _ _ (by simp)).trans h.c0, (World.cell?_setCell_other _ _ _ _ (by simp)).trans h.c1, (World.cell?_setCell_other _ _ _ _ (by simp)).trans h.c2, (World.cell?_setCell_other _ _ _ _ (by simp)).trans h.c3, World.cell?_setCell_same _ _ _ (by have := h.c4; simp only [Nat.zero_add] at this; exact this), (World.cell?_setCell_other _ _ _ _ (by simp)).trans h.c5, (World.cell?_setCell_other _ _ _ _ (by simp)).trans h.c6, (World.cell?_setCell_other _ _ _ _ (by simp)).trans h.c7, (World.cell?_setCell_other _ _ _ _ (by simp)).trans h.c8⟩
theorem Ev9.s5 {w : World} {b : Nat} {e : EvS} (h : Ev9 w b 0 e) (v : Int) : Ev9 (w.setCell ⟨b, 5, none⟩ (.int .i64 v)) b 0 { e with bx := v } :=
  ⟨(World.cell?_setCell_other _ _ _ _ (by simp)).trans h.c0, (World.cell?_setCell_other _ _ _ _ (by simp)).trans h.c1, (World.cell?_setCell_other _ _ _ _ (by simp)).trans h.c2, (World.cell?_setCell_other _ _ _ _ (by simp)).trans h.c3, (World.cell?_setCell_other _ _ _ _ (by simp)).trans h.c4, World.cell?_setCell_same _ _ _ (by have := h.c5; simp only [Nat.zero_add] at this; exact this), (World.cell?_setCell_other _ _ _ _ (by simp)).trans h.c6, (World.cell?_setCell_other _ _ _ _ (by simp)).trans h.c7, (World.cell?_setCell_other _ _ _ _ (by simp)).trans h.c8⟩
theorem Ev9.s6 {w : World} {b : Nat} {e : EvS} (h : Ev9 w b 0 e) (v : Int) : Ev9 (w.setCell ⟨b, 6, none⟩ (.int .u64 v)) b 0 { e with sq := v } :=
  ⟨(World.cell?_setCell_other _ _ _ _ (by simp)).trans h.c0, (World.cell?_setCell_other _ _ _ _ (by simp)).trans h.c1, (World.cell?_setCell_other _ _ _ _ (by simp)).trans h.c2, (World.cell?_setCell_other _ _ _ _ (by simp)).trans h.c3, (World.cell?_setCell_other _ _ _ _ (by simp)).trans h.c4, (World.cell?_setCell_other _ _ _ _ (by simp)).trans h.c5, World.cell?_setCell_same _ _ _ (by have := h.c6; simp only [Nat.zero_add] at this; exact this), (World.cell?_setCell_other _ _ _ _ (by simp)).trans h.c7, (World.cell?_setCell_other _ _ _ _ (by simp)).trans h.c8⟩
theorem LF.fresh {B mb : Nat} {T : TS} {V V1 : Value} {w w1 : World} (h : LF B mb T V V1 w w1) {q o : Nat} {v : Value} (hq : w.heap.size ≤ q) : LF B mb T V V1 w (w1.setCell ⟨q, o, none⟩ v) :=
  ⟨h.os, h.tape, h.output, by simpa using h.size, fun p h1 h2 h3 h4 h5 h6 h7 => (far_set (by omega)).trans (h.block p h1 h2 h3 h4 h5 h6 h7), h.row⟩
def boxF (a b : Int) : Int := wrap64 (wrap64 (a * 4) + b)
set_option maxHeartbeats 1000000 in
theorem box_int (a b : Int) (w : World) : Calls Tryz.prog 96 #[.int .i64 a, .int .i64 b] w fun e w' => e = .returned (.int .i64 (boxF a b)) ∧ w' = w := by
  go_enter Tryz.func96, Tryz.ntmps96
  go_wp2
  go_ret
  exact ⟨rfl, rfl⟩
/-- What an event tells of a timer, and of a message. -/
def evX (t : Nat) (kd : Int) (m : MsgV) (c : Int) : EvS := ⟨kd, t, c, -1, 0, boxF m.mf m.mt, m.mq, 0, 0⟩
set_option maxRecDepth 20000 in
set_option maxHeartbeats 4000000 in
theorem noteTimer_l {w : World} {B mb t k : Nat} {ν : Net} {τ : TSt} {σ : Sg} {T : TS} {V : Value} {l : List EvS} {kd : Nat} {a c id : Int} {q o : Nat} (H : ML w B mb t k ν τ σ T V l) (hl : l.length < 1000000000) (hkd : kd < 11) (q0 : w.cell? ⟨q, o, none⟩ = some (.int .u64 id)) (q1 : w.cell? ⟨q, o + 1, none⟩ = some (.int .i64 c)) : Calls Tryz.prog 105 #[.pointer (some ⟨B, 0, none⟩), .int .u8 (kd : Int), .pointer (some ⟨q, o, none⟩), .int .u64 (a : Int)] w fun e w' => e = .returned (.tuple #[]) ∧ ∃ V', ML w' B mb t k ν τ σ T V' (l ++ [evM t kd a c id]) ∧ LF B mb T V V' w w' := by
  have hc := H.clk
  have hs := H.s
  have hbk := blank_any hc (kd : Int)
  unfold evV bl at hbk
  have hie := fun w => ifc_eql (.pointer (some ⟨T.C, 0, none⟩)) w
  have HH := hideIt H
  clear H
  go_enter Tryz.func105, Tryz.ntmps105
  go_wp2_with fail
  refine hbk.mono ?_
  rintro e w1 ⟨rfl, hb1⟩
  have HB1 := hideIt hb1
  clear hbk hb1
  go_upto_region 2 with fail
  have bb := HB1.out.trans ((one_alloc w1 (.cells #[.int .u8 (kd : Int), .int .u64 (t : Int), .int .i64 (-1), .int .i64 (-1), .int .u64 0, .int .i64 (-1), .int .u64 0, .int .u8 0, .int .i64 0] 123)).mono HB1.out.size)
  have H0 := HH.out.below bb
  have E0 := Ev9.new w1 (bl t (kd : Int)) 123
  have hs1 := HB1.out.size
  have hql : q < w.heap.size := World.block_lt_of_cell? _ _ q0
  have u0 := (World.cell?_of_block (a := ⟨q, o, none⟩) (bb.block q hql)).trans q0
  have u1 := (World.cell?_of_block (a := ⟨q, o + 1, none⟩) (bb.block q hql)).trans q1
  clear q0 q1
  have hzf : ∀ o, (World.alloc w1 (.cells #[.int .u8 (kd : Int), .int .u64 (t : Int), .int .i64 (-1), .int .i64 (-1), .int .u64 0, .int .i64 (-1), .int .u64 0, .int .u8 0, .int .i64 0] 123)).frozen? ⟨w1.heap.size, o, none⟩ = false := fun o => by simp
  have HBB := hideIt bb
  clear bb
  unfold bl at E0
  simp only at E0
  generalize World.alloc w1 (.cells #[.int .u8 (kd : Int), .int .u64 (t : Int), .int .i64 (-1), .int .i64 (-1), .int .u64 0, .int .i64 (-1), .int .u64 0, .int .u8 0, .int .i64 0] 123) = wa at *
  generalize hp5 : w1.heap.size = p5 at *
  obtain ⟨_, _, _, d10, d11, d12⟩ := HH.out.d
  obtain ⟨l1, l2, l3, _, _⟩ := HH.out.tr.lt
  have hz := HH.out.sz
  have hPB : p5 ≠ B := by omega
  have hPm : p5 ≠ mb := by omega
  have hPC : p5 ≠ T.C := by omega
  have hPR : p5 ≠ T.R := by omega
  have hPF : p5 ≠ T.F := by omega
  have hPV : V.ownBlock ≠ some p5 := fun e => by have := (HH.out.tr.own.lt p5 e).2; omega
  have hqp : ¬ (p5 = q) := by omega
  have hqp' : ¬ (q = p5) := by omega
  have FB0 := hideIt ((LF.refl B mb T V w).below HBB.out)
  obtain ⟨e0, e1, e2, e3, e4, e5, e6, e7, e8⟩ := E0
  have E0 := hideIt (Ev9.mk e0 e1 e2 e3 e4 e5 e6 e7 e8)
  have HX0 := hideIt H0
  simp only [Nat.zero_add] at e1 e2 e3 e4 e5 e6 e7 e8
  clear H0
  go_region_held3 (fun w' => w'.cell? ⟨q, o + 1, none⟩ = some (.int .i64 c) ∧ w'.cell? ⟨q, o, none⟩ = some (.int .u64 id)) (first | exact ⟨u1, u0⟩ | (refine ⟨?_, ?_⟩ <;> go_simp)) (fail)
  go_upto_region 3 with fail
  have E1 : Ev9 (World.drew (World.setCell (World.setCell (World.setCell wa ⟨p5, 1, none⟩ (.int .u64 (a : Int))) ⟨p5, 2, none⟩ (.int .i64 c)) ⟨p5, 4, none⟩ (.int .u64 id))) p5 0 ⟨(kd : Int), (a : Int), c, (-1), id, (-1), 0, 0, 0⟩ := ((((E0.out.s1 _).s2 _).s4 _)).blk rfl
  have H1 := (((HX0.out.other (o := 1) (v := .int .u64 (a : Int)) ⟨hPB, hPm, by omega, hPC, hPR, hPF, hPV⟩).other (o := 2) (v := .int .i64 c) ⟨hPB, hPm, by omega, hPC, hPR, hPF, hPV⟩).other (o := 4) (v := .int .u64 id) ⟨hPB, hPm, by omega, hPC, hPR, hPF, hPV⟩).drew
  have FB := hideIt (((FB0.out.fresh (q := p5) (o := 1) (v := .int .u64 (a : Int)) hs1).fresh (q := p5) (o := 2) (v := .int .i64 c) hs1).fresh (q := p5) (o := 4) (v := .int .u64 id) hs1).drew
  clear e0 e1 e2 e3 e4 e5 e6 e7 e8 hzf
  clear E0 HX0 FB0
  generalize World.drew (World.setCell (World.setCell (World.setCell wa ⟨p5, 1, none⟩ (.int .u64 (a : Int))) ⟨p5, 2, none⟩ (.int .i64 c)) ⟨p5, 4, none⟩ (.int .u64 id)) = wc at *
  have s1 := H1.s
  have hrec := coll_rec (e := ⟨(kd : Int), (a : Int), c, (-1), id, (-1), 0, 0, 0⟩) (kk := kd) H1.drew.tr H1.drew.sz hl (by rfl) (by omega)
  unfold evV at hrec
  have hme := fun w => meth_coll (.pointer (some ⟨T.C, 0, none⟩)) w
  have hPd : p5 < (World.drew wc).heap.size := E1.lt
  obtain ⟨e0, e1, e2, e3, e4, e5, e6, e7, e8⟩ := E1
  have E1 : Ev9 wc p5 0 ⟨(kd : Int), (a : Int), c, (-1), id, (-1), 0, 0, 0⟩ := ⟨e0, e1, e2, e3, e4, e5, e6, e7, e8⟩
  simp only [Nat.zero_add] at e1 e2 e3 e4 e5 e6 e7 e8
  refine wp_region_held_drew (S := (fun w' => w'.cell? ⟨B, 6752, none⟩ = some (.iface 110 (.pointer (some ⟨T.C, 0, none⟩))) ∧ w'.cell? ⟨p5, 0, none⟩ = some (.int .u8 (kd : Int)) ∧ w'.cell? ⟨p5, 1, none⟩ = some (.int .u64 (a : Int)) ∧ w'.cell? ⟨p5, 2, none⟩ = some (.int .i64 c) ∧ w'.cell? ⟨p5, 3, none⟩ = some (.int .i64 (-1)) ∧ w'.cell? ⟨p5, 4, none⟩ = some (.int .u64 id) ∧ w'.cell? ⟨p5, 5, none⟩ = some (.int .i64 (-1)) ∧ w'.cell? ⟨p5, 6, none⟩ = some (.int .u64 0) ∧ w'.cell? ⟨p5, 7, none⟩ = some (.int .u8 0) ∧ w'.cell? ⟨p5, 8, none⟩ = some (.int .i64 0))) (by kernel_rfl) ⟨s1, e0, e1, e2, e3, e4, e5, e6, e7, e8⟩ (fun hHeld => ?_)
  refine wpAnyH_take (i := 0) (oi := { dst := some 29, op := Go.Op.move (Go.Operand.tmp 0), type := 24, pos := _, after := #[], guard := none }) (v := ?vv16) rfl (by kernel_rfl) (by kernel_rfl) (by kernel_rfl) (fun _ _ _ h => h) (Or.inl ⟨by rfl, ?hy16⟩) (by assumption) ?tk16
  case hy16 => (intro w hSw; (try dsimp only at hSw); go_simp; (try with_reducible rfl))
  try simp only [Act.put, List.setIfInBounds_toArray, List.set_cons_zero, List.set_cons_succ]
  refine wpAnyH_take (i := 1) (oi := { dst := some 30, op := Go.Op.nilCheck (Go.Operand.tmp 29), type := 0, pos := _, after := #[{ on := 0, ground := Go.Ground.data }], guard := none }) (v := ?vv17) rfl (by kernel_rfl) (by kernel_rfl) (by kernel_rfl) (fun _ _ _ h => h) (Or.inl ⟨by rfl, ?hy17⟩) (by assumption) ?tk17
  case hy17 => (intro w hSw; (try dsimp only at hSw); go_simp; (try with_reducible rfl))
  try simp only [Act.put, List.setIfInBounds_toArray, List.set_cons_zero, List.set_cons_succ]
  refine wpAnyH_take (i := 2) (oi := { dst := some 31, op := Go.Op.fieldAddr 190 (Go.Operand.tmp 30) 5, type := 0, pos := _, after := #[{ on := 1, ground := Go.Ground.data }], guard := none }) (v := ?vv18) rfl (by kernel_rfl) (by kernel_rfl) (by kernel_rfl) (fun _ _ _ h => h) (Or.inl ⟨by rfl, ?hy18⟩) (by assumption) ?tk18
  case hy18 => (intro w hSw; (try dsimp only at hSw); go_simp; (try with_reducible rfl))
  try simp only [Act.put, List.setIfInBounds_toArray, List.set_cons_zero, List.set_cons_succ]
  refine wpAnyH_take (i := 3) (oi := { dst := some 32, op := Go.Op.load 113 (Go.Operand.tmp 31), type := 113, pos := _, after := #[{ on := 2, ground := Go.Ground.data }], guard := none }) (v := ?vv19) rfl (by kernel_rfl) (by kernel_rfl) (by kernel_rfl) (fun _ _ _ h => h) (Or.inl ⟨by rfl, ?hy19⟩) (by assumption) ?tk19
  case hy19 => (intro w hSw; (try dsimp only at hSw); go_simp; (try with_reducible rfl))
  try simp only [Act.put, List.setIfInBounds_toArray, List.set_cons_zero, List.set_cons_succ]
  refine wpAnyH_take (i := 4) (oi := { dst := some 33, op := Go.Op.load 123 (Go.Operand.tmp 8), type := 123, pos := _, after := #[], guard := none }) (v := ?vv20) rfl (by kernel_rfl) (by kernel_rfl) (by kernel_rfl) (fun _ _ _ h => h) (Or.inl ⟨by rfl, ?hy20⟩) (by assumption) ?tk20
  case hy20 => (intro w hSw; (try dsimp only at hSw); go_simp; (try with_reducible rfl))
  try simp only [Act.put, List.setIfInBounds_toArray, List.set_cons_zero, List.set_cons_succ]
  refine wpAnyH_ready (rs := [5]) (by kernel_rfl) (by simp) ?_
  refine AllReadyH.cons (o := { dst := some 34, op := Go.Op.call { callee := Go.Callee.invoke (Go.Operand.tmp 32) "Record", args := #[Go.Operand.tmp 33], argTypes := #[123] }, type := 0, pos := _, after := #[{ on := 3, ground := Go.Ground.data }, { on := 4, ground := Go.Ground.data }], guard := none }) rfl (fun K' hK' => ?_) AllReadyH.nil
  go_simp
  go_at_call 261
  refine hrec.mono ?_
  rintro x w4 ⟨rfl, V4, T4, TW4⟩
  obtain ⟨H4, F4⟩ := H1.drew.told T4 TW4
  have t1 := H4.s
  have E4 := E1.blk (w' := w4) ((F4.block p5 hPd hPB hPm hPC hPR hPF hPV).trans rfl)
  have HQ := hideIt (And.intro H4 F4)
  clear H4 F4 T4 TW4
  obtain ⟨f0, f1, f2, f3, f4, f5, f6, f7, f8⟩ := E4
  simp only [Nat.zero_add] at f1 f2 f3 f4 f5 f6 f7 f8
  clear hHeld
  refine hK'.out _ _ ⟨t1, f0, f1, f2, f3, f4, f5, f6, f7, f8⟩ (fun hHeld => ?_)
  clear hK' K'
  try simp only [Act.put, List.setIfInBounds_toArray, List.set_cons_zero, List.set_cons_succ]
  refine wpAnyH_done (by kernel_rfl) ?_ _
  go_end0
  obtain ⟨H4, F4⟩ := HQ.out
  exact ⟨rfl, V4, H4, FB.out.drew.trans F4⟩
set_option maxRecDepth 20000 in
set_option maxHeartbeats 4000000 in
theorem noteMsg_s {w : World} {B mb t k : Nat} {ν : Net} {τ : TSt} {σ : Sg} {T : TS} {V : Value} {l : List EvS} {m : MsgV} {q : Nat} (H : ML w B mb t k ν τ σ T V l) (hl : l.length < 1000000000) (q0 : w.cell? ⟨q, 0, none⟩ = some (.int .i64 m.mf)) (q1 : w.cell? ⟨q, 1, none⟩ = some (.int .i64 m.mt)) (q3 : w.cell? ⟨q, 3, none⟩ = some (.int .u64 m.mq)) : Calls Tryz.prog 133 #[.pointer (some ⟨B, 0, none⟩), .int .u8 2, .pointer (some ⟨q, 0, none⟩)] w fun e w' => e = .returned (.tuple #[]) ∧ ∃ V', ML w' B mb t k ν τ σ T V' (l ++ [evX t 2 m m.mf]) ∧ LF B mb T V V' w w' := by
  have hc := H.clk
  have hs := H.s
  have hbk := blank_any hc 2
  unfold evV bl at hbk
  have hie := fun w => ifc_eql (.pointer (some ⟨T.C, 0, none⟩)) w
  have HH := hideIt H
  clear H
  go_enter Tryz.func133, Tryz.ntmps133
  go_wp2_with fail
  refine hbk.mono ?_
  rintro e w1 ⟨rfl, hb1⟩
  have HB1 := hideIt hb1
  clear hbk hb1
  go_upto_region 2 with fail
  have bb := HB1.out.trans ((one_alloc w1 (.cells #[.int .u8 2, .int .u64 (t : Int), .int .i64 (-1), .int .i64 (-1), .int .u64 0, .int .i64 (-1), .int .u64 0, .int .u8 0, .int .i64 0] 123)).mono HB1.out.size)
  have H0 := HH.out.below bb
  have E0 := Ev9.new w1 (bl t 2) 123
  have hs1 := HB1.out.size
  have hql : q < w.heap.size := World.block_lt_of_cell? _ _ q0
  have u0 := (World.cell?_of_block (a := ⟨q, 0, none⟩) (bb.block q hql)).trans q0
  have u1 := (World.cell?_of_block (a := ⟨q, 1, none⟩) (bb.block q hql)).trans q1
  have u3 := (World.cell?_of_block (a := ⟨q, 3, none⟩) (bb.block q hql)).trans q3
  clear q0 q1 q3
  have hzf : ∀ o, (World.alloc w1 (.cells #[.int .u8 2, .int .u64 (t : Int), .int .i64 (-1), .int .i64 (-1), .int .u64 0, .int .i64 (-1), .int .u64 0, .int .u8 0, .int .i64 0] 123)).frozen? ⟨w1.heap.size, o, none⟩ = false := fun o => by simp
  have HBB := hideIt bb
  clear bb
  unfold bl at E0
  simp only at E0
  generalize World.alloc w1 (.cells #[.int .u8 2, .int .u64 (t : Int), .int .i64 (-1), .int .i64 (-1), .int .u64 0, .int .i64 (-1), .int .u64 0, .int .u8 0, .int .i64 0] 123) = wa at *
  generalize hp5 : w1.heap.size = p5 at *
  obtain ⟨_, _, _, d10, d11, d12⟩ := HH.out.d
  obtain ⟨l1, l2, l3, _, _⟩ := HH.out.tr.lt
  have hz := HH.out.sz
  have hPB : p5 ≠ B := by omega
  have hPm : p5 ≠ mb := by omega
  have hPC : p5 ≠ T.C := by omega
  have hPR : p5 ≠ T.R := by omega
  have hPF : p5 ≠ T.F := by omega
  have hPV : V.ownBlock ≠ some p5 := fun e => by have := (HH.out.tr.own.lt p5 e).2; omega
  have hqp : ¬ (p5 = q) := by omega
  have hqp' : ¬ (q = p5) := by omega
  have hbx := fun w => box_int m.mf m.mt w
  have FB0 := hideIt ((LF.refl B mb T V w).below HBB.out)
  obtain ⟨e0, e1, e2, e3, e4, e5, e6, e7, e8⟩ := E0
  have E0 := hideIt (Ev9.mk e0 e1 e2 e3 e4 e5 e6 e7 e8)
  have HX0 := hideIt H0
  simp only [Nat.zero_add] at e1 e2 e3 e4 e5 e6 e7 e8
  clear H0
  go_region_held3 (fun w' => w'.cell? ⟨q, 0, none⟩ = some (.int .i64 m.mf) ∧ w'.cell? ⟨q, 1, none⟩ = some (.int .i64 m.mt) ∧ w'.cell? ⟨q, 3, none⟩ = some (.int .u64 m.mq)) (first | exact ⟨u0, u1, u3⟩ | (refine ⟨?_, ?_, ?_⟩ <;> go_simp)) (first | (go_at_call 96; refine (hbx _).mono ?_; rintro e w1 ⟨rfl, rfl⟩))
  go_upto_region 6 with fail
  have E1 : Ev9 (World.drew (World.setCell (World.setCell (World.setCell wa ⟨p5, 5, none⟩ (.int .i64 (boxF m.mf m.mt))) ⟨p5, 6, none⟩ (.int .u64 m.mq)) ⟨p5, 2, none⟩ (.int .i64 m.mf))) p5 0 ⟨2, (t : Int), m.mf, (-1), 0, (boxF m.mf m.mt), m.mq, 0, 0⟩ := ((((E0.out.s5 _).s6 _).s2 _)).blk rfl
  have H1 := (((HX0.out.other (o := 5) (v := .int .i64 (boxF m.mf m.mt)) ⟨hPB, hPm, by omega, hPC, hPR, hPF, hPV⟩).other (o := 6) (v := .int .u64 m.mq) ⟨hPB, hPm, by omega, hPC, hPR, hPF, hPV⟩).other (o := 2) (v := .int .i64 m.mf) ⟨hPB, hPm, by omega, hPC, hPR, hPF, hPV⟩).drew
  have FB := hideIt (((FB0.out.fresh (q := p5) (o := 5) (v := .int .i64 (boxF m.mf m.mt)) hs1).fresh (q := p5) (o := 6) (v := .int .u64 m.mq) hs1).fresh (q := p5) (o := 2) (v := .int .i64 m.mf) hs1).drew
  clear e0 e1 e2 e3 e4 e5 e6 e7 e8 hzf
  clear E0 HX0 FB0
  generalize World.drew (World.setCell (World.setCell (World.setCell wa ⟨p5, 5, none⟩ (.int .i64 (boxF m.mf m.mt))) ⟨p5, 6, none⟩ (.int .u64 m.mq)) ⟨p5, 2, none⟩ (.int .i64 m.mf)) = wc at *
  have s1 := H1.s
  have hrec := coll_rec (e := ⟨2, (t : Int), m.mf, (-1), 0, (boxF m.mf m.mt), m.mq, 0, 0⟩) (kk := 2) H1.drew.tr H1.drew.sz hl (by rfl) (by omega)
  unfold evV at hrec
  have hme := fun w => meth_coll (.pointer (some ⟨T.C, 0, none⟩)) w
  have hPd : p5 < (World.drew wc).heap.size := E1.lt
  obtain ⟨e0, e1, e2, e3, e4, e5, e6, e7, e8⟩ := E1
  have E1 : Ev9 wc p5 0 ⟨2, (t : Int), m.mf, (-1), 0, (boxF m.mf m.mt), m.mq, 0, 0⟩ := ⟨e0, e1, e2, e3, e4, e5, e6, e7, e8⟩
  simp only [Nat.zero_add] at e1 e2 e3 e4 e5 e6 e7 e8
  refine wp_region_held_drew (S := (fun w' => w'.cell? ⟨B, 6752, none⟩ = some (.iface 110 (.pointer (some ⟨T.C, 0, none⟩))) ∧ w'.cell? ⟨p5, 0, none⟩ = some (.int .u8 2) ∧ w'.cell? ⟨p5, 1, none⟩ = some (.int .u64 (t : Int)) ∧ w'.cell? ⟨p5, 2, none⟩ = some (.int .i64 m.mf) ∧ w'.cell? ⟨p5, 3, none⟩ = some (.int .i64 (-1)) ∧ w'.cell? ⟨p5, 4, none⟩ = some (.int .u64 0) ∧ w'.cell? ⟨p5, 5, none⟩ = some (.int .i64 (boxF m.mf m.mt)) ∧ w'.cell? ⟨p5, 6, none⟩ = some (.int .u64 m.mq) ∧ w'.cell? ⟨p5, 7, none⟩ = some (.int .u8 0) ∧ w'.cell? ⟨p5, 8, none⟩ = some (.int .i64 0))) (by kernel_rfl) ⟨s1, e0, e1, e2, e3, e4, e5, e6, e7, e8⟩ (fun hHeld => ?_)
  refine wpAnyH_take (i := 0) (oi := { dst := some 42, op := Go.Op.move (Go.Operand.tmp 0), type := 24, pos := _, after := #[], guard := none }) (v := ?vv21) rfl (by kernel_rfl) (by kernel_rfl) (by kernel_rfl) (fun _ _ _ h => h) (Or.inl ⟨by rfl, ?hy21⟩) (by assumption) ?tk21
  case hy21 => (intro w hSw; (try dsimp only at hSw); go_simp; (try with_reducible rfl))
  try simp only [Act.put, List.setIfInBounds_toArray, List.set_cons_zero, List.set_cons_succ]
  refine wpAnyH_take (i := 1) (oi := { dst := some 43, op := Go.Op.nilCheck (Go.Operand.tmp 42), type := 0, pos := _, after := #[{ on := 0, ground := Go.Ground.data }], guard := none }) (v := ?vv22) rfl (by kernel_rfl) (by kernel_rfl) (by kernel_rfl) (fun _ _ _ h => h) (Or.inl ⟨by rfl, ?hy22⟩) (by assumption) ?tk22
  case hy22 => (intro w hSw; (try dsimp only at hSw); go_simp; (try with_reducible rfl))
  try simp only [Act.put, List.setIfInBounds_toArray, List.set_cons_zero, List.set_cons_succ]
  refine wpAnyH_take (i := 2) (oi := { dst := some 44, op := Go.Op.fieldAddr 190 (Go.Operand.tmp 43) 5, type := 0, pos := _, after := #[{ on := 1, ground := Go.Ground.data }], guard := none }) (v := ?vv23) rfl (by kernel_rfl) (by kernel_rfl) (by kernel_rfl) (fun _ _ _ h => h) (Or.inl ⟨by rfl, ?hy23⟩) (by assumption) ?tk23
  case hy23 => (intro w hSw; (try dsimp only at hSw); go_simp; (try with_reducible rfl))
  try simp only [Act.put, List.setIfInBounds_toArray, List.set_cons_zero, List.set_cons_succ]
  refine wpAnyH_take (i := 3) (oi := { dst := some 45, op := Go.Op.load 113 (Go.Operand.tmp 44), type := 113, pos := _, after := #[{ on := 2, ground := Go.Ground.data }], guard := none }) (v := ?vv24) rfl (by kernel_rfl) (by kernel_rfl) (by kernel_rfl) (fun _ _ _ h => h) (Or.inl ⟨by rfl, ?hy24⟩) (by assumption) ?tk24
  case hy24 => (intro w hSw; (try dsimp only at hSw); go_simp; (try with_reducible rfl))
  try simp only [Act.put, List.setIfInBounds_toArray, List.set_cons_zero, List.set_cons_succ]
  refine wpAnyH_take (i := 4) (oi := { dst := some 46, op := Go.Op.load 123 (Go.Operand.tmp 6), type := 123, pos := _, after := #[], guard := none }) (v := ?vv25) rfl (by kernel_rfl) (by kernel_rfl) (by kernel_rfl) (fun _ _ _ h => h) (Or.inl ⟨by rfl, ?hy25⟩) (by assumption) ?tk25
  case hy25 => (intro w hSw; (try dsimp only at hSw); go_simp; (try with_reducible rfl))
  try simp only [Act.put, List.setIfInBounds_toArray, List.set_cons_zero, List.set_cons_succ]
  refine wpAnyH_ready (rs := [5]) (by kernel_rfl) (by simp) ?_
  refine AllReadyH.cons (o := { dst := some 47, op := Go.Op.call { callee := Go.Callee.invoke (Go.Operand.tmp 45) "Record", args := #[Go.Operand.tmp 46], argTypes := #[123] }, type := 0, pos := _, after := #[{ on := 3, ground := Go.Ground.data }, { on := 4, ground := Go.Ground.data }], guard := none }) rfl (fun K' hK' => ?_) AllReadyH.nil
  go_simp
  go_at_call 261
  refine hrec.mono ?_
  rintro x w4 ⟨rfl, V4, T4, TW4⟩
  obtain ⟨H4, F4⟩ := H1.drew.told T4 TW4
  have t1 := H4.s
  have E4 := E1.blk (w' := w4) ((F4.block p5 hPd hPB hPm hPC hPR hPF hPV).trans rfl)
  have HQ := hideIt (And.intro H4 F4)
  clear H4 F4 T4 TW4
  obtain ⟨f0, f1, f2, f3, f4, f5, f6, f7, f8⟩ := E4
  simp only [Nat.zero_add] at f1 f2 f3 f4 f5 f6 f7 f8
  clear hHeld
  refine hK'.out _ _ ⟨t1, f0, f1, f2, f3, f4, f5, f6, f7, f8⟩ (fun hHeld => ?_)
  clear hK' K'
  try simp only [Act.put, List.setIfInBounds_toArray, List.set_cons_zero, List.set_cons_succ]
  refine wpAnyH_done (by kernel_rfl) ?_ _
  go_end0
  obtain ⟨H4, F4⟩ := HQ.out
  exact ⟨rfl, V4, H4, FB.out.drew.trans F4⟩
set_option maxRecDepth 20000 in
set_option maxHeartbeats 4000000 in
theorem noteMsg_d {w : World} {B mb t k : Nat} {ν : Net} {τ : TSt} {σ : Sg} {T : TS} {V : Value} {l : List EvS} {m : MsgV} {q : Nat} (H : ML w B mb t k ν τ σ T V l) (hl : l.length < 1000000000) (q0 : w.cell? ⟨q, 0, none⟩ = some (.int .i64 m.mf)) (q1 : w.cell? ⟨q, 1, none⟩ = some (.int .i64 m.mt)) (q3 : w.cell? ⟨q, 3, none⟩ = some (.int .u64 m.mq)) : Calls Tryz.prog 133 #[.pointer (some ⟨B, 0, none⟩), .int .u8 3, .pointer (some ⟨q, 0, none⟩)] w fun e w' => e = .returned (.tuple #[]) ∧ ∃ V', ML w' B mb t k ν τ σ T V' (l ++ [evX t 3 m m.mt]) ∧ LF B mb T V V' w w' := by
  have hc := H.clk
  have hs := H.s
  have hbk := blank_any hc 3
  unfold evV bl at hbk
  have hie := fun w => ifc_eql (.pointer (some ⟨T.C, 0, none⟩)) w
  have HH := hideIt H
  clear H
  go_enter Tryz.func133, Tryz.ntmps133
  go_wp2_with fail
  refine hbk.mono ?_
  rintro e w1 ⟨rfl, hb1⟩
  have HB1 := hideIt hb1
  clear hbk hb1
  go_upto_region 2 with fail
  have bb := HB1.out.trans ((one_alloc w1 (.cells #[.int .u8 3, .int .u64 (t : Int), .int .i64 (-1), .int .i64 (-1), .int .u64 0, .int .i64 (-1), .int .u64 0, .int .u8 0, .int .i64 0] 123)).mono HB1.out.size)
  have H0 := HH.out.below bb
  have E0 := Ev9.new w1 (bl t 3) 123
  have hs1 := HB1.out.size
  have hql : q < w.heap.size := World.block_lt_of_cell? _ _ q0
  have u0 := (World.cell?_of_block (a := ⟨q, 0, none⟩) (bb.block q hql)).trans q0
  have u1 := (World.cell?_of_block (a := ⟨q, 1, none⟩) (bb.block q hql)).trans q1
  have u3 := (World.cell?_of_block (a := ⟨q, 3, none⟩) (bb.block q hql)).trans q3
  clear q0 q1 q3
  have hzf : ∀ o, (World.alloc w1 (.cells #[.int .u8 3, .int .u64 (t : Int), .int .i64 (-1), .int .i64 (-1), .int .u64 0, .int .i64 (-1), .int .u64 0, .int .u8 0, .int .i64 0] 123)).frozen? ⟨w1.heap.size, o, none⟩ = false := fun o => by simp
  have HBB := hideIt bb
  clear bb
  unfold bl at E0
  simp only at E0
  generalize World.alloc w1 (.cells #[.int .u8 3, .int .u64 (t : Int), .int .i64 (-1), .int .i64 (-1), .int .u64 0, .int .i64 (-1), .int .u64 0, .int .u8 0, .int .i64 0] 123) = wa at *
  generalize hp5 : w1.heap.size = p5 at *
  obtain ⟨_, _, _, d10, d11, d12⟩ := HH.out.d
  obtain ⟨l1, l2, l3, _, _⟩ := HH.out.tr.lt
  have hz := HH.out.sz
  have hPB : p5 ≠ B := by omega
  have hPm : p5 ≠ mb := by omega
  have hPC : p5 ≠ T.C := by omega
  have hPR : p5 ≠ T.R := by omega
  have hPF : p5 ≠ T.F := by omega
  have hPV : V.ownBlock ≠ some p5 := fun e => by have := (HH.out.tr.own.lt p5 e).2; omega
  have hqp : ¬ (p5 = q) := by omega
  have hqp' : ¬ (q = p5) := by omega
  have hbx := fun w => box_int m.mf m.mt w
  have FB0 := hideIt ((LF.refl B mb T V w).below HBB.out)
  obtain ⟨e0, e1, e2, e3, e4, e5, e6, e7, e8⟩ := E0
  have E0 := hideIt (Ev9.mk e0 e1 e2 e3 e4 e5 e6 e7 e8)
  have HX0 := hideIt H0
  simp only [Nat.zero_add] at e1 e2 e3 e4 e5 e6 e7 e8
  clear H0
  go_region_held3 (fun w' => w'.cell? ⟨q, 0, none⟩ = some (.int .i64 m.mf) ∧ w'.cell? ⟨q, 1, none⟩ = some (.int .i64 m.mt) ∧ w'.cell? ⟨q, 3, none⟩ = some (.int .u64 m.mq)) (first | exact ⟨u0, u1, u3⟩ | (refine ⟨?_, ?_, ?_⟩ <;> go_simp)) (first | (go_at_call 96; refine (hbx _).mono ?_; rintro e w1 ⟨rfl, rfl⟩))
  go_upto_region 6 with fail
  have E1 : Ev9 (World.drew (World.setCell (World.setCell (World.setCell (World.setCell wa ⟨p5, 5, none⟩ (.int .i64 (boxF m.mf m.mt))) ⟨p5, 6, none⟩ (.int .u64 m.mq)) ⟨p5, 2, none⟩ (.int .i64 m.mf)) ⟨p5, 2, none⟩ (.int .i64 m.mt))) p5 0 ⟨3, (t : Int), m.mt, (-1), 0, (boxF m.mf m.mt), m.mq, 0, 0⟩ := (((((E0.out.s5 _).s6 _).s2 _).s2 _)).blk rfl
  have H1 := ((((HX0.out.other (o := 5) (v := .int .i64 (boxF m.mf m.mt)) ⟨hPB, hPm, by omega, hPC, hPR, hPF, hPV⟩).other (o := 6) (v := .int .u64 m.mq) ⟨hPB, hPm, by omega, hPC, hPR, hPF, hPV⟩).other (o := 2) (v := .int .i64 m.mf) ⟨hPB, hPm, by omega, hPC, hPR, hPF, hPV⟩).other (o := 2) (v := .int .i64 m.mt) ⟨hPB, hPm, by omega, hPC, hPR, hPF, hPV⟩).drew
  have FB := hideIt ((((FB0.out.fresh (q := p5) (o := 5) (v := .int .i64 (boxF m.mf m.mt)) hs1).fresh (q := p5) (o := 6) (v := .int .u64 m.mq) hs1).fresh (q := p5) (o := 2) (v := .int .i64 m.mf) hs1).fresh (q := p5) (o := 2) (v := .int .i64 m.mt) hs1).drew
  clear e0 e1 e2 e3 e4 e5 e6 e7 e8 hzf
  clear E0 HX0 FB0
  generalize World.drew (World.setCell (World.setCell (World.setCell (World.setCell wa ⟨p5, 5, none⟩ (.int .i64 (boxF m.mf m.mt))) ⟨p5, 6, none⟩ (.int .u64 m.mq)) ⟨p5, 2, none⟩ (.int .i64 m.mf)) ⟨p5, 2, none⟩ (.int .i64 m.mt)) = wc at *
  have s1 := H1.s
  have hrec := coll_rec (e := ⟨3, (t : Int), m.mt, (-1), 0, (boxF m.mf m.mt), m.mq, 0, 0⟩) (kk := 3) H1.drew.tr H1.drew.sz hl (by rfl) (by omega)
  unfold evV at hrec
  have hme := fun w => meth_coll (.pointer (some ⟨T.C, 0, none⟩)) w
  have hPd : p5 < (World.drew wc).heap.size := E1.lt
  obtain ⟨e0, e1, e2, e3, e4, e5, e6, e7, e8⟩ := E1
  have E1 : Ev9 wc p5 0 ⟨3, (t : Int), m.mt, (-1), 0, (boxF m.mf m.mt), m.mq, 0, 0⟩ := ⟨e0, e1, e2, e3, e4, e5, e6, e7, e8⟩
  simp only [Nat.zero_add] at e1 e2 e3 e4 e5 e6 e7 e8
  refine wp_region_held_drew (S := (fun w' => w'.cell? ⟨B, 6752, none⟩ = some (.iface 110 (.pointer (some ⟨T.C, 0, none⟩))) ∧ w'.cell? ⟨p5, 0, none⟩ = some (.int .u8 3) ∧ w'.cell? ⟨p5, 1, none⟩ = some (.int .u64 (t : Int)) ∧ w'.cell? ⟨p5, 2, none⟩ = some (.int .i64 m.mt) ∧ w'.cell? ⟨p5, 3, none⟩ = some (.int .i64 (-1)) ∧ w'.cell? ⟨p5, 4, none⟩ = some (.int .u64 0) ∧ w'.cell? ⟨p5, 5, none⟩ = some (.int .i64 (boxF m.mf m.mt)) ∧ w'.cell? ⟨p5, 6, none⟩ = some (.int .u64 m.mq) ∧ w'.cell? ⟨p5, 7, none⟩ = some (.int .u8 0) ∧ w'.cell? ⟨p5, 8, none⟩ = some (.int .i64 0))) (by kernel_rfl) ⟨s1, e0, e1, e2, e3, e4, e5, e6, e7, e8⟩ (fun hHeld => ?_)
  refine wpAnyH_take (i := 0) (oi := { dst := some 42, op := Go.Op.move (Go.Operand.tmp 0), type := 24, pos := _, after := #[], guard := none }) (v := ?vv26) rfl (by kernel_rfl) (by kernel_rfl) (by kernel_rfl) (fun _ _ _ h => h) (Or.inl ⟨by rfl, ?hy26⟩) (by assumption) ?tk26
  case hy26 => (intro w hSw; (try dsimp only at hSw); go_simp; (try with_reducible rfl))
  try simp only [Act.put, List.setIfInBounds_toArray, List.set_cons_zero, List.set_cons_succ]
  refine wpAnyH_take (i := 1) (oi := { dst := some 43, op := Go.Op.nilCheck (Go.Operand.tmp 42), type := 0, pos := _, after := #[{ on := 0, ground := Go.Ground.data }], guard := none }) (v := ?vv27) rfl (by kernel_rfl) (by kernel_rfl) (by kernel_rfl) (fun _ _ _ h => h) (Or.inl ⟨by rfl, ?hy27⟩) (by assumption) ?tk27
  case hy27 => (intro w hSw; (try dsimp only at hSw); go_simp; (try with_reducible rfl))
  try simp only [Act.put, List.setIfInBounds_toArray, List.set_cons_zero, List.set_cons_succ]
  refine wpAnyH_take (i := 2) (oi := { dst := some 44, op := Go.Op.fieldAddr 190 (Go.Operand.tmp 43) 5, type := 0, pos := _, after := #[{ on := 1, ground := Go.Ground.data }], guard := none }) (v := ?vv28) rfl (by kernel_rfl) (by kernel_rfl) (by kernel_rfl) (fun _ _ _ h => h) (Or.inl ⟨by rfl, ?hy28⟩) (by assumption) ?tk28
  case hy28 => (intro w hSw; (try dsimp only at hSw); go_simp; (try with_reducible rfl))
  try simp only [Act.put, List.setIfInBounds_toArray, List.set_cons_zero, List.set_cons_succ]
  refine wpAnyH_take (i := 3) (oi := { dst := some 45, op := Go.Op.load 113 (Go.Operand.tmp 44), type := 113, pos := _, after := #[{ on := 2, ground := Go.Ground.data }], guard := none }) (v := ?vv29) rfl (by kernel_rfl) (by kernel_rfl) (by kernel_rfl) (fun _ _ _ h => h) (Or.inl ⟨by rfl, ?hy29⟩) (by assumption) ?tk29
  case hy29 => (intro w hSw; (try dsimp only at hSw); go_simp; (try with_reducible rfl))
  try simp only [Act.put, List.setIfInBounds_toArray, List.set_cons_zero, List.set_cons_succ]
  refine wpAnyH_take (i := 4) (oi := { dst := some 46, op := Go.Op.load 123 (Go.Operand.tmp 6), type := 123, pos := _, after := #[], guard := none }) (v := ?vv30) rfl (by kernel_rfl) (by kernel_rfl) (by kernel_rfl) (fun _ _ _ h => h) (Or.inl ⟨by rfl, ?hy30⟩) (by assumption) ?tk30
  case hy30 => (intro w hSw; (try dsimp only at hSw); go_simp; (try with_reducible rfl))
  try simp only [Act.put, List.setIfInBounds_toArray, List.set_cons_zero, List.set_cons_succ]
  refine wpAnyH_ready (rs := [5]) (by kernel_rfl) (by simp) ?_
  refine AllReadyH.cons (o := { dst := some 47, op := Go.Op.call { callee := Go.Callee.invoke (Go.Operand.tmp 45) "Record", args := #[Go.Operand.tmp 46], argTypes := #[123] }, type := 0, pos := _, after := #[{ on := 3, ground := Go.Ground.data }, { on := 4, ground := Go.Ground.data }], guard := none }) rfl (fun K' hK' => ?_) AllReadyH.nil
  go_simp
  go_at_call 261
  refine hrec.mono ?_
  rintro x w4 ⟨rfl, V4, T4, TW4⟩
  obtain ⟨H4, F4⟩ := H1.drew.told T4 TW4
  have t1 := H4.s
  have E4 := E1.blk (w' := w4) ((F4.block p5 hPd hPB hPm hPC hPR hPF hPV).trans rfl)
  have HQ := hideIt (And.intro H4 F4)
  clear H4 F4 T4 TW4
  obtain ⟨f0, f1, f2, f3, f4, f5, f6, f7, f8⟩ := E4
  simp only [Nat.zero_add] at f1 f2 f3 f4 f5 f6 f7 f8
  clear hHeld
  refine hK'.out _ _ ⟨t1, f0, f1, f2, f3, f4, f5, f6, f7, f8⟩ (fun hHeld => ?_)
  clear hK' K'
  try simp only [Act.put, List.setIfInBounds_toArray, List.set_cons_zero, List.set_cons_succ]
  refine wpAnyH_done (by kernel_rfl) ?_ _
  go_end0
  obtain ⟨H4, F4⟩ := HQ.out
  exact ⟨rfl, V4, H4, FB.out.drew.trans F4⟩
set_option maxRecDepth 20000 in
set_option maxHeartbeats 4000000 in
theorem noteClock_l {w : World} {B mb t k : Nat} {ν : Net} {τ : TSt} {σ : Sg} {T : TS} {V : Value} {l : List EvS} (H : ML w B mb t k ν τ σ T V l) (hl : l.length < 1000000000) : Calls Tryz.prog 104 #[.pointer (some ⟨B, 0, none⟩)] w fun e w' => e = .returned (.tuple #[]) ∧ ∃ V', ML w' B mb t k ν τ σ T V' (l ++ [bl t 8]) ∧ LF B mb T V V' w w' := by
  have hs := H.s
  have hbk := blank_any H.drew.clk 8
  unfold evV bl at hbk
  have hie := fun w => ifc_neq (.pointer (some ⟨T.C, 0, none⟩)) w
  have hme := fun w => meth_coll (.pointer (some ⟨T.C, 0, none⟩)) w
  have HH := hideIt H
  clear H
  go_enter Tryz.func104, Tryz.ntmps104
  go_upto_region 1 with fail
  refine wp_region_held_drew (S := (fun w' => w'.cell? ⟨B, 6752, none⟩ = some (.iface 110 (.pointer (some ⟨T.C, 0, none⟩))))) (by kernel_rfl) hs (fun hHeld => ?_)
  refine wpAnyH_take (i := 0) (oi := { dst := some 7, op := Go.Op.move (Go.Operand.tmp 0), type := 24, pos := _, after := #[], guard := none }) (v := ?vv31) rfl (by kernel_rfl) (by kernel_rfl) (by kernel_rfl) (fun _ _ _ h => h) (Or.inl ⟨by rfl, ?hy31⟩) (by assumption) ?tk31
  case hy31 => (intro w hSw; (try dsimp only at hSw); go_simp; (try with_reducible rfl))
  try simp only [Act.put, List.setIfInBounds_toArray, List.set_cons_zero, List.set_cons_succ]
  refine wpAnyH_take (i := 1) (oi := { dst := some 8, op := Go.Op.nilCheck (Go.Operand.tmp 7), type := 0, pos := _, after := #[{ on := 0, ground := Go.Ground.data }], guard := none }) (v := ?vv32) rfl (by kernel_rfl) (by kernel_rfl) (by kernel_rfl) (fun _ _ _ h => h) (Or.inl ⟨by rfl, ?hy32⟩) (by assumption) ?tk32
  case hy32 => (intro w hSw; (try dsimp only at hSw); go_simp; (try with_reducible rfl))
  try simp only [Act.put, List.setIfInBounds_toArray, List.set_cons_zero, List.set_cons_succ]
  refine wpAnyH_take (i := 2) (oi := { dst := some 9, op := Go.Op.fieldAddr 190 (Go.Operand.tmp 8) 5, type := 0, pos := _, after := #[{ on := 1, ground := Go.Ground.data }], guard := none }) (v := ?vv33) rfl (by kernel_rfl) (by kernel_rfl) (by kernel_rfl) (fun _ _ _ h => h) (Or.inl ⟨by rfl, ?hy33⟩) (by assumption) ?tk33
  case hy33 => (intro w hSw; (try dsimp only at hSw); go_simp; (try with_reducible rfl))
  try simp only [Act.put, List.setIfInBounds_toArray, List.set_cons_zero, List.set_cons_succ]
  refine wpAnyH_take (i := 3) (oi := { dst := some 10, op := Go.Op.load 113 (Go.Operand.tmp 9), type := 113, pos := _, after := #[{ on := 2, ground := Go.Ground.data }], guard := none }) (v := ?vv34) rfl (by kernel_rfl) (by kernel_rfl) (by kernel_rfl) (fun _ _ _ h => h) (Or.inl ⟨by rfl, ?hy34⟩) (by assumption) ?tk34
  case hy34 => (intro w hSw; (try dsimp only at hSw); go_simp; (try with_reducible rfl))
  try simp only [Act.put, List.setIfInBounds_toArray, List.set_cons_zero, List.set_cons_succ]
  refine wpAnyH_take (i := 4) (oi := { dst := some 11, op := Go.Op.move (Go.Operand.tmp 0), type := 24, pos := _, after := #[], guard := none }) (v := ?vv35) rfl (by kernel_rfl) (by kernel_rfl) (by kernel_rfl) (fun _ _ _ h => h) (Or.inl ⟨by rfl, ?hy35⟩) (by assumption) ?tk35
  case hy35 => (intro w hSw; (try dsimp only at hSw); go_simp; (try with_reducible rfl))
  try simp only [Act.put, List.setIfInBounds_toArray, List.set_cons_zero, List.set_cons_succ]
  refine wpAnyH_take (i := 6) (oi := { dst := some 13, op := Go.Op.nilCheck (Go.Operand.tmp 10), type := 113, pos := _, after := #[{ on := 3, ground := Go.Ground.data }], guard := none }) (v := ?vv36) rfl (by kernel_rfl) (by kernel_rfl) (by kernel_rfl) (fun _ _ _ h => h) (Or.inl ⟨by rfl, ?hy36⟩) (by assumption) ?tk36
  case hy36 => (intro w hSw; (try dsimp only at hSw); go_simp; (try with_reducible rfl))
  try simp only [Act.put, List.setIfInBounds_toArray, List.set_cons_zero, List.set_cons_succ]
  refine wpAnyH_take (i := 7) (oi := { dst := some 14, op := Go.Op.move (Go.Operand.tmp 10), type := 113, pos := _, after := #[{ on := 3, ground := Go.Ground.data }, { on := 6, ground := Go.Ground.data }], guard := none }) (v := ?vv37) rfl (by kernel_rfl) (by kernel_rfl) (by kernel_rfl) (fun _ _ _ h => h) (Or.inl ⟨by rfl, ?hy37⟩) (by assumption) ?tk37
  case hy37 => (intro w hSw; (try dsimp only at hSw); go_simp; (try with_reducible rfl))
  try simp only [Act.put, List.setIfInBounds_toArray, List.set_cons_zero, List.set_cons_succ]
  refine wpAnyH_ready (rs := [5]) (by kernel_rfl) (by simp) ?_
  refine AllReadyH.cons (o := { dst := some 12, op := Go.Op.call { callee := Go.Callee.value (Go.Operand.func 172), args := #[Go.Operand.tmp 11, Go.Operand.const (Go.Value.int Go.IntKind.u8 8)], argTypes := #[24, 121] }, type := 123, pos := _, after := #[{ on := 4, ground := Go.Ground.data }], guard := none }) rfl (fun K' hK' => ?_) AllReadyH.nil
  go_simp
  go_at_call 172
  refine hbk.mono ?_
  rintro x w1 ⟨rfl, hb1⟩
  have s1 := (HH.out.drew.below hb1).s
  have HB1 := hideIt hb1
  clear hbk hb1
  clear hHeld
  refine hK'.out _ _ s1 (fun hHeld => ?_)
  clear hK' K'
  try simp only [Act.put, List.setIfInBounds_toArray, List.set_cons_zero, List.set_cons_succ]
  refine wpAnyH_ready (rs := [8]) (by kernel_rfl) (by simp) ?_
  refine AllReadyH.cons (o := { dst := some 15, op := Go.Op.call { callee := Go.Callee.invoke (Go.Operand.tmp 14) "Record", args := #[Go.Operand.tmp 12], argTypes := #[123] }, type := 0, pos := _, after := #[{ on := 7, ground := Go.Ground.data }, { on := 5, ground := Go.Ground.data }, { on := 5, ground := Go.Ground.chain }], guard := none }) rfl (fun K' hK' => ?_) AllReadyH.nil
  have H1 := HH.out.drew.below HB1.out
  have hrec := coll_rec (e := ⟨8, (t : Int), (-1), (-1), 0, (-1), 0, 0, 0⟩) (kk := 8) H1.tr H1.sz hl (by rfl) (by omega)
  unfold evV at hrec
  have HX1 := hideIt H1
  clear H1
  go_simp
  go_at_call 261
  refine hrec.mono ?_
  rintro x w4 ⟨rfl, V4, T4, TW4⟩
  obtain ⟨H4, F4⟩ := HX1.out.told T4 TW4
  have t1 := H4.s
  have HQ := hideIt (And.intro H4 F4)
  clear H4 F4 T4 TW4
  clear hHeld
  refine hK'.out _ _ t1 (fun hHeld => ?_)
  clear hK' K'
  try simp only [Act.put, List.setIfInBounds_toArray, List.set_cons_zero, List.set_cons_succ]
  refine wpAnyH_done (by kernel_rfl) ?_ _
  go_wp2
  go_end0
  obtain ⟨H4, F4⟩ := HQ.out
  exact ⟨rfl, V4, H4, (((LF.refl B mb T V w).drew).below HB1.out).trans F4⟩
end Go.Proofs.Qxb6500877aGreatDoor
