import Derived.Deep.CutBlock
import Derived.OwnWalk
import Derived.Maps.AppendAt
import Derived.Test.Qxb6500877aGreatDoorTx4
set_option linter.unusedVariables false
set_option linter.unusedSimpArgs false
namespace Go.Proofs.Qxb6500877aGreatDoor
open Go.RowKit

theorem evIn_one (w : World) (e : EvS) : EvIn (w.alloc (.cells #[.int .u8 e.kd, .int .u64 e.ti, .int .i64 e.co, .int .i64 e.tk, .int .u64 e.tm, .int .i64 e.bx, .int .u64 e.sq, .int .u8 e.st, .int .i64 e.cd] 123)) (.slice (some ⟨w.heap.size, 0, none⟩) 1 1) [e] := by
  refine ⟨_, 1, rfl, .inr ⟨w.heap.size, 0, rfl, fun j e' hj => ?_⟩⟩
  cases j with
  | zero =>
    simp at hj
    subst hj
    exact Ev9.new w e 123
  | succ j => simp at hj
theorem xa_new {w w1 : World} {p7 p8 p10 p12 p13 p15 p16 : Nat} {o : OpS} {rs : Array Value} {now : Nat} {was st : Int} {sb so : Nat} (h : XB w1 p7 p8 p10 p12 p13 p15 p16 o rs now was st sb so) (hb : Below w.heap.size w w1) (hl : p7 < w1.heap.size ∧ p8 < w1.heap.size ∧ p10 < w1.heap.size ∧ p12 < w1.heap.size ∧ p13 < w1.heap.size ∧ p15 < w1.heap.size ∧ p16 < w1.heap.size) : XA w (w1.alloc (.cells #[.slice none 0 0] 111)) p7 p8 p10 p12 p13 p15 p16 w1.heap.size (w1.heap.size + 1) o rs now was st sb so (.slice none 0 0) [] := by
  have hs := hb.size
  refine ⟨h.keep (fun q hq => (one_alloc w1 _).block q (by omega)), by simp, fun o => by simp, ⟨by simp [evCells], .inl ⟨rfl, rfl⟩⟩, below_to hb (one_alloc _ _) hs, by simp; omega⟩
set_option maxRecDepth 20000 in
set_option maxHeartbeats 8000000 in
theorem exp_ref {w : World} {o : OpS} {z co tk tm : Int} {hm : Bool} {mm : MsgV} {pf : Option Addr} {nf cf now : Nat} {was st : Int} {sb so : Nat} {mv : Bool} (hz : z ≠ 0) : Calls Tryz.prog 60 #[opV o, .agg (resCs z co tk tm hm mm pf nf cf), .int .u64 (now : Int), .int .i64 was, .bool mv, .int .u8 st, .pointer (some ⟨sb, so, none⟩)] w fun e w' => ∃ v, e = .returned v ∧ EvIn w' v [evR now z] ∧ Below w.heap.size w w' := by
  have hzb : (z != 0) = true := by simpa using hz
  clear hz
  have hsf : ∀ (a : Addr) (m : Mode) (w : World) (c : Array Value), (store a (.func (.func 116) #[] c) m).run Tryz.prog w = stored Tryz.prog w a (.func (.func 116) #[] c) m := fun a m w c => run_store Tryz.prog w a _ m rfl
  unfold opV resCs
  go_enter Tryz.func60, Tryz.ntmps60
  go_upto_region 3 with fail
  obtain ⟨B0, bb, hsz⟩ := xb_new (w := w) (o := o) (z := z) (co := co) (tk := tk) (tm := tm) (hm := hm) (mm := mm) (pf := pf) (nf := nf) (cf := cf) (now := now) (was := was) (st := st) (sb := sb) (so := so)
  clear hsf
  generalize (World.alloc (World.alloc (World.alloc (World.alloc (World.alloc (World.alloc (World.alloc w (.cells #[.int .u8 o.kd, .int .i64 o.a, .int .i64 o.b, .int .i64 o.c, .int .u64 o.x, .int .u64 o.y] 32)) (.cells #[.int .i64 z, .int .i64 co, .int .i64 tk, .int .u64 tm, .bool hm, .int .i64 mm.mf, .int .i64 mm.mt, .int .u32 mm.md, .int .u64 mm.mq, .int .u64 mm.ma, .int .u64 mm.x0, .int .u64 mm.x1, .int .u64 mm.x2, .int .u64 mm.x3, .slice pf nf cf] 43)) (.cells #[.int .i64 was] 35)) (.cells #[.int .u8 st] 46)) (.cells #[.pointer (some ⟨sb, so, none⟩)] 125)) (.cells #[.int .u8 0, .int .u64 (now : Int), .int .i64 (-1), .int .i64 (-1), .int .u64 0, .int .i64 (-1), .int .u64 0, .int .u8 0, .int .i64 0] 123)) (.cells #[.func (.func 116) #[] #[.pointer (some ⟨w.heap.size + 1 + 1 + 1 + 1 + 1, 0, none⟩)]] 223)) = wc at *
  generalize hp16 : w.heap.size + 1 + 1 + 1 + 1 + 1 + 1 = p16 at *
  generalize hp15 : w.heap.size + 1 + 1 + 1 + 1 + 1 = p15 at *
  generalize hp13 : w.heap.size + 1 + 1 + 1 + 1 = p13 at *
  generalize hp12 : w.heap.size + 1 + 1 + 1 = p12 at *
  generalize hp10 : w.heap.size + 1 + 1 = p10 at *
  generalize hp8 : w.heap.size + 1 = p8 at *
  have ql : w.heap.size < p8 ∧ p8 < p10 ∧ p10 < p12 ∧ p12 < p13 ∧ p13 < p15 ∧ p15 < p16 ∧ wc.heap.size = p16 + 1 := by omega
  have HBB := hideIt bb
  clear bb hsz hp8 hp10 hp12 hp13 hp15 hp16
  have r0 : wc.cell? ⟨p8, 0, none⟩ = some (.int .i64 z) := B0.rs 0 _ rfl
  have s1 := B0.on
  have hone := one_117 (kk := 10) B0.bk r0
  obtain ⟨e, he⟩ : ∃ e : EvS, e = evR now z := ⟨_, rfl⟩
  have HEV := hideIt he
  unfold evR at he
  rw [← he] at hone
  unfold evV at hone
  clear he
  go_wp2_with fail
  refine hone.mono ?_
  rintro x w2 ⟨rfl, hb2⟩
  have HB2 := hideIt hb2
  clear hb2 hone
  go_wp2
  go_ret
  refine ⟨_, rfl, ?_, below_to (below_to HBB.out HB2.out HBB.out.size) (one_alloc _ _) (Nat.le_trans HBB.out.size HB2.out.size)⟩
  rw [← HEV.out]
  exact evIn_one _ _
end Go.Proofs.Qxb6500877aGreatDoor
