import Derived.Deep.CutBlock
import Derived.OwnWalk
import Derived.Maps.AppendAt
import Derived.Test.Qxb6500877aGreatDoorTx5
set_option linter.unusedVariables false
set_option linter.unusedSimpArgs false
namespace Go.Proofs.Qxb6500877aGreatDoor
open Go.RowKit

set_option maxRecDepth 20000 in
set_option maxHeartbeats 8000000 in
theorem exp_1 {w : World} {o : OpS} {z co tk tm : Int} {hm : Bool} {mm : MsgV} {pf : Option Addr} {nf cf now : Nat} {was st : Int} {sb so : Nat} {mv : Bool} (hz : z = 0) (hkd : o.kd = 1) : Calls Tryz.prog 60 #[opV o, .agg (resCs z co tk tm hm mm pf nf cf), .int .u64 (now : Int), .int .i64 was, .bool mv, .int .u8 st, .pointer (some ⟨sb, so, none⟩)] w fun e w' => ∃ v, e = .returned v ∧ EvIn w' v [(evX now 3 mm mm.mt)] ∧ Below w.heap.size w w' := by
  subst hz
  have HK := hideIt hkd
  clear hkd
  have hsf : ∀ (a : Addr) (m : Mode) (w : World) (c : Array Value), (store a (.func (.func 116) #[] c) m).run Tryz.prog w = stored Tryz.prog w a (.func (.func 116) #[] c) m := fun a m w c => run_store Tryz.prog w a _ m rfl
  unfold opV resCs
  go_enter Tryz.func60, Tryz.ntmps60
  go_upto_region 3 with fail
  obtain ⟨B0, bb, hsz⟩ := xb_new (w := w) (o := o) (z := 0) (co := co) (tk := tk) (tm := tm) (hm := hm) (mm := mm) (pf := pf) (nf := nf) (cf := cf) (now := now) (was := was) (st := st) (sb := sb) (so := so)
  clear hsf
  generalize (World.alloc (World.alloc (World.alloc (World.alloc (World.alloc (World.alloc (World.alloc w (.cells #[.int .u8 o.kd, .int .i64 o.a, .int .i64 o.b, .int .i64 o.c, .int .u64 o.x, .int .u64 o.y] 32)) (.cells #[.int .i64 0, .int .i64 co, .int .i64 tk, .int .u64 tm, .bool hm, .int .i64 mm.mf, .int .i64 mm.mt, .int .u32 mm.md, .int .u64 mm.mq, .int .u64 mm.ma, .int .u64 mm.x0, .int .u64 mm.x1, .int .u64 mm.x2, .int .u64 mm.x3, .slice pf nf cf] 43)) (.cells #[.int .i64 was] 35)) (.cells #[.int .u8 st] 46)) (.cells #[.pointer (some ⟨sb, so, none⟩)] 125)) (.cells #[.int .u8 0, .int .u64 (now : Int), .int .i64 (-1), .int .i64 (-1), .int .u64 0, .int .i64 (-1), .int .u64 0, .int .u8 0, .int .i64 0] 123)) (.cells #[.func (.func 116) #[] #[.pointer (some ⟨w.heap.size + 1 + 1 + 1 + 1 + 1, 0, none⟩)]] 223)) = wc at *
  generalize hp16 : w.heap.size + 1 + 1 + 1 + 1 + 1 + 1 = p16 at *
  generalize hp15 : w.heap.size + 1 + 1 + 1 + 1 + 1 = p15 at *
  generalize hp13 : w.heap.size + 1 + 1 + 1 + 1 = p13 at *
  generalize hp12 : w.heap.size + 1 + 1 + 1 = p12 at *
  generalize hp10 : w.heap.size + 1 + 1 = p10 at *
  generalize hp8 : w.heap.size + 1 = p8 at *
  have ql : w.heap.size < p8 ∧ p8 < p10 ∧ p10 < p12 ∧ p12 < p13 ∧ p13 < p15 ∧ p15 < p16 ∧ p16 < wc.heap.size := by omega
  have HBB := hideIt bb
  clear bb hsz hp8 hp10 hp12 hp13 hp15 hp16
  have r0 : wc.cell? ⟨p8, 0, none⟩ = some (.int .i64 0) := B0.rs 0 _ rfl
  go_upto_region 7 with fail
  have X := xa_new B0 HBB.out (by omega)
  clear r0 B0 HBB
  generalize World.alloc wc (.cells #[.slice none 0 0] 111) = wd at *
  obtain ⟨V, hV0⟩ : ∃ V, V = Value.slice none 0 0 := ⟨_, rfl⟩
  rw [← hV0] at X
  clear hV0
  obtain ⟨n1, hn1⟩ : ∃ n1, n1 = wc.heap.size + 1 := ⟨_, rfl⟩
  rw [← hn1] at X
  generalize hp17 : wc.heap.size = p17 at *
  have qn : p17 < n1 := by omega
  have ql2 : w.heap.size < p8 ∧ p8 < p10 ∧ p10 < p12 ∧ p12 < p13 ∧ p13 < p15 ∧ p15 < p16 ∧ p16 < p17 := by omega
  clear hn1 ql hp17
  have g0 := X.b.op.c0
  rw [HK.out] at g0
  obtain ⟨l, hl⟩ : ∃ l, l = ([] : List EvS) := ⟨_, rfl⟩
  rw [← hl] at X
  have hlen : l.length < 1000 := by rw [hl]; simp
  have HLL := hideIt hl
  clear hl
  have r5 : wd.cell? ⟨p8, 5, none⟩ = some (.int .i64 mm.mf) := X.b.rs 5 _ rfl
  have r6 : wd.cell? ⟨p8, 6, none⟩ = some (.int .i64 mm.mt) := X.b.rs 6 _ rfl
  have r8 : wd.cell? ⟨p8, 8, none⟩ = some (.int .u64 mm.mq) := X.b.rs 8 _ rfl
  go_upto_region 15 with fail
  obtain ⟨i0_, hi_, hz0, hz1, hz2⟩ := info_parts info123
  obtain ⟨e, he⟩ : ∃ e : EvS, e = (evX now 3 mm mm.mt) := ⟨_, rfl⟩
  have HEV := hideIt he
  have hone := one_122 (w := World.drew wd) (kk := 3) X.b.bk.drew r5 r6 r8
  try unfold evT at he
  try unfold evM at he
  try unfold evX at he
  try unfold bl at he
  rw [← he] at hone
  unfold evV at hone
  clear he
  obtain ⟨pv, cap, hV⟩ := own_shape X.own
  obtain ⟨n, hn⟩ : ∃ n, n = l.length := ⟨_, rfl⟩
  rw [← hn] at hV hlen
  subst hV
  have HN := hideIt hn
  have s0 := X.ou
  have s1 := X.b.on
  have hr : ∀ q, q < n1 → some q ≠ (Value.slice pv n cap).ownBlock := fun q hq e => by have := (X.own.lt q e.symm).1; omega
  obtain ⟨l1, l2, l3, l4, l5, l6, l7, l8, l9, l10⟩ := X.lt
  have hr17 := hr p17 (by omega)
  have hr16 := hr p16 (by omega)
  have HX := hideIt X
  clear X hn hr
  refine wp_region_l (l := 6) (S := (fun w' => w'.cell? ⟨p17, 0, none⟩ = some (.slice pv n cap) ∧ w'.cell? ⟨p16, 0, none⟩ = some (.func (.func 116) #[] #[.pointer (some ⟨p15, 0, none⟩)]))) (by kernel_rfl) ⟨s0, s1⟩ (fun hHeld => ?_)
  refine AnyL.take2 (i := 0) (oi := { dst := some 61, op := Go.Op.load 111 (Go.Operand.tmp 17), type := 111, pos := _, after := #[], guard := none }) (v := ?vv9010) (by kernel_rfl) (by kernel_rfl) rfl (by kernel_rfl) (by kernel_rfl) (by kernel_rfl) (fun _ _ _ h => h) (Or.inl ⟨by rfl, ?hy9010⟩) (by assumption) ?tk9010
  case hy9010 => (intro w hSw; (try dsimp only at hSw); go_simp; (try with_reducible rfl))
  try simp only [Act.put, List.setIfInBounds_toArray, List.set_cons_zero, List.set_cons_succ]
  refine AnyL.take2 (i := 1) (oi := { dst := some 62, op := Go.Op.load 223 (Go.Operand.tmp 16), type := 223, pos := _, after := #[], guard := none }) (v := ?vv9011) (by kernel_rfl) (by kernel_rfl) rfl (by kernel_rfl) (by kernel_rfl) (by kernel_rfl) (fun _ _ _ h => h) (Or.inl ⟨by rfl, ?hy9011⟩) (by assumption) ?tk9011
  case hy9011 => (intro w hSw; (try dsimp only at hSw); go_simp; (try with_reducible rfl))
  try simp only [Act.put, List.setIfInBounds_toArray, List.set_cons_zero, List.set_cons_succ]
  refine AnyL.take2 (i := 2) (oi := { dst := some 63, op := Go.Op.makeFunc (Go.Fn.func 122) #[] #[Go.Operand.tmp 8], type := 221, pos := _, after := #[], guard := none }) (v := ?vv9012) (by kernel_rfl) (by kernel_rfl) rfl (by kernel_rfl) (by kernel_rfl) (by kernel_rfl) (fun _ _ _ h => h) (Or.inl ⟨by rfl, ?hy9012⟩) (by assumption) ?tk9012
  case hy9012 => (intro w hSw; (try dsimp only at hSw); go_simp; (try with_reducible rfl))
  try simp only [Act.put, List.setIfInBounds_toArray, List.set_cons_zero, List.set_cons_succ]
  refine AnyL.one (i := 3) (o := { dst := some 64, op := Go.Op.call { callee := Go.Callee.value (Go.Operand.tmp 62), args := #[Go.Operand.const (Go.Value.int Go.IntKind.u8 3), Go.Operand.tmp 63], argTypes := #[121, 221] }, type := 123, pos := _, after := #[{ on := 1, ground := Go.Ground.data }, { on := 2, ground := Go.Ground.data }], guard := none }) (by kernel_rfl) rfl rfl (fun K' hK' => ?_)
  go_simp
  go_at_call 116
  refine hone.mono ?_
  rintro x w2 ⟨rfl, hb2⟩
  have X2 := HX.out.drew.below hb2
  have t0 := X2.ou
  have t1 := X2.b.on
  have hown := X2.own
  have hsz2 := X2.lt.2.2.2.2.2.2.2.2.2
  have fz2 := X2.fz
  rw [← HN.out] at hown
  have HX2 := hideIt X2
  clear X2 hb2 hone
  clear hHeld
  refine hK'.out _ _ ⟨t0, t1⟩ (fun hHeld => ?_)
  clear hK' K'
  try simp only [Act.put, List.setIfInBounds_toArray, List.set_cons_zero, List.set_cons_succ]
  refine AnyL.one (i := 4) (o := { dst := some 65, op := Go.Op.buildSlice 111 1 #[(0, Go.Operand.tmp 64)], type := 111, pos := _, after := #[{ on := 3, ground := Go.Ground.data }], guard := none }) (by kernel_rfl) rfl rfl (fun K' hK' => ?_)
  go_simp
  clear hHeld
  refine hK'.out _ _ ⟨cell_later (one_alloc _ _) t0, cell_later (one_alloc _ _) t1⟩ (fun hHeld => ?_)
  clear hK' K'
  try simp only [Act.put, List.setIfInBounds_toArray, List.set_cons_zero, List.set_cons_succ]
  refine AnyL.one (i := 5) (o := { dst := some 66, op := Go.Op.call { callee := Go.Callee.builtin Go.Builtin.append, args := #[Go.Operand.tmp 61, Go.Operand.tmp 65], argTypes := #[111, 111] }, type := 111, pos := _, after := #[{ on := 0, ground := Go.Ground.data }, { on := 4, ground := Go.Ground.data }, { on := 3, ground := Go.Ground.chain }], guard := none }) (by kernel_rfl) rfl rfl (fun K' hK' => ?_)
  refine ite_take (by rfl) ?_
  refine wp_append_own_at (.tmp 61) (.tmp 65) 111 rfl n1 123 i0_ (.agg #[.int .u8 0, .int .u64 0, .int .i64 0, .int .i64 0, .int .u64 0, .int .i64 0, .int .u64 0, .int .u8 0, .int .i64 0]) 9 72 Tryz.underlying111 hi_ hz0 hz1 hz2 rfl (by decide) (.slice pv n cap) n (evCells l) rfl (hown.alloc _) ⟨w2.heap.size, 0, none⟩ 1 1 (ev9 e) rfl rfl (cell_ev_new _ _ _) (ev9_one e) (by unfold maxLen; omega) (by omega) (by simp; omega) ?_
  intro v' w3 hown' hgrow hblk
  obtain ⟨p', c', rfl⟩ := own_shape hown'
  have k0 := hgrow.cell (a := ⟨p17, 0, none⟩) hHeld.1 hr17
  have k1 := hgrow.cell (a := ⟨p16, 0, none⟩) hHeld.2 hr16
  have fz3 : ∀ o, w3.frozen? ⟨p17, o, none⟩ = false := fun o => ((World.frozen?_of_block (a := ⟨p17, o, none⟩) (hgrow.block p17 (by simp; omega) hr17)).trans (World.frozen?_of_block (a := ⟨p17, o, none⟩) ((one_alloc w2 _).block p17 (by omega)))).trans (fz2 o)
  have HG := hideIt (And.intro hown' hgrow)
  clear hown' hgrow hblk
  clear hHeld
  refine hK'.out _ _ ⟨k0, k1⟩ (fun hHeld => ?_)
  clear hK' K'
  try simp only [Act.put, List.setIfInBounds_toArray, List.set_cons_zero, List.set_cons_succ]
  refine AnyL.last (o := { dst := none, op := Go.Op.store 111 (Go.Operand.tmp 17) (Go.Operand.tmp 66), type := 0, pos := _, after := #[{ on := 5, ground := Go.Ground.data }, { on := 5, ground := Go.Ground.chain }, { on := 0, ground := Go.Ground.phase }, { on := 1, ground := Go.Ground.phase }, { on := 2, ground := Go.Ground.phase }, { on := 3, ground := Go.Ground.phase }, { on := 4, ground := Go.Ground.phase }, { on := 5, ground := Go.Ground.phase }], guard := none }) (by kernel_rfl) rfl (by kernel_rfl) (fun K' hK' => ?_)
  go_simp
  clear hHeld
  refine hK'.out _ _ ?_
  clear hK' K'
  try simp only [Act.put, List.setIfInBounds_toArray, List.set_cons_zero, List.set_cons_succ]
  go_wp2
  go_ret
  have X3 : XA w (World.setCell w3 ⟨p17, 0, none⟩ (.slice p' (n + 1) c')) w.heap.size p8 p10 p12 p13 p15 p16 p17 n1 o (resCs 0 co tk tm hm mm pf nf cf) now was st sb so (.slice p' (n + 1) c') (l ++ [(evX now 3 mm mm.mt)]) := by rw [← HEV.out]; exact HX2.out.push (by rw [← HN.out]; exact HG.out.1) HG.out.2
  rw [HLL.out] at X3
  exact ⟨_, rfl, EvIn.of_own X3.own, X3.bl⟩
set_option maxRecDepth 20000 in
set_option maxHeartbeats 8000000 in
theorem exp_6 {w : World} {o : OpS} {z co tk tm : Int} {hm : Bool} {mm : MsgV} {pf : Option Addr} {nf cf now : Nat} {was st : Int} {sb so : Nat} {mv : Bool} (hz : z = 0) (hkd : o.kd = 6) : Calls Tryz.prog 60 #[opV o, .agg (resCs z co tk tm hm mm pf nf cf), .int .u64 (now : Int), .int .i64 was, .bool mv, .int .u8 st, .pointer (some ⟨sb, so, none⟩)] w fun e w' => ∃ v, e = .returned v ∧ EvIn w' v [(evM now 4 now co tm)] ∧ Below w.heap.size w w' := by
  subst hz
  have HK := hideIt hkd
  clear hkd
  have hsf : ∀ (a : Addr) (m : Mode) (w : World) (c : Array Value), (store a (.func (.func 116) #[] c) m).run Tryz.prog w = stored Tryz.prog w a (.func (.func 116) #[] c) m := fun a m w c => run_store Tryz.prog w a _ m rfl
  unfold opV resCs
  go_enter Tryz.func60, Tryz.ntmps60
  go_upto_region 3 with fail
  obtain ⟨B0, bb, hsz⟩ := xb_new (w := w) (o := o) (z := 0) (co := co) (tk := tk) (tm := tm) (hm := hm) (mm := mm) (pf := pf) (nf := nf) (cf := cf) (now := now) (was := was) (st := st) (sb := sb) (so := so)
  clear hsf
  generalize (World.alloc (World.alloc (World.alloc (World.alloc (World.alloc (World.alloc (World.alloc w (.cells #[.int .u8 o.kd, .int .i64 o.a, .int .i64 o.b, .int .i64 o.c, .int .u64 o.x, .int .u64 o.y] 32)) (.cells #[.int .i64 0, .int .i64 co, .int .i64 tk, .int .u64 tm, .bool hm, .int .i64 mm.mf, .int .i64 mm.mt, .int .u32 mm.md, .int .u64 mm.mq, .int .u64 mm.ma, .int .u64 mm.x0, .int .u64 mm.x1, .int .u64 mm.x2, .int .u64 mm.x3, .slice pf nf cf] 43)) (.cells #[.int .i64 was] 35)) (.cells #[.int .u8 st] 46)) (.cells #[.pointer (some ⟨sb, so, none⟩)] 125)) (.cells #[.int .u8 0, .int .u64 (now : Int), .int .i64 (-1), .int .i64 (-1), .int .u64 0, .int .i64 (-1), .int .u64 0, .int .u8 0, .int .i64 0] 123)) (.cells #[.func (.func 116) #[] #[.pointer (some ⟨w.heap.size + 1 + 1 + 1 + 1 + 1, 0, none⟩)]] 223)) = wc at *
  generalize hp16 : w.heap.size + 1 + 1 + 1 + 1 + 1 + 1 = p16 at *
  generalize hp15 : w.heap.size + 1 + 1 + 1 + 1 + 1 = p15 at *
  generalize hp13 : w.heap.size + 1 + 1 + 1 + 1 = p13 at *
  generalize hp12 : w.heap.size + 1 + 1 + 1 = p12 at *
  generalize hp10 : w.heap.size + 1 + 1 = p10 at *
  generalize hp8 : w.heap.size + 1 = p8 at *
  have ql : w.heap.size < p8 ∧ p8 < p10 ∧ p10 < p12 ∧ p12 < p13 ∧ p13 < p15 ∧ p15 < p16 ∧ p16 < wc.heap.size := by omega
  have HBB := hideIt bb
  clear bb hsz hp8 hp10 hp12 hp13 hp15 hp16
  have r0 : wc.cell? ⟨p8, 0, none⟩ = some (.int .i64 0) := B0.rs 0 _ rfl
  go_upto_region 7 with fail
  have X := xa_new B0 HBB.out (by omega)
  clear r0 B0 HBB
  generalize World.alloc wc (.cells #[.slice none 0 0] 111) = wd at *
  obtain ⟨V, hV0⟩ : ∃ V, V = Value.slice none 0 0 := ⟨_, rfl⟩
  rw [← hV0] at X
  clear hV0
  obtain ⟨n1, hn1⟩ : ∃ n1, n1 = wc.heap.size + 1 := ⟨_, rfl⟩
  rw [← hn1] at X
  generalize hp17 : wc.heap.size = p17 at *
  have qn : p17 < n1 := by omega
  have ql2 : w.heap.size < p8 ∧ p8 < p10 ∧ p10 < p12 ∧ p12 < p13 ∧ p13 < p15 ∧ p15 < p16 ∧ p16 < p17 := by omega
  clear hn1 ql hp17
  have g0 := X.b.op.c0
  rw [HK.out] at g0
  obtain ⟨l, hl⟩ : ∃ l, l = ([] : List EvS) := ⟨_, rfl⟩
  rw [← hl] at X
  have hlen : l.length < 1000 := by rw [hl]; simp
  have HLL := hideIt hl
  clear hl
  have r1 : wd.cell? ⟨p8, 1, none⟩ = some (.int .i64 co) := X.b.rs 1 _ rfl
  have r3 : wd.cell? ⟨p8, 3, none⟩ = some (.int .u64 tm) := X.b.rs 3 _ rfl
  have htm := tim_any (kk := 4) X hlen r1 r3
  clear X
  go_wp2_with fail
  refine htm.mono ?_
  rintro x w2 ⟨rfl, V2, X2⟩
  have s2 := X2.ou
  rw [HLL.out] at X2
  have HX2 := hideIt X2
  clear X2 htm
  go_wp2
  go_ret
  exact ⟨_, rfl, EvIn.of_own HX2.out.own, HX2.out.bl⟩
set_option maxRecDepth 20000 in
set_option maxHeartbeats 8000000 in
theorem exp_7 {w : World} {o : OpS} {z co tk tm : Int} {hm : Bool} {mm : MsgV} {pf : Option Addr} {nf cf now : Nat} {was st : Int} {sb so : Nat} {mv : Bool} (hz : z = 0) (hkd : o.kd = 7) : Calls Tryz.prog 60 #[opV o, .agg (resCs z co tk tm hm mm pf nf cf), .int .u64 (now : Int), .int .i64 was, .bool mv, .int .u8 st, .pointer (some ⟨sb, so, none⟩)] w fun e w' => ∃ v, e = .returned v ∧ EvIn w' v [(evM now 4 now co tm)] ∧ Below w.heap.size w w' := by
  subst hz
  have HK := hideIt hkd
  clear hkd
  have hsf : ∀ (a : Addr) (m : Mode) (w : World) (c : Array Value), (store a (.func (.func 116) #[] c) m).run Tryz.prog w = stored Tryz.prog w a (.func (.func 116) #[] c) m := fun a m w c => run_store Tryz.prog w a _ m rfl
  unfold opV resCs
  go_enter Tryz.func60, Tryz.ntmps60
  go_upto_region 3 with fail
  obtain ⟨B0, bb, hsz⟩ := xb_new (w := w) (o := o) (z := 0) (co := co) (tk := tk) (tm := tm) (hm := hm) (mm := mm) (pf := pf) (nf := nf) (cf := cf) (now := now) (was := was) (st := st) (sb := sb) (so := so)
  clear hsf
  generalize (World.alloc (World.alloc (World.alloc (World.alloc (World.alloc (World.alloc (World.alloc w (.cells #[.int .u8 o.kd, .int .i64 o.a, .int .i64 o.b, .int .i64 o.c, .int .u64 o.x, .int .u64 o.y] 32)) (.cells #[.int .i64 0, .int .i64 co, .int .i64 tk, .int .u64 tm, .bool hm, .int .i64 mm.mf, .int .i64 mm.mt, .int .u32 mm.md, .int .u64 mm.mq, .int .u64 mm.ma, .int .u64 mm.x0, .int .u64 mm.x1, .int .u64 mm.x2, .int .u64 mm.x3, .slice pf nf cf] 43)) (.cells #[.int .i64 was] 35)) (.cells #[.int .u8 st] 46)) (.cells #[.pointer (some ⟨sb, so, none⟩)] 125)) (.cells #[.int .u8 0, .int .u64 (now : Int), .int .i64 (-1), .int .i64 (-1), .int .u64 0, .int .i64 (-1), .int .u64 0, .int .u8 0, .int .i64 0] 123)) (.cells #[.func (.func 116) #[] #[.pointer (some ⟨w.heap.size + 1 + 1 + 1 + 1 + 1, 0, none⟩)]] 223)) = wc at *
  generalize hp16 : w.heap.size + 1 + 1 + 1 + 1 + 1 + 1 = p16 at *
  generalize hp15 : w.heap.size + 1 + 1 + 1 + 1 + 1 = p15 at *
  generalize hp13 : w.heap.size + 1 + 1 + 1 + 1 = p13 at *
  generalize hp12 : w.heap.size + 1 + 1 + 1 = p12 at *
  generalize hp10 : w.heap.size + 1 + 1 = p10 at *
  generalize hp8 : w.heap.size + 1 = p8 at *
  have ql : w.heap.size < p8 ∧ p8 < p10 ∧ p10 < p12 ∧ p12 < p13 ∧ p13 < p15 ∧ p15 < p16 ∧ p16 < wc.heap.size := by omega
  have HBB := hideIt bb
  clear bb hsz hp8 hp10 hp12 hp13 hp15 hp16
  have r0 : wc.cell? ⟨p8, 0, none⟩ = some (.int .i64 0) := B0.rs 0 _ rfl
  go_upto_region 7 with fail
  have X := xa_new B0 HBB.out (by omega)
  clear r0 B0 HBB
  generalize World.alloc wc (.cells #[.slice none 0 0] 111) = wd at *
  obtain ⟨V, hV0⟩ : ∃ V, V = Value.slice none 0 0 := ⟨_, rfl⟩
  rw [← hV0] at X
  clear hV0
  obtain ⟨n1, hn1⟩ : ∃ n1, n1 = wc.heap.size + 1 := ⟨_, rfl⟩
  rw [← hn1] at X
  generalize hp17 : wc.heap.size = p17 at *
  have qn : p17 < n1 := by omega
  have ql2 : w.heap.size < p8 ∧ p8 < p10 ∧ p10 < p12 ∧ p12 < p13 ∧ p13 < p15 ∧ p15 < p16 ∧ p16 < p17 := by omega
  clear hn1 ql hp17
  have g0 := X.b.op.c0
  rw [HK.out] at g0
  obtain ⟨l, hl⟩ : ∃ l, l = ([] : List EvS) := ⟨_, rfl⟩
  rw [← hl] at X
  have hlen : l.length < 1000 := by rw [hl]; simp
  have HLL := hideIt hl
  clear hl
  have r1 : wd.cell? ⟨p8, 1, none⟩ = some (.int .i64 co) := X.b.rs 1 _ rfl
  have r3 : wd.cell? ⟨p8, 3, none⟩ = some (.int .u64 tm) := X.b.rs 3 _ rfl
  have htm := tim_any (kk := 4) X hlen r1 r3
  clear X
  go_wp2_with fail
  refine htm.mono ?_
  rintro x w2 ⟨rfl, V2, X2⟩
  have s2 := X2.ou
  rw [HLL.out] at X2
  have HX2 := hideIt X2
  clear X2 htm
  go_wp2
  go_ret
  exact ⟨_, rfl, EvIn.of_own HX2.out.own, HX2.out.bl⟩
set_option maxRecDepth 20000 in
set_option maxHeartbeats 8000000 in
theorem exp_8 {w : World} {o : OpS} {z co tk tm : Int} {hm : Bool} {mm : MsgV} {pf : Option Addr} {nf cf now : Nat} {was st : Int} {sb so : Nat} {mv : Bool} (hz : z = 0) (hkd : o.kd = 8) : Calls Tryz.prog 60 #[opV o, .agg (resCs z co tk tm hm mm pf nf cf), .int .u64 (now : Int), .int .i64 was, .bool mv, .int .u8 st, .pointer (some ⟨sb, so, none⟩)] w fun e w' => ∃ v, e = .returned v ∧ EvIn w' v [(evM now 5 now co tm)] ∧ Below w.heap.size w w' := by
  subst hz
  have HK := hideIt hkd
  clear hkd
  have hsf : ∀ (a : Addr) (m : Mode) (w : World) (c : Array Value), (store a (.func (.func 116) #[] c) m).run Tryz.prog w = stored Tryz.prog w a (.func (.func 116) #[] c) m := fun a m w c => run_store Tryz.prog w a _ m rfl
  unfold opV resCs
  go_enter Tryz.func60, Tryz.ntmps60
  go_upto_region 3 with fail
  obtain ⟨B0, bb, hsz⟩ := xb_new (w := w) (o := o) (z := 0) (co := co) (tk := tk) (tm := tm) (hm := hm) (mm := mm) (pf := pf) (nf := nf) (cf := cf) (now := now) (was := was) (st := st) (sb := sb) (so := so)
  clear hsf
  generalize (World.alloc (World.alloc (World.alloc (World.alloc (World.alloc (World.alloc (World.alloc w (.cells #[.int .u8 o.kd, .int .i64 o.a, .int .i64 o.b, .int .i64 o.c, .int .u64 o.x, .int .u64 o.y] 32)) (.cells #[.int .i64 0, .int .i64 co, .int .i64 tk, .int .u64 tm, .bool hm, .int .i64 mm.mf, .int .i64 mm.mt, .int .u32 mm.md, .int .u64 mm.mq, .int .u64 mm.ma, .int .u64 mm.x0, .int .u64 mm.x1, .int .u64 mm.x2, .int .u64 mm.x3, .slice pf nf cf] 43)) (.cells #[.int .i64 was] 35)) (.cells #[.int .u8 st] 46)) (.cells #[.pointer (some ⟨sb, so, none⟩)] 125)) (.cells #[.int .u8 0, .int .u64 (now : Int), .int .i64 (-1), .int .i64 (-1), .int .u64 0, .int .i64 (-1), .int .u64 0, .int .u8 0, .int .i64 0] 123)) (.cells #[.func (.func 116) #[] #[.pointer (some ⟨w.heap.size + 1 + 1 + 1 + 1 + 1, 0, none⟩)]] 223)) = wc at *
  generalize hp16 : w.heap.size + 1 + 1 + 1 + 1 + 1 + 1 = p16 at *
  generalize hp15 : w.heap.size + 1 + 1 + 1 + 1 + 1 = p15 at *
  generalize hp13 : w.heap.size + 1 + 1 + 1 + 1 = p13 at *
  generalize hp12 : w.heap.size + 1 + 1 + 1 = p12 at *
  generalize hp10 : w.heap.size + 1 + 1 = p10 at *
  generalize hp8 : w.heap.size + 1 = p8 at *
  have ql : w.heap.size < p8 ∧ p8 < p10 ∧ p10 < p12 ∧ p12 < p13 ∧ p13 < p15 ∧ p15 < p16 ∧ p16 < wc.heap.size := by omega
  have HBB := hideIt bb
  clear bb hsz hp8 hp10 hp12 hp13 hp15 hp16
  have r0 : wc.cell? ⟨p8, 0, none⟩ = some (.int .i64 0) := B0.rs 0 _ rfl
  go_upto_region 7 with fail
  have X := xa_new B0 HBB.out (by omega)
  clear r0 B0 HBB
  generalize World.alloc wc (.cells #[.slice none 0 0] 111) = wd at *
  obtain ⟨V, hV0⟩ : ∃ V, V = Value.slice none 0 0 := ⟨_, rfl⟩
  rw [← hV0] at X
  clear hV0
  obtain ⟨n1, hn1⟩ : ∃ n1, n1 = wc.heap.size + 1 := ⟨_, rfl⟩
  rw [← hn1] at X
  generalize hp17 : wc.heap.size = p17 at *
  have qn : p17 < n1 := by omega
  have ql2 : w.heap.size < p8 ∧ p8 < p10 ∧ p10 < p12 ∧ p12 < p13 ∧ p13 < p15 ∧ p15 < p16 ∧ p16 < p17 := by omega
  clear hn1 ql hp17
  have g0 := X.b.op.c0
  rw [HK.out] at g0
  obtain ⟨l, hl⟩ : ∃ l, l = ([] : List EvS) := ⟨_, rfl⟩
  rw [← hl] at X
  have hlen : l.length < 1000 := by rw [hl]; simp
  have HLL := hideIt hl
  clear hl
  have r1 : wd.cell? ⟨p8, 1, none⟩ = some (.int .i64 co) := X.b.rs 1 _ rfl
  have r3 : wd.cell? ⟨p8, 3, none⟩ = some (.int .u64 tm) := X.b.rs 3 _ rfl
  have htm := tim_any (kk := 5) X hlen r1 r3
  clear X
  go_wp2_with fail
  refine htm.mono ?_
  rintro x w2 ⟨rfl, V2, X2⟩
  have s2 := X2.ou
  rw [HLL.out] at X2
  have HX2 := hideIt X2
  clear X2 htm
  go_wp2
  go_ret
  exact ⟨_, rfl, EvIn.of_own HX2.out.own, HX2.out.bl⟩
set_option maxRecDepth 20000 in
set_option maxHeartbeats 8000000 in
theorem exp_9 {w : World} {o : OpS} {z co tk tm : Int} {hm : Bool} {mm : MsgV} {pf : Option Addr} {nf cf now : Nat} {was st : Int} {sb so : Nat} {mv : Bool} (hz : z = 0) (hkd : o.kd = 9) : Calls Tryz.prog 60 #[opV o, .agg (resCs z co tk tm hm mm pf nf cf), .int .u64 (now : Int), .int .i64 was, .bool mv, .int .u8 st, .pointer (some ⟨sb, so, none⟩)] w fun e w' => ∃ v, e = .returned v ∧ EvIn w' v [(evM now 6 now co tm)] ∧ Below w.heap.size w w' := by
  subst hz
  have HK := hideIt hkd
  clear hkd
  have hsf : ∀ (a : Addr) (m : Mode) (w : World) (c : Array Value), (store a (.func (.func 116) #[] c) m).run Tryz.prog w = stored Tryz.prog w a (.func (.func 116) #[] c) m := fun a m w c => run_store Tryz.prog w a _ m rfl
  unfold opV resCs
  go_enter Tryz.func60, Tryz.ntmps60
  go_upto_region 3 with fail
  obtain ⟨B0, bb, hsz⟩ := xb_new (w := w) (o := o) (z := 0) (co := co) (tk := tk) (tm := tm) (hm := hm) (mm := mm) (pf := pf) (nf := nf) (cf := cf) (now := now) (was := was) (st := st) (sb := sb) (so := so)
  clear hsf
  generalize (World.alloc (World.alloc (World.alloc (World.alloc (World.alloc (World.alloc (World.alloc w (.cells #[.int .u8 o.kd, .int .i64 o.a, .int .i64 o.b, .int .i64 o.c, .int .u64 o.x, .int .u64 o.y] 32)) (.cells #[.int .i64 0, .int .i64 co, .int .i64 tk, .int .u64 tm, .bool hm, .int .i64 mm.mf, .int .i64 mm.mt, .int .u32 mm.md, .int .u64 mm.mq, .int .u64 mm.ma, .int .u64 mm.x0, .int .u64 mm.x1, .int .u64 mm.x2, .int .u64 mm.x3, .slice pf nf cf] 43)) (.cells #[.int .i64 was] 35)) (.cells #[.int .u8 st] 46)) (.cells #[.pointer (some ⟨sb, so, none⟩)] 125)) (.cells #[.int .u8 0, .int .u64 (now : Int), .int .i64 (-1), .int .i64 (-1), .int .u64 0, .int .i64 (-1), .int .u64 0, .int .u8 0, .int .i64 0] 123)) (.cells #[.func (.func 116) #[] #[.pointer (some ⟨w.heap.size + 1 + 1 + 1 + 1 + 1, 0, none⟩)]] 223)) = wc at *
  generalize hp16 : w.heap.size + 1 + 1 + 1 + 1 + 1 + 1 = p16 at *
  generalize hp15 : w.heap.size + 1 + 1 + 1 + 1 + 1 = p15 at *
  generalize hp13 : w.heap.size + 1 + 1 + 1 + 1 = p13 at *
  generalize hp12 : w.heap.size + 1 + 1 + 1 = p12 at *
  generalize hp10 : w.heap.size + 1 + 1 = p10 at *
  generalize hp8 : w.heap.size + 1 = p8 at *
  have ql : w.heap.size < p8 ∧ p8 < p10 ∧ p10 < p12 ∧ p12 < p13 ∧ p13 < p15 ∧ p15 < p16 ∧ p16 < wc.heap.size := by omega
  have HBB := hideIt bb
  clear bb hsz hp8 hp10 hp12 hp13 hp15 hp16
  have r0 : wc.cell? ⟨p8, 0, none⟩ = some (.int .i64 0) := B0.rs 0 _ rfl
  go_upto_region 7 with fail
  have X := xa_new B0 HBB.out (by omega)
  clear r0 B0 HBB
  generalize World.alloc wc (.cells #[.slice none 0 0] 111) = wd at *
  obtain ⟨V, hV0⟩ : ∃ V, V = Value.slice none 0 0 := ⟨_, rfl⟩
  rw [← hV0] at X
  clear hV0
  obtain ⟨n1, hn1⟩ : ∃ n1, n1 = wc.heap.size + 1 := ⟨_, rfl⟩
  rw [← hn1] at X
  generalize hp17 : wc.heap.size = p17 at *
  have qn : p17 < n1 := by omega
  have ql2 : w.heap.size < p8 ∧ p8 < p10 ∧ p10 < p12 ∧ p12 < p13 ∧ p13 < p15 ∧ p15 < p16 ∧ p16 < p17 := by omega
  clear hn1 ql hp17
  have g0 := X.b.op.c0
  rw [HK.out] at g0
  obtain ⟨l, hl⟩ : ∃ l, l = ([] : List EvS) := ⟨_, rfl⟩
  rw [← hl] at X
  have hlen : l.length < 1000 := by rw [hl]; simp
  have HLL := hideIt hl
  clear hl
  have r1 : wd.cell? ⟨p8, 1, none⟩ = some (.int .i64 co) := X.b.rs 1 _ rfl
  have r3 : wd.cell? ⟨p8, 3, none⟩ = some (.int .u64 tm) := X.b.rs 3 _ rfl
  have htm := tim_any (kk := 6) X hlen r1 r3
  clear X
  go_wp2_with fail
  refine htm.mono ?_
  rintro x w2 ⟨rfl, V2, X2⟩
  have s2 := X2.ou
  rw [HLL.out] at X2
  have HX2 := hideIt X2
  clear X2 htm
  go_wp2
  go_ret
  exact ⟨_, rfl, EvIn.of_own HX2.out.own, HX2.out.bl⟩
end Go.Proofs.Qxb6500877aGreatDoor
