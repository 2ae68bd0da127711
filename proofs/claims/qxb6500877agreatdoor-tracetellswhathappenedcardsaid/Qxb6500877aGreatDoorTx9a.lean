import Derived.Deep.CutBlock
import Derived.OwnWalk
import Derived.Maps.AppendAt
import Derived.Test.Qxb6500877aGreatDoorTx5
import Derived.Test.Qxb6500877aGreatDoorEb
import Derived.Test.Qxb6500877aGreatDoorPMl
import Derived.Test.Qxb6500877aGreatDoorTwi
set_option linter.unusedVariables false
set_option linter.unusedSimpArgs false
namespace Go.Proofs.Qxb6500877aGreatDoor
open Go.RowKit

set_option maxRecDepth 20000 in
set_option maxHeartbeats 8000000 in
theorem exp_z2 {w : World} {o : OpS} {z co tk tm : Int} {hm : Bool} {mm : MsgV} {pf : Option Addr} {nf cf now : Nat} {was st : Int} {sb so : Nat} {mv : Bool} (hz : z = 0) (hkd : o.kd = 2) (ht : tickOf o = 0) : Calls Tryz.prog 60 #[opV o, .agg (resCs z co tk tm hm mm pf nf cf), .int .u64 (now : Int), .int .i64 was, .bool mv, .int .u8 st, .pointer (some ⟨sb, so, none⟩)] w fun e w' => ∃ v, e = .returned v ∧ EvIn w' v [] ∧ Below w.heap.size w w' := by
  subst hz
  have HK := hideIt hkd
  clear hkd
  have HT := hideIt ht
  clear ht
  have hsf : ∀ (a : Addr) (m : Mode) (w : World) (c : Array Value), (store a (.func (.func 116) #[] c) m).run Tryz.prog w = stored Tryz.prog w a (.func (.func 116) #[] c) m := fun a m w c => run_store Tryz.prog w a _ m rfl
  unfold opV resCs
  go_enter Tryz.func60, Tryz.ntmps60
  go_upto_region 3 with fail
  obtain ⟨B0, bb, hsz⟩ := xb_new (w := w) (o := o) (z := 0) (co := co) (tk := tk) (tm := tm) (hm := hm) (mm := mm) (pf := pf) (nf := nf) (cf := cf) (now := now) (was := was) (st := st) (sb := sb) (so := so)
  clear hsf
  generalize (World.alloc (World.alloc (World.alloc (World.alloc (World.alloc (World.alloc (World.alloc w (.cells #[.int .u8 o.kd, .int .i64 o.a, .int .i64 o.b, .int .i64 o.c, .int .u64 o.x, .int .u64 o.y] 32)) (.cells #[.int .i64 0, .int .i64 co, .int .i64 tk, .int .u64 tm, .bool hm, .int .i64 mm.mf, .int .i64 mm.mt, .int .u32 mm.md, .int .u64 mm.mq, .int .u64 mm.ma, .int .u64 mm.x0, .int .u64 mm.x1, .int .u64 mm.x2, .int .u64 mm.x3, .slice pf nf cf] 43)) (.cells #[.int .i64 was] 35)) (.cells #[.int .u8 st] 46)) (.cells #[.pointer (some ⟨sb, so, none⟩)] 125)) (.cells #[.int .u8 0, .int .u64 (now : Int), .int .i64 (-1), .int .i64 (-1), .int .u64 0, .int .i64 (-1), .int .u64 0, .int .u8 0, .int .i64 0] 123)) (.cells #[.func (.func 116) #[] #[.pointer (some ⟨w.heap.size + 1 + 1 + 1 + 1 + 1, 0, none⟩)]] 223)) = wc at *
  generalize hp16 : w.heap.size + 1 + 1 + 1 + 1 + 1 + 1 = p16 at *
  generalize hp15 : w.heap.size + 1 + 1 + 1 + 1 + 1 = p15 at *
  generalize hp13 : w.heap.size + 1 + 1 + 1 + 1 = p13 at *
  generalize hp12 : w.heap.size + 1 + 1 + 1 = p12 at *
  generalize hp10 : w.heap.size + 1 + 1 = p10 at *
  generalize hp8 : w.heap.size + 1 = p8 at *
  have ql : w.heap.size < p8 ∧ p8 < p10 ∧ p10 < p12 ∧ p12 < p13 ∧ p13 < p15 ∧ p15 < p16 ∧ p16 < wc.heap.size := by omega
  have HBB := hideIt bb
  clear bb hsz hp8 hp10 hp12 hp13 hp15 hp16
  have r0 : wc.cell? ⟨p8, 0, none⟩ = some (.int .i64 0) := B0.rs 0 _ rfl
  go_upto_region 7 with fail
  have X := xa_new B0 HBB.out (by omega)
  clear r0 B0 HBB
  generalize World.alloc wc (.cells #[.slice none 0 0] 111) = wd at *
  obtain ⟨V, hV0⟩ : ∃ V, V = Value.slice none 0 0 := ⟨_, rfl⟩
  rw [← hV0] at X
  clear hV0
  obtain ⟨n1, hn1⟩ : ∃ n1, n1 = wc.heap.size + 1 := ⟨_, rfl⟩
  rw [← hn1] at X
  generalize hp17 : wc.heap.size = p17 at *
  have qn : p17 < n1 := by omega
  have ql2 : w.heap.size < p8 ∧ p8 < p10 ∧ p10 < p12 ∧ p12 < p13 ∧ p13 < p15 ∧ p15 < p16 ∧ p16 < p17 := by omega
  clear hn1 ql hp17
  obtain ⟨g0, g1, g2, g3, g4, g5⟩ := X.b.op
  have e0 : (((o.kd : Nat) : Int) == 0) = false := by have := HK.out; simp; omega
  have e1 : (((o.kd : Nat) : Int) == 1) = false := by have := HK.out; simp; omega
  have e2 : (((o.kd : Nat) : Int) == 2) = true := by have := HK.out; simp; omega
  have htk := ticksOf_any o wd
  rw [HT.out] at htk
  unfold opV at htk
  have HX0 := hideIt X
  clear X
  go_wp2_with fail
  refine htk.mono ?_
  rintro x w2 ⟨rfl, hb2⟩
  have X := HX0.out.below hb2
  clear HX0 htk hb2 g0 g1 g2 g3 g4 g5
  have s3 := X.ou
  have HX2 := hideIt X
  clear X
  go_wp2
  go_ret
  exact ⟨_, rfl, EvIn.of_own HX2.out.own, HX2.out.bl⟩
set_option maxRecDepth 20000 in
set_option maxHeartbeats 8000000 in
theorem exp_t2 {w : World} {o : OpS} {z co tk tm : Int} {hm : Bool} {mm : MsgV} {pf : Option Addr} {nf cf now : Nat} {was st : Int} {sb so : Nat} {mv : Bool} (hz : z = 0) {fs : List FiredS} {base : Nat} (hkd : o.kd = 2) (ht : tickOf o ≠ 0) (hF : FrAt w base (.slice pf nf cf) fs) (h64 : fs.length ≤ 64) : Calls Tryz.prog 60 #[opV o, .agg (resCs z co tk tm hm mm pf nf cf), .int .u64 (now : Int), .int .i64 was, .bool mv, .int .u8 st, .pointer (some ⟨sb, so, none⟩)] w fun e w' => ∃ v, e = .returned v ∧ EvIn w' v (bl now 8 :: fdE now fs) ∧ Below w.heap.size w w' := by
  subst hz
  have HK := hideIt hkd
  clear hkd
  obtain ⟨nt, HNN⟩ : ∃ nt, Hid (tickOf o = nt) := ⟨_, hideIt rfl⟩
  have hnb : ((nt : Int) == 0) = false := by rw [← HNN.out]; simp; omega
  have hnf : nf = fs.length := by
    obtain ⟨p, cap, e⟩ := hF.shape
    simp at e
    exact e.2.1
  have HNF := hideIt hnf
  have hnf64 : nf ≤ 64 := by omega
  have HF := hideIt hF
  clear ht hF hnf h64
  have hsf : ∀ (a : Addr) (m : Mode) (w : World) (c : Array Value), (store a (.func (.func 116) #[] c) m).run Tryz.prog w = stored Tryz.prog w a (.func (.func 116) #[] c) m := fun a m w c => run_store Tryz.prog w a _ m rfl
  unfold opV resCs
  go_enter Tryz.func60, Tryz.ntmps60
  go_upto_region 3 with fail
  obtain ⟨B0, bb, hsz⟩ := xb_new (w := w) (o := o) (z := 0) (co := co) (tk := tk) (tm := tm) (hm := hm) (mm := mm) (pf := pf) (nf := nf) (cf := cf) (now := now) (was := was) (st := st) (sb := sb) (so := so)
  clear hsf
  generalize (World.alloc (World.alloc (World.alloc (World.alloc (World.alloc (World.alloc (World.alloc w (.cells #[.int .u8 o.kd, .int .i64 o.a, .int .i64 o.b, .int .i64 o.c, .int .u64 o.x, .int .u64 o.y] 32)) (.cells #[.int .i64 0, .int .i64 co, .int .i64 tk, .int .u64 tm, .bool hm, .int .i64 mm.mf, .int .i64 mm.mt, .int .u32 mm.md, .int .u64 mm.mq, .int .u64 mm.ma, .int .u64 mm.x0, .int .u64 mm.x1, .int .u64 mm.x2, .int .u64 mm.x3, .slice pf nf cf] 43)) (.cells #[.int .i64 was] 35)) (.cells #[.int .u8 st] 46)) (.cells #[.pointer (some ⟨sb, so, none⟩)] 125)) (.cells #[.int .u8 0, .int .u64 (now : Int), .int .i64 (-1), .int .i64 (-1), .int .u64 0, .int .i64 (-1), .int .u64 0, .int .u8 0, .int .i64 0] 123)) (.cells #[.func (.func 116) #[] #[.pointer (some ⟨w.heap.size + 1 + 1 + 1 + 1 + 1, 0, none⟩)]] 223)) = wc at *
  generalize hp16 : w.heap.size + 1 + 1 + 1 + 1 + 1 + 1 = p16 at *
  generalize hp15 : w.heap.size + 1 + 1 + 1 + 1 + 1 = p15 at *
  generalize hp13 : w.heap.size + 1 + 1 + 1 + 1 = p13 at *
  generalize hp12 : w.heap.size + 1 + 1 + 1 = p12 at *
  generalize hp10 : w.heap.size + 1 + 1 = p10 at *
  generalize hp8 : w.heap.size + 1 = p8 at *
  have ql : w.heap.size < p8 ∧ p8 < p10 ∧ p10 < p12 ∧ p12 < p13 ∧ p13 < p15 ∧ p15 < p16 ∧ p16 < wc.heap.size := by omega
  have HBB := hideIt bb
  clear bb hsz hp8 hp10 hp12 hp13 hp15 hp16
  have r0 : wc.cell? ⟨p8, 0, none⟩ = some (.int .i64 0) := B0.rs 0 _ rfl
  go_upto_region 7 with fail
  have X := xa_new B0 HBB.out (by omega)
  clear r0 B0 HBB
  generalize World.alloc wc (.cells #[.slice none 0 0] 111) = wd at *
  obtain ⟨V, hV0⟩ : ∃ V, V = Value.slice none 0 0 := ⟨_, rfl⟩
  rw [← hV0] at X
  clear hV0
  obtain ⟨n1, hn1⟩ : ∃ n1, n1 = wc.heap.size + 1 := ⟨_, rfl⟩
  rw [← hn1] at X
  generalize hp17 : wc.heap.size = p17 at *
  have qn : p17 < n1 := by omega
  have ql2 : w.heap.size < p8 ∧ p8 < p10 ∧ p10 < p12 ∧ p12 < p13 ∧ p13 < p15 ∧ p15 < p16 ∧ p16 < p17 := by omega
  clear hn1 ql hp17
  obtain ⟨g0, g1, g2, g3, g4, g5⟩ := X.b.op
  have e0 : (((o.kd : Nat) : Int) == 0) = false := by have := HK.out; simp; omega
  have e1 : (((o.kd : Nat) : Int) == 1) = false := by have := HK.out; simp; omega
  have e2 : (((o.kd : Nat) : Int) == 2) = true := by have := HK.out; simp; omega
  have htk := ticksOf_any o wd
  rw [HNN.out] at htk
  unfold opV at htk
  have HX0 := hideIt X
  clear X
  go_wp2_with fail
  refine htk.mono ?_
  rintro x w2 ⟨rfl, hb2⟩
  have X := HX0.out.below hb2
  clear HX0 htk hb2 g0 g1 g2 g3 g4 g5
  go_upto_region 19 with fail
  clear e0 e1 e2 hnb
  obtain ⟨l, hl⟩ : ∃ l, l = ([] : List EvS) := ⟨_, rfl⟩
  rw [← hl] at X
  have hlen : l.length < 1000 := by rw [hl]; simp
  have HLL := hideIt hl
  clear hl
  obtain ⟨i0_, hi_, hz0, hz1, hz2⟩ := info_parts info123
  obtain ⟨e, he⟩ : ∃ e : EvS, e = (bl now 8) := ⟨_, rfl⟩
  have HEV := hideIt he
  have hone := one_123 (w := World.drew w2) (kk := 8) X.b.bk.drew
  try unfold evT at he
  try unfold evM at he
  try unfold evX at he
  try unfold bl at he
  rw [← he] at hone
  unfold evV at hone
  clear he
  obtain ⟨pv, cap, hV⟩ := own_shape X.own
  obtain ⟨n, hn⟩ : ∃ n, n = l.length := ⟨_, rfl⟩
  rw [← hn] at hV hlen
  subst hV
  have HN := hideIt hn
  have s0 := X.ou
  have s1 := X.b.on
  have hr : ∀ q, q < n1 → some q ≠ (Value.slice pv n cap).ownBlock := fun q hq e => by have := (X.own.lt q e.symm).1; omega
  obtain ⟨l1, l2, l3, l4, l5, l6, l7, l8, l9, l10⟩ := X.lt
  have hr17 := hr p17 (by omega)
  have hr16 := hr p16 (by omega)
  have HX := hideIt X
  clear X hn hr
  refine wp_region_l (l := 5) (S := (fun w' => w'.cell? ⟨p17, 0, none⟩ = some (.slice pv n cap) ∧ w'.cell? ⟨p16, 0, none⟩ = some (.func (.func 116) #[] #[.pointer (some ⟨p15, 0, none⟩)]))) (by kernel_rfl) ⟨s0, s1⟩ (fun hHeld => ?_)
  refine AnyL.take2 (i := 0) (oi := { dst := some 73, op := Go.Op.load 111 (Go.Operand.tmp 17), type := 111, pos := _, after := #[], guard := none }) (v := ?vv9016) (by kernel_rfl) (by kernel_rfl) rfl (by kernel_rfl) (by kernel_rfl) (by kernel_rfl) (fun _ _ _ h => h) (Or.inl ⟨by rfl, ?hy9016⟩) (by assumption) ?tk9016
  case hy9016 => (intro w hSw; (try dsimp only at hSw); go_simp; (try with_reducible rfl))
  try simp only [Act.put, List.setIfInBounds_toArray, List.set_cons_zero, List.set_cons_succ]
  refine AnyL.take2 (i := 1) (oi := { dst := some 74, op := Go.Op.load 223 (Go.Operand.tmp 16), type := 223, pos := _, after := #[], guard := none }) (v := ?vv9017) (by kernel_rfl) (by kernel_rfl) rfl (by kernel_rfl) (by kernel_rfl) (by kernel_rfl) (fun _ _ _ h => h) (Or.inl ⟨by rfl, ?hy9017⟩) (by assumption) ?tk9017
  case hy9017 => (intro w hSw; (try dsimp only at hSw); go_simp; (try with_reducible rfl))
  try simp only [Act.put, List.setIfInBounds_toArray, List.set_cons_zero, List.set_cons_succ]
  refine AnyL.one (i := 2) (o := { dst := some 75, op := Go.Op.call { callee := Go.Callee.value (Go.Operand.tmp 74), args := #[Go.Operand.const (Go.Value.int Go.IntKind.u8 8), Go.Operand.func 123], argTypes := #[121, 221] }, type := 123, pos := _, after := #[{ on := 1, ground := Go.Ground.data }], guard := none }) (by kernel_rfl) rfl rfl (fun K' hK' => ?_)
  go_simp
  go_at_call 116
  refine hone.mono ?_
  rintro x w2 ⟨rfl, hb2⟩
  have X2 := HX.out.drew.below hb2
  have t0 := X2.ou
  have t1 := X2.b.on
  have hown := X2.own
  have hsz2 := X2.lt.2.2.2.2.2.2.2.2.2
  have fz2 := X2.fz
  rw [← HN.out] at hown
  have HX2 := hideIt X2
  clear X2 hb2 hone
  clear hHeld
  refine hK'.out _ _ ⟨t0, t1⟩ (fun hHeld => ?_)
  clear hK' K'
  try simp only [Act.put, List.setIfInBounds_toArray, List.set_cons_zero, List.set_cons_succ]
  refine AnyL.one (i := 3) (o := { dst := some 76, op := Go.Op.buildSlice 111 1 #[(0, Go.Operand.tmp 75)], type := 111, pos := _, after := #[{ on := 2, ground := Go.Ground.data }], guard := none }) (by kernel_rfl) rfl rfl (fun K' hK' => ?_)
  go_simp
  clear hHeld
  refine hK'.out _ _ ⟨cell_later (one_alloc _ _) t0, cell_later (one_alloc _ _) t1⟩ (fun hHeld => ?_)
  clear hK' K'
  try simp only [Act.put, List.setIfInBounds_toArray, List.set_cons_zero, List.set_cons_succ]
  refine AnyL.one (i := 4) (o := { dst := some 77, op := Go.Op.call { callee := Go.Callee.builtin Go.Builtin.append, args := #[Go.Operand.tmp 73, Go.Operand.tmp 76], argTypes := #[111, 111] }, type := 111, pos := _, after := #[{ on := 0, ground := Go.Ground.data }, { on := 3, ground := Go.Ground.data }, { on := 2, ground := Go.Ground.chain }], guard := none }) (by kernel_rfl) rfl rfl (fun K' hK' => ?_)
  refine ite_take (by rfl) ?_
  refine wp_append_own_at (.tmp 73) (.tmp 76) 111 rfl n1 123 i0_ (.agg #[.int .u8 0, .int .u64 0, .int .i64 0, .int .i64 0, .int .u64 0, .int .i64 0, .int .u64 0, .int .u8 0, .int .i64 0]) 9 72 Tryz.underlying111 hi_ hz0 hz1 hz2 rfl (by decide) (.slice pv n cap) n (evCells l) rfl (hown.alloc _) ⟨w2.heap.size, 0, none⟩ 1 1 (ev9 e) rfl rfl (cell_ev_new _ _ _) (ev9_one e) (by unfold maxLen; omega) (by omega) (by simp; omega) ?_
  intro v' w3 hown' hgrow hblk
  obtain ⟨p', c', rfl⟩ := own_shape hown'
  have k0 := hgrow.cell (a := ⟨p17, 0, none⟩) hHeld.1 hr17
  have k1 := hgrow.cell (a := ⟨p16, 0, none⟩) hHeld.2 hr16
  have fz3 : ∀ o, w3.frozen? ⟨p17, o, none⟩ = false := fun o => ((World.frozen?_of_block (a := ⟨p17, o, none⟩) (hgrow.block p17 (by simp; omega) hr17)).trans (World.frozen?_of_block (a := ⟨p17, o, none⟩) ((one_alloc w2 _).block p17 (by omega)))).trans (fz2 o)
  have HG := hideIt (And.intro hown' (And.intro hgrow hblk))
  clear hown' hgrow hblk
  clear hHeld
  refine hK'.out _ _ ⟨k0, k1⟩ (fun hHeld => ?_)
  clear hK' K'
  try simp only [Act.put, List.setIfInBounds_toArray, List.set_cons_zero, List.set_cons_succ]
  refine AnyL.last (o := { dst := none, op := Go.Op.store 111 (Go.Operand.tmp 17) (Go.Operand.tmp 77), type := 0, pos := _, after := #[{ on := 4, ground := Go.Ground.data }, { on := 4, ground := Go.Ground.chain }, { on := 0, ground := Go.Ground.phase }, { on := 1, ground := Go.Ground.phase }, { on := 2, ground := Go.Ground.phase }, { on := 3, ground := Go.Ground.phase }, { on := 4, ground := Go.Ground.phase }], guard := none }) (by kernel_rfl) rfl (by kernel_rfl) (fun K' hK' => ?_)
  go_simp
  clear hHeld
  refine hK'.out _ _ ?_
  clear hK' K'
  try simp only [Act.put, List.setIfInBounds_toArray, List.set_cons_zero, List.set_cons_succ]
  have X3 : XA w (World.setCell w3 ⟨p17, 0, none⟩ (.slice p' (n + 1) c')) w.heap.size p8 p10 p12 p13 p15 p16 p17 n1 o (resCs 0 co tk tm hm mm pf nf cf) now was st sb so (.slice p' (n + 1) c') (l ++ [(bl now 8)]) := by rw [← HEV.out]; exact HX2.out.push (by rw [← HN.out]; exact HG.out.1) HG.out.2.1
  rw [HLL.out] at X3
  have X : ∃ V, XA w (World.setCell w3 ⟨p17, 0, none⟩ (.slice p' (n + 1) c')) w.heap.size p8 p10 p12 p13 p15 p16 p17 n1 o (resCs 0 co tk tm hm mm pf nf cf) now was st sb so V (bl now 8 :: fdE now (fs.take 0)) := ⟨_, by rw [List.take_zero]; exact X3⟩
  clear HX HX2 HG s0 s1 t0 t1 k0 k1 fz2 fz3 hown HEV HN HLL X3
  generalize World.setCell w3 ⟨p17, 0, none⟩ (.slice p' (n + 1) c') = wx at *
  have X' := X
  obtain ⟨V', XV⟩ := X'
  have r14 : wx.cell? ⟨p8, 14, none⟩ = some (.slice pf nf cf) := XV.b.rs 14 _ rfl
  clear XV
  go_wp2
  go_loopg [81] nf (fun gg v wr => ∃ i : Nat, i + gg = nf ∧ v = .int .i64 (i : Int) ∧ ∃ V, XA w wr w.heap.size p8 p10 p12 p13 p15 p16 p17 n1 o (resCs 0 co tk tm hm mm pf nf cf) now was st sb so V (bl now 8 :: fdE now (fs.take i)))
  case atStart => exact ⟨0, by omega, rfl, X⟩
  case round =>
    clear r14 X
    obtain ⟨i, hi, rfl, V, X⟩ := hrel
    by_cases hil : i < nf
    · have i0 : (0 : Int) ≤ i := by omega
      have i1 : (i : Int) < (nf : Int) := by omega
      obtain ⟨f, hf⟩ : ∃ f, fs[i]? = some f := ⟨fs[i]'(by have := HNF.out; omega), List.getElem?_eq_getElem (by have := HNF.out; omega)⟩
      have HFI := hideIt hf
      obtain ⟨g, hg, hgw, hff⟩ : ∃ g, pf = some ⟨g, 0, none⟩ ∧ g < w.heap.size ∧ F5 w g (i * 5) f := by
        rcases HF.out with ⟨q, _⟩ | ⟨g, cap, q, _, q2, q3⟩
        · rw [q] at hf; simp at hf
        · simp at q
          exact ⟨g, q.1, q2, q3 i f hf⟩
      subst hg
      obtain ⟨a0, a1, a2, a3, a4⟩ := hff.blk (X.bl.block g hgw)
      clear hff hf
      go_upto_region 23 with fail
      have X1 := X.below (one_alloc wr (.cells #[.int .u64 f.id, .int .i64 f.core, .int .u64 f.dl, .int .u64 f.ck, .int .u64 f.t] 86))
      obtain ⟨b0, b1, b2, b3, b4⟩ := f5_new wr f 86
      clear X a0 a1 a2 a3 a4
      generalize World.alloc wr (.cells #[.int .u64 f.id, .int .i64 f.core, .int .u64 f.dl, .int .u64 f.ck, .int .u64 f.t] 86) = wx at *
      generalize hp20 : wr.heap.size = p20 at *
      clear hp20
      simp only [Nat.zero_add] at b1 b4
      have X := X1
      clear X1
      obtain ⟨l, hl⟩ : ∃ l, l = (bl now 8 :: fdE now (fs.take i) : List EvS) := ⟨_, rfl⟩
      rw [← hl] at X
      have hlen : l.length < 1000 := by rw [hl]; simp [fdE]; omega
      have HLL := hideIt hl
      clear hl
      obtain ⟨i0_, hi_, hz0, hz1, hz2⟩ := info_parts info123
      obtain ⟨e, he⟩ : ∃ e : EvS, e = (evM now 7 f.t f.core f.id) := ⟨_, rfl⟩
      have HEV := hideIt he
      have hone := one_124 (w := World.drew wx) (kk := 7) (id := f.id) (co := f.core) (ti := f.t) X.b.bk.drew b0 b1 b4
      try unfold evT at he
      try unfold evM at he
      try unfold evX at he
      try unfold bl at he
      rw [← he] at hone
      unfold evV at hone
      clear he
      obtain ⟨pv, cap, hV⟩ := own_shape X.own
      obtain ⟨n, hn⟩ : ∃ n, n = l.length := ⟨_, rfl⟩
      rw [← hn] at hV hlen
      subst hV
      have HN := hideIt hn
      have s0 := X.ou
      have s1 := X.b.on
      have hr : ∀ q, q < n1 → some q ≠ (Value.slice pv n cap).ownBlock := fun q hq e => by have := (X.own.lt q e.symm).1; omega
      obtain ⟨l1, l2, l3, l4, l5, l6, l7, l8, l9, l10⟩ := X.lt
      have hr17 := hr p17 (by omega)
      have hr16 := hr p16 (by omega)
      have HX := hideIt X
      clear X hn hr
      refine wp_region_l (l := 6) (S := (fun w' => w'.cell? ⟨p17, 0, none⟩ = some (.slice pv n cap) ∧ w'.cell? ⟨p16, 0, none⟩ = some (.func (.func 116) #[] #[.pointer (some ⟨p15, 0, none⟩)]))) (by kernel_rfl) ⟨s0, s1⟩ (fun hHeld => ?_)
      refine AnyL.take2 (i := 0) (oi := { dst := some 85, op := Go.Op.load 111 (Go.Operand.tmp 17), type := 111, pos := _, after := #[], guard := none }) (v := ?vv9018) (by kernel_rfl) (by kernel_rfl) rfl (by kernel_rfl) (by kernel_rfl) (by kernel_rfl) (fun _ _ _ h => h) (Or.inl ⟨by rfl, ?hy9018⟩) (by assumption) ?tk9018
      case hy9018 => (intro w hSw; (try dsimp only at hSw); go_simp; (try with_reducible rfl))
      try simp only [Act.put, List.setIfInBounds_toArray, List.set_cons_zero, List.set_cons_succ]
      refine AnyL.take2 (i := 1) (oi := { dst := some 86, op := Go.Op.load 223 (Go.Operand.tmp 16), type := 223, pos := _, after := #[], guard := none }) (v := ?vv9019) (by kernel_rfl) (by kernel_rfl) rfl (by kernel_rfl) (by kernel_rfl) (by kernel_rfl) (fun _ _ _ h => h) (Or.inl ⟨by rfl, ?hy9019⟩) (by assumption) ?tk9019
      case hy9019 => (intro w hSw; (try dsimp only at hSw); go_simp; (try with_reducible rfl))
      try simp only [Act.put, List.setIfInBounds_toArray, List.set_cons_zero, List.set_cons_succ]
      refine AnyL.take2 (i := 2) (oi := { dst := some 87, op := Go.Op.makeFunc (Go.Fn.func 124) #[] #[Go.Operand.tmp 20], type := 221, pos := _, after := #[], guard := none }) (v := ?vv9020) (by kernel_rfl) (by kernel_rfl) rfl (by kernel_rfl) (by kernel_rfl) (by kernel_rfl) (fun _ _ _ h => h) (Or.inl ⟨by rfl, ?hy9020⟩) (by assumption) ?tk9020
      case hy9020 => (intro w hSw; (try dsimp only at hSw); go_simp; (try with_reducible rfl))
      try simp only [Act.put, List.setIfInBounds_toArray, List.set_cons_zero, List.set_cons_succ]
      refine AnyL.one (i := 3) (o := { dst := some 88, op := Go.Op.call { callee := Go.Callee.value (Go.Operand.tmp 86), args := #[Go.Operand.const (Go.Value.int Go.IntKind.u8 7), Go.Operand.tmp 87], argTypes := #[121, 221] }, type := 123, pos := _, after := #[{ on := 1, ground := Go.Ground.data }, { on := 2, ground := Go.Ground.data }], guard := none }) (by kernel_rfl) rfl rfl (fun K' hK' => ?_)
      go_simp
      go_at_call 116
      refine hone.mono ?_
      rintro x w2 ⟨rfl, hb2⟩
      have X2 := HX.out.drew.below hb2
      have t0 := X2.ou
      have t1 := X2.b.on
      have hown := X2.own
      have hsz2 := X2.lt.2.2.2.2.2.2.2.2.2
      have fz2 := X2.fz
      rw [← HN.out] at hown
      have HX2 := hideIt X2
      clear X2 hb2 hone
      clear hHeld
      refine hK'.out _ _ ⟨t0, t1⟩ (fun hHeld => ?_)
      clear hK' K'
      try simp only [Act.put, List.setIfInBounds_toArray, List.set_cons_zero, List.set_cons_succ]
      refine AnyL.one (i := 4) (o := { dst := some 89, op := Go.Op.buildSlice 111 1 #[(0, Go.Operand.tmp 88)], type := 111, pos := _, after := #[{ on := 3, ground := Go.Ground.data }], guard := none }) (by kernel_rfl) rfl rfl (fun K' hK' => ?_)
      go_simp
      clear hHeld
      refine hK'.out _ _ ⟨cell_later (one_alloc _ _) t0, cell_later (one_alloc _ _) t1⟩ (fun hHeld => ?_)
      clear hK' K'
      try simp only [Act.put, List.setIfInBounds_toArray, List.set_cons_zero, List.set_cons_succ]
      refine AnyL.one (i := 5) (o := { dst := some 90, op := Go.Op.call { callee := Go.Callee.builtin Go.Builtin.append, args := #[Go.Operand.tmp 85, Go.Operand.tmp 89], argTypes := #[111, 111] }, type := 111, pos := _, after := #[{ on := 0, ground := Go.Ground.data }, { on := 4, ground := Go.Ground.data }, { on := 3, ground := Go.Ground.chain }], guard := none }) (by kernel_rfl) rfl rfl (fun K' hK' => ?_)
      refine ite_take (by rfl) ?_
      refine wp_append_own_at (.tmp 85) (.tmp 89) 111 rfl n1 123 i0_ (.agg #[.int .u8 0, .int .u64 0, .int .i64 0, .int .i64 0, .int .u64 0, .int .i64 0, .int .u64 0, .int .u8 0, .int .i64 0]) 9 72 Tryz.underlying111 hi_ hz0 hz1 hz2 rfl (by decide) (.slice pv n cap) n (evCells l) rfl (hown.alloc _) ⟨w2.heap.size, 0, none⟩ 1 1 (ev9 e) rfl rfl (cell_ev_new _ _ _) (ev9_one e) (by unfold maxLen; omega) (by omega) (by simp; omega) ?_
      intro v' w3 hown' hgrow hblk
      obtain ⟨p', c', rfl⟩ := own_shape hown'
      have k0 := hgrow.cell (a := ⟨p17, 0, none⟩) hHeld.1 hr17
      have k1 := hgrow.cell (a := ⟨p16, 0, none⟩) hHeld.2 hr16
      have fz3 : ∀ o, w3.frozen? ⟨p17, o, none⟩ = false := fun o => ((World.frozen?_of_block (a := ⟨p17, o, none⟩) (hgrow.block p17 (by simp; omega) hr17)).trans (World.frozen?_of_block (a := ⟨p17, o, none⟩) ((one_alloc w2 _).block p17 (by omega)))).trans (fz2 o)
      have HG := hideIt (And.intro hown' (And.intro hgrow hblk))
      clear hown' hgrow hblk
      clear hHeld
      refine hK'.out _ _ ⟨k0, k1⟩ (fun hHeld => ?_)
      clear hK' K'
      try simp only [Act.put, List.setIfInBounds_toArray, List.set_cons_zero, List.set_cons_succ]
      refine AnyL.last (o := { dst := none, op := Go.Op.store 111 (Go.Operand.tmp 17) (Go.Operand.tmp 90), type := 0, pos := _, after := #[{ on := 5, ground := Go.Ground.data }, { on := 5, ground := Go.Ground.chain }, { on := 0, ground := Go.Ground.phase }, { on := 1, ground := Go.Ground.phase }, { on := 2, ground := Go.Ground.phase }, { on := 3, ground := Go.Ground.phase }, { on := 4, ground := Go.Ground.phase }, { on := 5, ground := Go.Ground.phase }], guard := none }) (by kernel_rfl) rfl (by kernel_rfl) (fun K' hK' => ?_)
      go_simp
      clear hHeld
      refine hK'.out _ _ ?_
      clear hK' K'
      try simp only [Act.put, List.setIfInBounds_toArray, List.set_cons_zero, List.set_cons_succ]
      go_wp2
      go_roundg (nf - (i + 1))
      case measure => omega
      case rel =>
        have X3 : XA w (World.setCell w3 ⟨p17, 0, none⟩ (.slice p' (n + 1) c')) w.heap.size p8 p10 p12 p13 p15 p16 p17 n1 o (resCs 0 co tk tm hm mm (some ⟨g, 0, none⟩) nf cf) now was st sb so (.slice p' (n + 1) c') (l ++ [(evM now 7 f.t f.core f.id)]) := by rw [← HEV.out]; exact HX2.out.push (by rw [← HN.out]; exact HG.out.1) HG.out.2.1
        rw [HLL.out] at X3
        exact ⟨i + 1, by omega, by go_num, _, by rw [fdE_take HFI.out]; exact X3⟩
    · have e : i = nf := by omega
      subst e
      have s3 := X.ou
      rw [HNF.out, List.take_of_length_le (Nat.le_refl _)] at X
      have HX2 := hideIt X
      clear X
      go_wp2
      go_ret
      exact ⟨_, rfl, EvIn.of_own HX2.out.own, HX2.out.bl⟩
end Go.Proofs.Qxb6500877aGreatDoor
