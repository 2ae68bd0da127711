import Derived.Deep.CutBlock
import Derived.OwnWalk
import Derived.Maps.AppendAt
import Derived.Test.Qxb6500877aGreatDoorTx10
set_option linter.unusedVariables false
set_option linter.unusedSimpArgs false
namespace Go.Proofs.Qxb6500877aGreatDoor
open Go.RowKit

set_option maxRecDepth 20000 in
set_option maxHeartbeats 8000000 in
theorem exp_s5 {w : World} {o : OpS} {z co tk tm : Int} {hm : Bool} {mm : MsgV} {pf : Option Addr} {nf cf now : Nat} {was st : Int} {sb so : Nat} {mv : Bool} (hz : z = 0) {tl : List Nat} {ac : Nat → Int} (hkd : o.kd = 5) (htl : tgtOf o tl) (hac : ∀ b, b < 16 → w.cell? ⟨sb, so + b, none⟩ = some (.int .u64 (ac b))) : Calls Tryz.prog 60 #[opV o, .agg (resCs z co tk tm hm mm pf nf cf), .int .u64 (now : Int), .int .i64 was, .bool mv, .int .u8 st, .pointer (some ⟨sb, so, none⟩)] w fun e w' => ∃ v, e = .returned v ∧ EvIn w' v (sdE now ac tl) ∧ Below w.heap.size w w' := by
  subst hz
  have HK := hideIt hkd
  clear hkd
  have hsb : sb < w.heap.size := World.block_lt_of_cell? (a := ⟨sb, so + 0, none⟩) _ (hac 0 (by omega))
  have HAC := hideIt hac
  have h16 : ∀ b ∈ tl, b < 16 := tgtOf_lt htl
  have hln : tl.length ≤ 4 := tgtOf_len htl
  have H16 := hideIt h16
  have HTL := hideIt htl
  clear hac htl h16
  obtain ⟨nt, HNT⟩ : ∃ nt, Hid (tl.length = nt) := ⟨_, hideIt rfl⟩
  have hnt : nt ≤ 4 := by rw [← HNT.out]; exact hln
  clear hln
  have hsf : ∀ (a : Addr) (m : Mode) (w : World) (c : Array Value), (store a (.func (.func 116) #[] c) m).run Tryz.prog w = stored Tryz.prog w a (.func (.func 116) #[] c) m := fun a m w c => run_store Tryz.prog w a _ m rfl
  unfold opV resCs
  go_enter Tryz.func60, Tryz.ntmps60
  go_upto_region 3 with fail
  obtain ⟨B0, bb, hsz⟩ := xb_new (w := w) (o := o) (z := 0) (co := co) (tk := tk) (tm := tm) (hm := hm) (mm := mm) (pf := pf) (nf := nf) (cf := cf) (now := now) (was := was) (st := st) (sb := sb) (so := so)
  clear hsf
  generalize (World.alloc (World.alloc (World.alloc (World.alloc (World.alloc (World.alloc (World.alloc w (.cells #[.int .u8 o.kd, .int .i64 o.a, .int .i64 o.b, .int .i64 o.c, .int .u64 o.x, .int .u64 o.y] 32)) (.cells #[.int .i64 0, .int .i64 co, .int .i64 tk, .int .u64 tm, .bool hm, .int .i64 mm.mf, .int .i64 mm.mt, .int .u32 mm.md, .int .u64 mm.mq, .int .u64 mm.ma, .int .u64 mm.x0, .int .u64 mm.x1, .int .u64 mm.x2, .int .u64 mm.x3, .slice pf nf cf] 43)) (.cells #[.int .i64 was] 35)) (.cells #[.int .u8 st] 46)) (.cells #[.pointer (some ⟨sb, so, none⟩)] 125)) (.cells #[.int .u8 0, .int .u64 (now : Int), .int .i64 (-1), .int .i64 (-1), .int .u64 0, .int .i64 (-1), .int .u64 0, .int .u8 0, .int .i64 0] 123)) (.cells #[.func (.func 116) #[] #[.pointer (some ⟨w.heap.size + 1 + 1 + 1 + 1 + 1, 0, none⟩)]] 223)) = wc at *
  generalize hp16 : w.heap.size + 1 + 1 + 1 + 1 + 1 + 1 = p16 at *
  generalize hp15 : w.heap.size + 1 + 1 + 1 + 1 + 1 = p15 at *
  generalize hp13 : w.heap.size + 1 + 1 + 1 + 1 = p13 at *
  generalize hp12 : w.heap.size + 1 + 1 + 1 = p12 at *
  generalize hp10 : w.heap.size + 1 + 1 = p10 at *
  generalize hp8 : w.heap.size + 1 = p8 at *
  have ql : w.heap.size < p8 ∧ p8 < p10 ∧ p10 < p12 ∧ p12 < p13 ∧ p13 < p15 ∧ p15 < p16 ∧ p16 < wc.heap.size := by omega
  have HBB := hideIt bb
  clear bb hsz hp8 hp10 hp12 hp13 hp15 hp16
  have r0 : wc.cell? ⟨p8, 0, none⟩ = some (.int .i64 0) := B0.rs 0 _ rfl
  go_upto_region 7 with fail
  have X := xa_new B0 HBB.out (by omega)
  clear r0 B0 HBB
  generalize World.alloc wc (.cells #[.slice none 0 0] 111) = wd at *
  obtain ⟨V, hV0⟩ : ∃ V, V = Value.slice none 0 0 := ⟨_, rfl⟩
  rw [← hV0] at X
  clear hV0
  obtain ⟨n1, hn1⟩ : ∃ n1, n1 = wc.heap.size + 1 := ⟨_, rfl⟩
  rw [← hn1] at X
  generalize hp17 : wc.heap.size = p17 at *
  have qn : p17 < n1 := by omega
  have ql2 : w.heap.size < p8 ∧ p8 < p10 ∧ p10 < p12 ∧ p12 < p13 ∧ p13 < p15 ∧ p15 < p16 ∧ p16 < p17 := by omega
  clear hn1 ql hp17
  obtain ⟨g0, g1, g2, g3, g4, g5⟩ := X.b.op
  have e0 : (((o.kd : Nat) : Int) == 0) = false := by have := HK.out; simp; omega
  have e1 : (((o.kd : Nat) : Int) == 1) = false := by have := HK.out; simp; omega
  have e2 : (((o.kd : Nat) : Int) == 2) = false := by have := HK.out; simp; omega
  have e3 : (((o.kd : Nat) : Int) == 3) = false := by have := HK.out; simp; omega
  have e4 : (((o.kd : Nat) : Int) == 4) = false := by have := HK.out; simp; omega
  have e5 : (((o.kd : Nat) : Int) == 5) = true := by have := HK.out; simp; omega
  have htg := targets_any (w := wd) HTL.out
  unfold opV at htg
  have HX0 := hideIt X
  clear X
  go_wp2_with fail
  refine htg.mono ?_
  rintro x wt ⟨v2, rfl, ⟨g, c, rfl, hg0, hg1, hgc⟩, hb2⟩
  have X := HX0.out.below hb2
  have hVg : V.ownBlock ≠ some g := fun q => by have := (HX0.out.own.lt g q).2; omega
  have gn : n1 ≤ g := Nat.le_trans HX0.out.lt.2.2.2.2.2.2.2.2.2 hg0
  have HGC := hideIt hgc
  rw [HNT.out]
  clear HX0 htg hb2 g0 g1 g2 g3 g4 g5 hg0 hgc
  go_wp2
  go_loopg [98] nt (fun gg v wr => ∃ i : Nat, i + gg = nt ∧ v = .int .i64 (i : Int) ∧ ∃ V, XA w wr w.heap.size p8 p10 p12 p13 p15 p16 p17 n1 o (resCs 0 co tk tm hm mm pf nf cf) now was st sb so V (sdE now ac (tl.take i)) ∧ V.ownBlock ≠ some g ∧ wr.heap[g]? = wt.heap[g]? ∧ wt.heap.size ≤ wr.heap.size)
  case atStart => exact ⟨0, by omega, rfl, V, by rw [List.take_zero]; exact X, hVg, rfl, Nat.le_refl _⟩
  case round =>
    clear X hVg
    obtain ⟨i, hi, rfl, V, X, hVg, hrow, hsz⟩ := hrel
    by_cases hil : i < nt
    · have i0 : (0 : Int) ≤ i := by omega
      have i1 : (i : Int) < (nt : Int) := by omega
      obtain ⟨b, hb⟩ : ∃ b, tl[i]? = some b := ⟨tl[i]'(by have := HNT.out; omega), List.getElem?_eq_getElem (by have := HNT.out; omega)⟩
      have hb16 : b < 16 := H16.out b (List.mem_of_getElem? hb)
      have a0 : wr.cell? ⟨g, i, none⟩ = some (.int .i64 (b : Int)) := (World.cell?_of_block (a := ⟨g, i, none⟩) hrow).trans (HGC.out i b hb)
      have HBI := hideIt hb
      clear hb
      go_upto_region 30 with fail
      have X1 := X.below (one_alloc wr (.cells #[.int .i64 (b : Int)] 65))
      have b0 : (World.alloc wr (.cells #[.int .i64 (b : Int)] 65)).cell? ⟨wr.heap.size, 0, none⟩ = some (.int .i64 (b : Int)) := by simp
      have hrow1 : (World.alloc wr (.cells #[.int .i64 (b : Int)] 65)).heap[g]? = wt.heap[g]? := ((one_alloc wr _).block g (by omega)).trans hrow
      have hsz1 : wt.heap.size ≤ (World.alloc wr (.cells #[.int .i64 (b : Int)] 65)).heap.size := by simp; omega
      clear X a0 hrow hsz
      generalize World.alloc wr (.cells #[.int .i64 (b : Int)] 65) = wx at *
      generalize hp22 : wr.heap.size = p22 at *
      clear hp22
      have X := X1
      clear X1
      have y13 := X.b.sq
      have yac : (World.drew wx).cell? ⟨sb, so + b, none⟩ = some (.int .u64 (ac b)) := (World.cell?_of_block (a := ⟨sb, so + b, none⟩) (X.bl.block sb hsb)).trans (HAC.out b hb16)
      obtain ⟨l, hl⟩ : ∃ l, l = (sdE now ac (tl.take i) : List EvS) := ⟨_, rfl⟩
      rw [← hl] at X
      have hlen : l.length < 1000 := by rw [hl]; simp [sdE]; omega
      have HLL := hideIt hl
      clear hl
      obtain ⟨i0_, hi_, hz0, hz1, hz2⟩ := info_parts info123
      obtain ⟨e, he⟩ : ∃ e : EvS, e = (⟨2, (now : Int), ((b / 4 : Nat) : Int), -1, 0, (b : Int), IntKind.u64.wrap (ac b + 1), 0, 0⟩ : EvS) := ⟨_, rfl⟩
      have HEV := hideIt he
      have hone := one_125 (w := World.drew wx) (kk := 2) (b := b) (a := ac b) X.b.bk.drew b0 y13 yac hb16
      try unfold evT at he
      try unfold evM at he
      try unfold evX at he
      try unfold bl at he
      rw [← he] at hone
      unfold evV at hone
      clear he
      obtain ⟨pv, cap, hV⟩ := own_shape X.own
      obtain ⟨n, hn⟩ : ∃ n, n = l.length := ⟨_, rfl⟩
      rw [← hn] at hV hlen
      subst hV
      have HN := hideIt hn
      have s0 := X.ou
      have s1 := X.b.on
      have hr : ∀ q, q < n1 → some q ≠ (Value.slice pv n cap).ownBlock := fun q hq e => by have := (X.own.lt q e.symm).1; omega
      obtain ⟨l1, l2, l3, l4, l5, l6, l7, l8, l9, l10⟩ := X.lt
      have hr17 := hr p17 (by omega)
      have hr16 := hr p16 (by omega)
      have HX := hideIt X
      clear X hn hr
      refine wp_region_l (l := 6) (S := (fun w' => w'.cell? ⟨p17, 0, none⟩ = some (.slice pv n cap) ∧ w'.cell? ⟨p16, 0, none⟩ = some (.func (.func 116) #[] #[.pointer (some ⟨p15, 0, none⟩)]))) (by kernel_rfl) ⟨s0, s1⟩ (fun hHeld => ?_)
      refine AnyL.take2 (i := 0) (oi := { dst := some 102, op := Go.Op.load 111 (Go.Operand.tmp 17), type := 111, pos := _, after := #[], guard := none }) (v := ?vv9029) (by kernel_rfl) (by kernel_rfl) rfl (by kernel_rfl) (by kernel_rfl) (by kernel_rfl) (fun _ _ _ h => h) (Or.inl ⟨by rfl, ?hy9029⟩) (by assumption) ?tk9029
      case hy9029 => (intro w hSw; (try dsimp only at hSw); go_simp; (try with_reducible rfl))
      try simp only [Act.put, List.setIfInBounds_toArray, List.set_cons_zero, List.set_cons_succ]
      refine AnyL.take2 (i := 1) (oi := { dst := some 103, op := Go.Op.load 223 (Go.Operand.tmp 16), type := 223, pos := _, after := #[], guard := none }) (v := ?vv9030) (by kernel_rfl) (by kernel_rfl) rfl (by kernel_rfl) (by kernel_rfl) (by kernel_rfl) (fun _ _ _ h => h) (Or.inl ⟨by rfl, ?hy9030⟩) (by assumption) ?tk9030
      case hy9030 => (intro w hSw; (try dsimp only at hSw); go_simp; (try with_reducible rfl))
      try simp only [Act.put, List.setIfInBounds_toArray, List.set_cons_zero, List.set_cons_succ]
      refine AnyL.take2 (i := 2) (oi := { dst := some 104, op := Go.Op.makeFunc (Go.Fn.func 125) #[] #[Go.Operand.tmp 22, Go.Operand.tmp 13], type := 221, pos := _, after := #[], guard := none }) (v := ?vv9031) (by kernel_rfl) (by kernel_rfl) rfl (by kernel_rfl) (by kernel_rfl) (by kernel_rfl) (fun _ _ _ h => h) (Or.inl ⟨by rfl, ?hy9031⟩) (by assumption) ?tk9031
      case hy9031 => (intro w hSw; (try dsimp only at hSw); go_simp; (try with_reducible rfl))
      try simp only [Act.put, List.setIfInBounds_toArray, List.set_cons_zero, List.set_cons_succ]
      refine AnyL.one (i := 3) (o := { dst := some 105, op := Go.Op.call { callee := Go.Callee.value (Go.Operand.tmp 103), args := #[Go.Operand.const (Go.Value.int Go.IntKind.u8 2), Go.Operand.tmp 104], argTypes := #[121, 221] }, type := 123, pos := _, after := #[{ on := 1, ground := Go.Ground.data }, { on := 2, ground := Go.Ground.data }], guard := none }) (by kernel_rfl) rfl rfl (fun K' hK' => ?_)
      go_simp
      go_at_call 116
      refine hone.mono ?_
      rintro x w2 ⟨rfl, hb2⟩
      have X2 := HX.out.drew.below hb2
      have hrow2 := (hb2.block g (show g < wx.heap.size by omega)).trans hrow1
      have hsz2_ := hb2.size
      have t0 := X2.ou
      have t1 := X2.b.on
      have hown := X2.own
      have hsz2 := X2.lt.2.2.2.2.2.2.2.2.2
      have fz2 := X2.fz
      rw [← HN.out] at hown
      have HX2 := hideIt X2
      clear X2 hb2 hone
      clear hHeld
      refine hK'.out _ _ ⟨t0, t1⟩ (fun hHeld => ?_)
      clear hK' K'
      try simp only [Act.put, List.setIfInBounds_toArray, List.set_cons_zero, List.set_cons_succ]
      refine AnyL.one (i := 4) (o := { dst := some 106, op := Go.Op.buildSlice 111 1 #[(0, Go.Operand.tmp 105)], type := 111, pos := _, after := #[{ on := 3, ground := Go.Ground.data }], guard := none }) (by kernel_rfl) rfl rfl (fun K' hK' => ?_)
      go_simp
      clear hHeld
      refine hK'.out _ _ ⟨cell_later (one_alloc _ _) t0, cell_later (one_alloc _ _) t1⟩ (fun hHeld => ?_)
      clear hK' K'
      try simp only [Act.put, List.setIfInBounds_toArray, List.set_cons_zero, List.set_cons_succ]
      refine AnyL.one (i := 5) (o := { dst := some 107, op := Go.Op.call { callee := Go.Callee.builtin Go.Builtin.append, args := #[Go.Operand.tmp 102, Go.Operand.tmp 106], argTypes := #[111, 111] }, type := 111, pos := _, after := #[{ on := 0, ground := Go.Ground.data }, { on := 4, ground := Go.Ground.data }, { on := 3, ground := Go.Ground.chain }], guard := none }) (by kernel_rfl) rfl rfl (fun K' hK' => ?_)
      refine ite_take (by rfl) ?_
      refine wp_append_own_at (.tmp 102) (.tmp 106) 111 rfl n1 123 i0_ (.agg #[.int .u8 0, .int .u64 0, .int .i64 0, .int .i64 0, .int .u64 0, .int .i64 0, .int .u64 0, .int .u8 0, .int .i64 0]) 9 72 Tryz.underlying111 hi_ hz0 hz1 hz2 rfl (by decide) (.slice pv n cap) n (evCells l) rfl (hown.alloc _) ⟨w2.heap.size, 0, none⟩ 1 1 (ev9 e) rfl rfl (cell_ev_new _ _ _) (ev9_one e) (by unfold maxLen; omega) (by omega) (by simp; omega) ?_
      intro v' w3 hown' hgrow hblk
      obtain ⟨p', c', rfl⟩ := own_shape hown'
      have k0 := hgrow.cell (a := ⟨p17, 0, none⟩) hHeld.1 hr17
      have k1 := hgrow.cell (a := ⟨p16, 0, none⟩) hHeld.2 hr16
      have fz3 : ∀ o, w3.frozen? ⟨p17, o, none⟩ = false := fun o => ((World.frozen?_of_block (a := ⟨p17, o, none⟩) (hgrow.block p17 (by simp; omega) hr17)).trans (World.frozen?_of_block (a := ⟨p17, o, none⟩) ((one_alloc w2 _).block p17 (by omega)))).trans (fz2 o)
      have HG := hideIt (And.intro hown' (And.intro hgrow hblk))
      clear hown' hgrow hblk
      clear hHeld
      refine hK'.out _ _ ⟨k0, k1⟩ (fun hHeld => ?_)
      clear hK' K'
      try simp only [Act.put, List.setIfInBounds_toArray, List.set_cons_zero, List.set_cons_succ]
      refine AnyL.last (o := { dst := none, op := Go.Op.store 111 (Go.Operand.tmp 17) (Go.Operand.tmp 107), type := 0, pos := _, after := #[{ on := 5, ground := Go.Ground.data }, { on := 5, ground := Go.Ground.chain }, { on := 0, ground := Go.Ground.phase }, { on := 1, ground := Go.Ground.phase }, { on := 2, ground := Go.Ground.phase }, { on := 3, ground := Go.Ground.phase }, { on := 4, ground := Go.Ground.phase }, { on := 5, ground := Go.Ground.phase }], guard := none }) (by kernel_rfl) rfl (by kernel_rfl) (fun K' hK' => ?_)
      go_simp
      clear hHeld
      refine hK'.out _ _ ?_
      clear hK' K'
      try simp only [Act.put, List.setIfInBounds_toArray, List.set_cons_zero, List.set_cons_succ]
      go_wp2
      go_roundg (nt - (i + 1))
      case measure => omega
      case rel =>
        have X3 : XA w (World.setCell w3 ⟨p17, 0, none⟩ (.slice p' (n + 1) c')) w.heap.size p8 p10 p12 p13 p15 p16 p17 n1 o (resCs 0 co tk tm hm mm pf nf cf) now was st sb so (.slice p' (n + 1) c') (l ++ [(⟨2, (now : Int), ((b / 4 : Nat) : Int), -1, 0, (b : Int), IntKind.u64.wrap (ac b + 1), 0, 0⟩ : EvS)]) := by rw [← HEV.out]; exact HX2.out.push (by rw [← HN.out]; exact HG.out.1) HG.out.2.1
        rw [HLL.out] at X3
        obtain ⟨_, hG, hbk⟩ := HG.out
        refine ⟨i + 1, by omega, by go_num, _, by rw [sdE_take HBI.out]; exact X3, ?_, ?_, ?_⟩
        · rcases hbk with z | z
          · rw [z]; exact hVg
          · rw [z]
            intro q
            have q2 := Option.some.inj q
            simp at q2
            have : wx.heap.size ≤ w2.heap.size := hsz2_
            omega
        · have hw2 : wx.heap.size ≤ w2.heap.size := hsz2_
          exact (far_set (show g ≠ p17 by omega)).trans ((hG.block g (by simp; omega) (fun q => hVg q.symm)).trans (((one_alloc w2 _).block g (by omega)).trans hrow2))
        · have hw2 : wx.heap.size ≤ w2.heap.size := hsz2_
          have hw3 := hG.size
          simp at hw3 ⊢
          omega
    · have e : i = nt := by omega
      subst e
      have s3 := X.ou
      rw [← HNT.out, List.take_of_length_le (Nat.le_refl _)] at X
      have HX2 := hideIt X
      clear X
      go_wp2
      go_ret
      exact ⟨_, rfl, EvIn.of_own HX2.out.own, HX2.out.bl⟩
end Go.Proofs.Qxb6500877aGreatDoor
