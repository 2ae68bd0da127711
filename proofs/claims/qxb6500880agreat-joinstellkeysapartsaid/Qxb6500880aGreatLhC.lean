import Derived.Deep.CutBlock
import Derived.OwnWalk
import Derived.Maps.AppendAt
import Derived.Maps.OwnSet
import Derived.Maps.OwnOps
import Derived.Laws.ResultCell
import Derived.Laws.AppendOwnNone
import Derived.Test.Qxb6500880aGreatLhB
set_option linter.unusedVariables false
set_option linter.unusedSimpArgs false
namespace Go.Proofs.Qxb6500880aGreat
open Go.RowKit

set_option maxRecDepth 20000 in
set_option maxHeartbeats 40000000 in
def pkgC : Part (pkgB.need) := by
  apply Part.mk
  case thus =>
  intro key
  intro w p c zA0 u6 u44 u45 u46 u47 u48 u49 u50 u51 u52 u53 u54 u55 u56 u57 u58 u59 u60 i y HS hn zA9 zA10 zB0 u2 u7 u8 u11 u12 u13 u14 u15 u16 u17 u18 u19 u20 u21 u23 u25 u26 u27 u28 u29 u30 u31 u33 u62 u63 u64 u65 u66 u67 u68 u80 u81 u82 u83 u84 u85 u86 u87 u88 u89 u90 u91 u92 u93 u94 u95 u96 u97 u98 u99 u100 u101 u102 u103 u104 u105 u106 u107 u108 u109 u110 u111 u112 u113 u114 u115 u116 u117 u118 u119 u120 u121 u122 u123 u124 u125 u126 u127 u128 u129 u130 u131 u132 u133 u134 u135 u136 u137 u138 u139 u140 u141 u142 u143 u144 u145 u146 u147 u148 u149 u150 u151 u152 u153 u154 u155 u156 u157 u158 u159 u160 u161 u162 u163 u164 u165 u166 u167 u168 u169 u170 u171 u172 u173 u174 u175 u176 u177 u178 u179 u180 u181 u182 u183 u184 u185 u186 u187 u188 u189 u190 u191 u192 u193 u194 u195 u196 u197 u198 u199 u200 u201 u202 u203 u204 u205 u206 u207 u208 u209 u210 u211 u212 u213 u214 u215 u216 u217 u218 u219 u220 u221 u222 u223 u224 u225 u226 u227 u228 u229 u230 u231 u232 u233 u234 u235 u236 u237 u238 u239 u240 u241 u242 u243 u244 u245 u246 u247 u248 u249 u250 u251 u252 u253 u254 u255 u256 u257 u258 u259 u260 u261 u262 u263 u264 u265 u266 u267 u268 u269 u270 u271 u272 u273 u274 u275 u276 u277 u278 u279 u280 zA11 zA12 zA13 zA14 k hk hkn k0 k1 wk HB zA15 zA16 w1 B hB i4 hi4 hy0 hy1 hy2 u9 u10 u69 u70 u71 u72 u73 u74 u75 u76 u77 u78 u79 av wa zB21 zB22 zB23 zB24 w3 G hG hBa H3 hBG
  obtain ⟨i3, hi3, hz0, hz1, hz2⟩ := info_parts info3
  go_wp2_with fail
  go_loopg [80] 3 (fun gg v wr => ∃ (col : Nat) (gp : Nat → Nat), col + gg = 3 ∧ v = .int .i64 (col : Int) ∧ ChS w3 wr B G col gp)
  case atStart => exact ⟨0, fun _ => 0, by omega, rfl, H3.out.2.1⟩
  case round =>
  obtain ⟨col, gp, hi, rfl, CS⟩ := hrel
  have hGw : G < wr.heap.size := by have := CS.W.size; have := H3.out.2.2.2.1; omega
  by_cases hin : col < 3
  · have c0 : (0 : Int) ≤ col := by omega
    have c1 : (col : Int) < 3 := by omega
    have hro := roll_any CS.d (n := 4) (by omega) (by omega)
    have HC := hideIt CS
    clear CS
    go_wp2_with fail
    refine hro.mono ?_
    rintro e w4 ⟨mv, rfl, hmv, D4, W4⟩
    have C4 := HC.out.dice D4 W4 hBG hGw
    have hG4 : G < w4.heap.size := by have := W4.size; omega
    have I4 : ChI w4 w4 B G col 0 (.slice none 0 0) (fun _ => 0) := ⟨C4.z col (Nat.le_refl _) hin, own_nil _ _ _ _, fun i hi => by omega, D4, C4.fz, fun c _ => rfl, Ws.of_below (Below.refl _ _)⟩
    have H4 := hideIt (And.intro C4 I4)
    clear C4 I4 D4 W4 HC hro
    obtain ⟨m, hm⟩ : ∃ m : Nat, m = 1 + mv := ⟨_, rfl⟩
    have hmI : (1 : Int) + (mv : Int) = (m : Int) := by omega
    have hm4 : 0 < m ∧ m ≤ 4 := by omega
    have HM := hideIt hm
    clear hm
    go_wp2_with fail
    go_loopg [85] m (fun gg v wr => ∃ (j : Nat) (vv : Value) (pv : Nat → Nat), j + gg = m ∧ v = .int .i64 (j : Int) ∧ ChI w4 wr B G col j vv pv)
    case atStart => exact ⟨0, _, _, by omega, rfl, H4.out.2⟩
    case round =>
    obtain ⟨j, vv, pv, hj, rfl, I⟩ := hrel
    by_cases hjm : j < m
    · skip
      have j0 : (0 : Int) ≤ j := by omega
      have j1 : (j : Int) < (m : Int) := by omega
      obtain ⟨p2, c2, rfl⟩ := own_shape I.o
      have hc := I.c
      have hfz := I.fz
      have hGr : G < wr.heap.size := World.block_lt_of_cell? _ _ hc
      have hs4 : w4.heap.size ≤ wr.heap.size := I.W.size
      have hro := roll_any (w := wr.drew) (I.d.blk rfl) (n := 64) (by omega) (by omega)
      have hrG : some G ≠ (Value.slice p2 j c2).ownBlock := fun e => by have := (I.o.lt _ e.symm).1; omega
      have HI := hideIt I
      clear I
      go_upto_region 26 with fail
      refine wp_region_l (l := 8) (S := (fun w' => w'.cell? ⟨G, col, none⟩ = some (.slice p2 j c2))) (by kernel_rfl) hc (fun hHeld => ?_)
      refine AnyL.take2 (i := 0) (oi := { dst := some 87, op := Go.Op.move (Go.Operand.tmp 12), type := 3, pos := _, after := #[], guard := none }) (v := ?vv49001) (by kernel_rfl) (by kernel_rfl) rfl (by kernel_rfl) (by kernel_rfl) (by kernel_rfl) (fun _ _ _ h => h) (Or.inl ⟨by rfl, ?hy49001⟩) (by assumption) ?tk49001
      case hy49001 => (intro w hSw; (try dsimp only at hSw); go_simp; (try with_reducible rfl))
      try simp only [Act.put, List.setIfInBounds_toArray, List.set_cons_zero, List.set_cons_succ]
      refine AnyL.take2 (i := 1) (oi := { dst := some 88, op := Go.Op.move (Go.Operand.tmp 12), type := 3, pos := _, after := #[], guard := none }) (v := ?vv49002) (by kernel_rfl) (by kernel_rfl) rfl (by kernel_rfl) (by kernel_rfl) (by kernel_rfl) (fun _ _ _ h => h) (Or.inl ⟨by rfl, ?hy49002⟩) (by assumption) ?tk49002
      case hy49002 => (intro w hSw; (try dsimp only at hSw); go_simp; (try with_reducible rfl))
      try simp only [Act.put, List.setIfInBounds_toArray, List.set_cons_zero, List.set_cons_succ]
      refine AnyL.take2 (i := 2) (oi := { dst := some 89, op := Go.Op.indexAddr 42 (Go.Operand.tmp 11) (Go.Operand.tmp 88), type := 0, pos := _, after := #[{ on := 1, ground := Go.Ground.data }], guard := none }) (v := ?vv49003) (by kernel_rfl) (by kernel_rfl) rfl (by kernel_rfl) (by kernel_rfl) (by kernel_rfl) (fun _ _ _ h => h) (Or.inl ⟨by rfl, ?hy49003⟩) (by assumption) ?tk49003
      case hy49003 => (intro w hSw; (try dsimp only at hSw); go_simp; (try with_reducible rfl))
      try simp only [Act.put, List.setIfInBounds_toArray, List.set_cons_zero, List.set_cons_succ]
      refine AnyL.take2 (i := 3) (oi := { dst := some 90, op := Go.Op.load 41 (Go.Operand.tmp 89), type := 41, pos := _, after := #[{ on := 2, ground := Go.Ground.data }], guard := none }) (v := ?vv49004) (by kernel_rfl) (by kernel_rfl) rfl (by kernel_rfl) (by kernel_rfl) (by kernel_rfl) (fun _ _ _ h => h) (Or.inl ⟨by rfl, ?hy49004⟩) (by assumption) ?tk49004
      case hy49004 => (intro w hSw; (try dsimp only at hSw); go_simp; (try with_reducible rfl))
      try simp only [Act.put, List.setIfInBounds_toArray, List.set_cons_zero, List.set_cons_succ]
      refine AnyL.one (i := 4) (o := { dst := some 91, op := Go.Op.call { callee := Go.Callee.value (Go.Operand.func 6), args := #[Go.Operand.tmp 8, Go.Operand.const (Go.Value.int Go.IntKind.i64 64)], argTypes := #[39, 3] }, type := 3, pos := _, after := #[], guard := none }) (by kernel_rfl) rfl rfl (fun K' hK' => ?_)
      go_simp
      go_at_call 6
      refine hro.mono ?_
      rintro e w5 ⟨xv, rfl, hxv, D5, W5⟩
      have hc5 : w5.cell? ⟨G, col, none⟩ = some (.slice p2 j c2) := (World.cell?_of_block (a := ⟨G, col, none⟩) (W5.block G hGr (by omega))).trans hc
      have W5' : Wr B wr w5 := ⟨W5.os, W5.tape, W5.output, W5.size, W5.block⟩
      have own5 : w5.ownsRow w4.heap.size 3 1 (.slice p2 j c2) j (intF pv j) := own_keep HI.out.o (fun q hq hl => W5'.block q hl (by have := (HI.out.o.lt q hq).1; omega))
      have HO5 := hideIt own5
      have HX5 := hideIt (And.intro D5 W5')
      have hs5 : wr.heap.size ≤ w5.heap.size := W5'.size
      have fz5 : ∀ o, w5.frozen? ⟨G, o, none⟩ = false := fun o => (World.frozen?_of_block (a := ⟨G, o, none⟩) (W5.block G hGr (by omega))).trans (hfz o)
      clear D5 W5 W5' own5 hro hc
      clear hHeld
      refine hK'.out _ _ hc5 (fun hHeld => ?_)
      clear hK' K'
      try simp only [Act.put, List.setIfInBounds_toArray, List.set_cons_zero, List.set_cons_succ]
      refine AnyL.one (i := 5) (o := { dst := some 92, op := Go.Op.buildSlice 41 1 #[(0, Go.Operand.tmp 91)], type := 41, pos := _, after := #[{ on := 4, ground := Go.Ground.data }], guard := none }) (by kernel_rfl) rfl rfl (fun K' hK' => ?_)
      go_simp
      clear hHeld
      refine hK'.out _ _ (cell_later (one_alloc _ _) hc5) (fun hHeld => ?_)
      clear hK' K'
      try simp only [Act.put, List.setIfInBounds_toArray, List.set_cons_zero, List.set_cons_succ]
      refine AnyL.one (i := 6) (o := { dst := some 93, op := Go.Op.call { callee := Go.Callee.builtin Go.Builtin.append, args := #[Go.Operand.tmp 90, Go.Operand.tmp 92], argTypes := #[41, 41] }, type := 41, pos := _, after := #[{ on := 3, ground := Go.Ground.data }, { on := 5, ground := Go.Ground.data }, { on := 4, ground := Go.Ground.chain }], guard := none }) (by kernel_rfl) rfl rfl (fun K' hK' => ?_)
      refine ite_take (by rfl) ?_
      refine wp_append_own_at (.tmp 90) (.tmp 92) 41 rfl w4.heap.size 3 i3 (.int .i64 0) 1 8 Tryz.underlying41 hi3 hz0 hz1 hz2 rfl (by decide) (.slice p2 j c2) j (intF pv j) rfl (HO5.out.alloc _) ⟨w5.heap.size, 0, none⟩ 1 1 [.int .i64 (xv : Int)] rfl rfl (cell_new1 _ _ _) (by simp [Value.oneCell']) (by unfold maxLen; omega) (by omega) (by simp <;> omega) ?_
      intro v' w7 hown' hgrow hblk
      obtain ⟨p', c', rfl⟩ := own_shape hown'
      have kk0 := hgrow.cell (a := ⟨G, col, none⟩) hHeld hrG
      have fz7 : ∀ o, w7.frozen? ⟨G, o, none⟩ = false := fun o => ((World.frozen?_of_block (a := ⟨G, o, none⟩) (hgrow.block G (by simp; omega) hrG)).trans (World.frozen?_of_block (a := ⟨G, o, none⟩) ((one_alloc w5 _).block G (by omega)))).trans (fz5 o)
      have HG := hideIt (And.intro hown' hgrow)
      clear hown' hgrow hblk
      clear hHeld
      refine hK'.out _ _ kk0 (fun hHeld => ?_)
      clear hK' K'
      try simp only [Act.put, List.setIfInBounds_toArray, List.set_cons_zero, List.set_cons_succ]
      refine AnyL.take2 (i := 7) (oi := { dst := some 94, op := Go.Op.indexAddr 42 (Go.Operand.tmp 11) (Go.Operand.tmp 87), type := 0, pos := _, after := #[{ on := 0, ground := Go.Ground.data }, { on := 0, ground := Go.Ground.phase }, { on := 1, ground := Go.Ground.phase }, { on := 2, ground := Go.Ground.phase }, { on := 3, ground := Go.Ground.phase }, { on := 4, ground := Go.Ground.phase }, { on := 5, ground := Go.Ground.phase }, { on := 6, ground := Go.Ground.phase }], guard := none }) (v := ?vv49005) (by kernel_rfl) (by kernel_rfl) rfl (by kernel_rfl) (by kernel_rfl) (by kernel_rfl) (fun _ _ _ h => h) (Or.inl ⟨by rfl, ?hy49005⟩) (by assumption) ?tk49005
      case hy49005 => (intro w hSw; (try dsimp only at hSw); go_simp; (try with_reducible rfl))
      try simp only [Act.put, List.setIfInBounds_toArray, List.set_cons_zero, List.set_cons_succ]
      refine AnyL.last (o := { dst := none, op := Go.Op.store 41 (Go.Operand.tmp 94) (Go.Operand.tmp 93), type := 0, pos := _, after := #[{ on := 7, ground := Go.Ground.data }, { on := 6, ground := Go.Ground.data }, { on := 6, ground := Go.Ground.chain }, { on := 0, ground := Go.Ground.phase }, { on := 1, ground := Go.Ground.phase }, { on := 2, ground := Go.Ground.phase }, { on := 3, ground := Go.Ground.phase }, { on := 4, ground := Go.Ground.phase }, { on := 5, ground := Go.Ground.phase }, { on := 6, ground := Go.Ground.phase }], guard := none }) (by kernel_rfl) rfl (by kernel_rfl) (fun K' hK' => ?_)
      go_simp
      clear hHeld
      refine hK'.out _ _ ?_
      clear hK' K'
      try simp only [Act.put, List.setIfInBounds_toArray, List.set_cons_zero, List.set_cons_succ]
      go_wp2
      go_roundg (m - (j + 1))
      case measure => omega
      case rel =>
        obtain ⟨hown', hgrow⟩ := HG.out
        obtain ⟨D5, W5⟩ := HX5.out
        exact ⟨j + 1, _, updN pv j xv, by omega, by go_num, HI.out.next D5 W5 hBG hG4 hxv hgrow hown' (fun q hq => by have := (hown'.lt q hq).1; omega)⟩
    have ej : j = m := by omega
    subst ej
    obtain ⟨g, CS'⟩ := I.done H4.out.1 hm4.1 hm4.2 hin hBG hG4
    have HC' := hideIt CS'
    clear CS' I hj hjm
    go_wp2
    go_roundg (3 - (col + 1))
    case measure => omega
    case rel => exact ⟨col + 1, _, by omega, by go_num, HC'.out⟩
  have ec : col = 3 := by omega
  subst ec
  clear hi hin
  obtain ⟨wb, hwb⟩ : ∃ wb, wb = wr := ⟨_, rfl⟩
  subst hwb
  have bX := one_alloc wb (.cells #[.int .i64 0, .int .i64 1, .int .i64 0, .int .i64 2, .int .i64 1, .int .i64 2] 44)
  have hro := roll_any (w := wb.alloc (.cells #[.int .i64 0, .int .i64 1, .int .i64 0, .int .i64 2, .int .i64 1, .int .i64 2] 44)) (CS.d.below bX) (n := 3) (by omega) (by omega)
  have cX : ∀ ov, ov < 3 → ∃ fs sn, OrdN fs sn ∧ (wb.alloc (.cells #[.int .i64 0, .int .i64 1, .int .i64 0, .int .i64 2, .int .i64 1, .int .i64 2] 44)).cell? ⟨wb.heap.size, ov * 2, none⟩ = some (.int .i64 (fs : Nat)) ∧ (wb.alloc (.cells #[.int .i64 0, .int .i64 1, .int .i64 0, .int .i64 2, .int .i64 1, .int .i64 2] 44)).cell? ⟨wb.heap.size, ov * 2 + 1, none⟩ = some (.int .i64 (sn : Nat)) := fun ov ho => by
    rcases (by omega : ov = 0 ∨ ov = 1 ∨ ov = 2) with h | h | h
    · subst h; exact ⟨0, 1, .inl ⟨rfl, rfl⟩, new_cell rfl _ _ 0, new_cell rfl _ _ 1⟩
    · subst h; exact ⟨0, 2, .inr (.inl ⟨rfl, rfl⟩), new_cell rfl _ _ 2, new_cell rfl _ _ 3⟩
    · subst h; exact ⟨1, 2, .inr (.inr ⟨rfl, rfl⟩), new_cell rfl _ _ 4, new_cell rfl _ _ 5⟩
  have hGb : G < wb.heap.size := hGw
  have HC := hideIt (And.intro CS bX)
  have HcX := hideIt cX
  clear CS bX cX hGw
  go_wp2_with fail
  refine hro.mono ?_
  rintro e w5 ⟨ov, rfl, hov, D5, W5⟩
  obtain ⟨CS, bX⟩ := HC.out
  obtain ⟨fs, sn, ho, cx0, cx1⟩ := HcX.out ov hov
  have hBX : wb.heap.size ≠ B := by omega
  have hXl : wb.heap.size < (wb.alloc (.cells #[.int .i64 0, .int .i64 1, .int .i64 0, .int .i64 2, .int .i64 1, .int .i64 2] 44)).heap.size := by simp
  have eX := W5.block wb.heap.size hXl hBX
  have c50 := (World.cell?_of_block (a := ⟨wb.heap.size, ov * 2, none⟩) eX).trans cx0
  have c51 := (World.cell?_of_block (a := ⟨wb.heap.size, ov * 2 + 1, none⟩) eX).trans cx1
  have o0 : (0 : Int) ≤ ov := by omega
  have o1 : (ov : Int) < 3 := by omega
  have Wb5 : Ws (fun q => q = B) wb w5 := (Ws.of_below bX).trans (Ws.of_wr W5 rfl)
  have bY := one_alloc w5 (.cells #[.int .i64 (fs : Int), .int .i64 (sn : Int)] 44)
  have y0 : (w5.alloc (.cells #[.int .i64 (fs : Int), .int .i64 (sn : Int)] 44)).cell? ⟨w5.heap.size, 0, none⟩ = some (.int .i64 (fs : Int)) := new_cell rfl _ _ 0
  have y1 : (w5.alloc (.cells #[.int .i64 (fs : Int), .int .i64 (sn : Int)] 44)).cell? ⟨w5.heap.size, 1, none⟩ = some (.int .i64 (sn : Int)) := new_cell rfl _ _ 1
  have H5 := hideIt (And.intro CS (And.intro Wb5 (And.intro D5 bY)))
  have HOr := hideIt ho
  clear CS bX cx0 cx1 hXl eX Wb5 D5 W5 bY HC HcX hro ho
  go_upto_region 31 with fail
  refine wp_region_held_drew (S := (fun w' => w'.cell? ⟨w5.heap.size, 0, none⟩ = some (.int .i64 (fs : Int)) ∧ w'.cell? ⟨w5.heap.size, 1, none⟩ = some (.int .i64 (sn : Int)))) (by kernel_rfl) ⟨y0, y1⟩ (fun hHeld => ?_)
  refine wpAnyH_take (i := 0) (oi := { dst := some 105, op := Go.Op.indexAddr 44 (Go.Operand.tmp 14) (Go.Operand.const (Go.Value.int Go.IntKind.i64 0)), type := 0, pos := _, after := #[], guard := none }) (v := ?vv49006) rfl (by kernel_rfl) (by kernel_rfl) (by kernel_rfl) (fun _ _ _ h => h) (Or.inl ⟨by rfl, ?hy49006⟩) (by assumption) ?tk49006
  case hy49006 => (intro w hSw; (try dsimp only at hSw); go_simp; (try with_reducible rfl))
  try simp only [Act.put, List.setIfInBounds_toArray, List.set_cons_zero, List.set_cons_succ]
  refine wpAnyH_take (i := 1) (oi := { dst := some 106, op := Go.Op.load 3 (Go.Operand.tmp 105), type := 3, pos := _, after := #[{ on := 0, ground := Go.Ground.data }], guard := none }) (v := ?vv49007) rfl (by kernel_rfl) (by kernel_rfl) (by kernel_rfl) (fun _ _ _ h => h) (Or.inl ⟨by rfl, ?hy49007⟩) (by assumption) ?tk49007
  case hy49007 => (intro w hSw; (try dsimp only at hSw); go_simp; (try with_reducible rfl))
  try simp only [Act.put, List.setIfInBounds_toArray, List.set_cons_zero, List.set_cons_succ]
  refine wpAnyH_take (i := 2) (oi := { dst := some 107, op := Go.Op.indexAddr 44 (Go.Operand.tmp 14) (Go.Operand.const (Go.Value.int Go.IntKind.i64 1)), type := 0, pos := _, after := #[{ on := 4, ground := Go.Ground.gcOnly Go.Departure.lateStores }], guard := none }) (v := ?vv49008) rfl (by kernel_rfl) (by kernel_rfl) (by kernel_rfl) (fun _ _ _ h => h) (Or.inl ⟨by rfl, ?hy49008⟩) (by assumption) ?tk49008
  case hy49008 => (intro w hSw; (try dsimp only at hSw); go_simp; (try with_reducible rfl))
  try simp only [Act.put, List.setIfInBounds_toArray, List.set_cons_zero, List.set_cons_succ]
  refine wpAnyH_take (i := 3) (oi := { dst := some 108, op := Go.Op.load 3 (Go.Operand.tmp 107), type := 3, pos := _, after := #[{ on := 2, ground := Go.Ground.data }, { on := 4, ground := Go.Ground.gcOnly Go.Departure.lateStores }], guard := none }) (v := ?vv49009) rfl (by kernel_rfl) (by kernel_rfl) (by kernel_rfl) (fun _ _ _ h => h) (Or.inl ⟨by rfl, ?hy49009⟩) (by assumption) ?tk49009
  case hy49009 => (intro w hSw; (try dsimp only at hSw); go_simp; (try with_reducible rfl))
  try simp only [Act.put, List.setIfInBounds_toArray, List.set_cons_zero, List.set_cons_succ]
  refine wpAnyH_take (i := 4) (oi := { dst := some 15, op := Go.Op.assign (Go.Operand.tmp 106), type := 3, pos := _, after := #[{ on := 1, ground := Go.Ground.data }, { on := 0, ground := Go.Ground.phase }, { on := 1, ground := Go.Ground.phase }, { on := 2, ground := Go.Ground.textOnly Go.Departure.lateStores }, { on := 3, ground := Go.Ground.textOnly Go.Departure.lateStores }], guard := none }) (v := ?vv49010) rfl (by kernel_rfl) (by kernel_rfl) (by kernel_rfl) (fun _ _ _ h => h) (Or.inl ⟨by rfl, ?hy49010⟩) (by assumption) ?tk49010
  case hy49010 => (intro w hSw; (try dsimp only at hSw); go_simp; (try with_reducible rfl))
  try simp only [Act.put, List.setIfInBounds_toArray, List.set_cons_zero, List.set_cons_succ]
  refine wpAnyH_take (i := 5) (oi := { dst := some 16, op := Go.Op.assign (Go.Operand.tmp 108), type := 3, pos := _, after := #[{ on := 3, ground := Go.Ground.data }, { on := 4, ground := Go.Ground.chain }, { on := 0, ground := Go.Ground.phase }, { on := 1, ground := Go.Ground.phase }, { on := 2, ground := Go.Ground.phase }, { on := 3, ground := Go.Ground.phase }, { on := 4, ground := Go.Ground.phase }], guard := none }) (v := ?vv49011) rfl (by kernel_rfl) (by kernel_rfl) (by kernel_rfl) (fun _ _ _ h => h) (Or.inl ⟨by rfl, ?hy49011⟩) (by assumption) ?tk49011
  case hy49011 => (intro w hSw; (try dsimp only at hSw); go_simp; (try with_reducible rfl))
  try simp only [Act.put, List.setIfInBounds_toArray, List.set_cons_zero, List.set_cons_succ]
  refine wpAnyH_done (by kernel_rfl) ?_ _
  clear hHeld
  obtain ⟨CS, Wb5, D5, bY⟩ := H5.out
  have D6 : DiceAt (w5.alloc (.cells #[.int .i64 (fs : Int), .int .i64 (sn : Int)] 44)).drew B := D5.below (below_dr bY)
  have hro := roll_any D6 (n := 4) (by omega) (by omega)
  have W6 : Ws (fun q => q = B) wb (w5.alloc (.cells #[.int .i64 (fs : Int), .int .i64 (sn : Int)] 44)).drew := Wb5.below (below_dr bY)
  have H6 := hideIt (And.intro CS W6)
  clear CS Wb5 D5 bY D6 W6 H5 y0 y1 c50 c51
  generalize (w5.alloc (.cells #[.int .i64 (fs : Int), .int .i64 (sn : Int)] 44)).drew = w6 at *
  go_wp2_with fail
  refine hro.mono ?_
  rintro e w7 ⟨mv, rfl, hmv, D7, W7⟩
  obtain ⟨CS, W6⟩ := H6.out
  obtain ⟨Z, CS0, b3, hs3, bka⟩ := H3.out
  obtain ⟨np, hnp⟩ : ∃ np : Nat, np = 1 + mv := ⟨_, rfl⟩
  have hnpI : (1 : Int) + (mv : Int) = (np : Int) := by omega
  have hnp4 : 0 < np ∧ np ≤ 4 := by omega
  have L7 := ChS.lat (np := np) Z hG b3 CS (W6.trans (Ws.of_wr W7 rfl)) D7 bka hBG (by omega)
  have H7 := hideIt L7
  have HM := hideIt hnp
  have ⟨hfs, hsn⟩ := HOr.out.lt
  clear CS W6 Z CS0 b3 hs3 bka L7 hnp D7 W7 hro H6 H3
  rename_i zC0 zC1 zC2 zC3 zC4 zC5 zC6 zC7 zC8 zC9 zC10 zC11 zC12 zC13 zC14 zC15 zC16 zC17 zC18 zC19 zC20 zC21 zC22 zC23 zC24 zC25 zC26 zC27 zC28
  clear zC0 zC1 zC2 zC3 zC4 zC5 zC6 zC7 zC8 zC9 zC10 zC11 zC12 zC13 zC14 zC15 zC16 w1 zB21 w3 gk zC17 zC18 zC19 zC20 zC21 zC22 w6
  revert w p c zA0 u6 u44 u45 u46 u47 u48 u49 u50 u51 u52 u53 u54 u55 u56 u57 u58 u59 u60 i y HS hn zA9 zA10 zB0 u2 u7 u8 u11 u13 u14 u15 u16 u17 u18 u19 u20 u21 u23 u25 u26 u27 u28 u29 u30 u31 u33 u62 u63 u64 u65 u66 u67 u68 u80 u97 u98 u99 u100 u101 u102 u103 u104 u105 u106 u107 u108 u109 u110 u111 u112 u113 u114 u115 u116 u117 u118 u119 u120 u121 u122 u123 u124 u125 u126 u127 u128 u129 u130 u131 u132 u133 u134 u135 u136 u137 u138 u139 u140 u141 u142 u143 u144 u145 u146 u147 u148 u149 u150 u151 u152 u153 u154 u155 u156 u157 u158 u159 u160 u161 u162 u163 u164 u165 u166 u167 u168 u169 u170 u171 u172 u173 u174 u175 u176 u177 u178 u179 u180 u181 u182 u183 u184 u185 u186 u187 u188 u189 u190 u191 u192 u193 u194 u195 u196 u197 u198 u199 u200 u201 u202 u203 u204 u205 u206 u207 u208 u209 u210 u211 u212 u213 u214 u215 u216 u217 u218 u219 u220 u221 u222 u223 u224 u225 u226 u227 u228 u229 u230 u231 u232 u233 u234 u235 u236 u237 u238 u239 u240 u241 u242 u243 u244 u245 u246 u247 u248 u249 u250 u251 u252 u253 u254 u255 u256 u257 u258 u259 u260 u261 u262 u263 u264 u265 u266 u267 u268 u269 u270 u271 u272 u273 u274 u275 u276 u277 u278 u279 u280 zA11 zA12 zA13 zA14 k hk hkn k0 k1 wk HB zA15 zA16 B hB i4 hi4 hy0 hy1 hy2 u9 u10 u69 u70 u71 u72 u73 u74 u75 u76 u77 u78 u79 av wa G hG hBa hBG i3 hi3 hz0 hz1 hz2 u12 u81 u82 u83 u84 u85 u86 u87 u88 u89 u90 u91 u92 u93 u94 u95 u96 gp wb hGb w5 ov hov fs sn hBX o0 o1 HOr zC23 zC24 zC25 zC26 zC27 zC28 w7 mv hmv np hnpI hnp4 H7 HM hfs hsn
  exact @key.out
end Go.Proofs.Qxb6500880aGreat
