import Derived.Deep.CutBlock
import Derived.OwnWalk
import Derived.Maps.AppendAt
import Derived.Maps.OwnSet
import Derived.Maps.OwnOps
import Derived.Laws.ResultCell
import Derived.Laws.AppendOwnNone
import Derived.Test.Qxb6500880aGreatLhC
set_option linter.unusedVariables false
set_option linter.unusedSimpArgs false
namespace Go.Proofs.Qxb6500880aGreat
open Go.RowKit

set_option maxRecDepth 20000 in
set_option maxHeartbeats 40000000 in
def pkgD : Part (pkgC.need) := by
  apply Part.mk
  case thus =>
  intro key
  intro w p c zA0 u6 u44 u45 u46 u47 u48 u49 u50 u51 u52 u53 u54 u55 u56 u57 u58 u59 u60 i y HS hn zA9 zA10 zB0 u2 u7 u8 u11 u13 u14 u15 u16 u17 u18 u19 u20 u21 u23 u25 u26 u27 u28 u29 u30 u31 u33 u62 u63 u64 u65 u66 u67 u68 u80 u97 u98 u99 u100 u101 u102 u103 u104 u105 u106 u107 u108 u109 u110 u111 u112 u113 u114 u115 u116 u117 u118 u119 u120 u121 u122 u123 u124 u125 u126 u127 u128 u129 u130 u131 u132 u133 u134 u135 u136 u137 u138 u139 u140 u141 u142 u143 u144 u145 u146 u147 u148 u149 u150 u151 u152 u153 u154 u155 u156 u157 u158 u159 u160 u161 u162 u163 u164 u165 u166 u167 u168 u169 u170 u171 u172 u173 u174 u175 u176 u177 u178 u179 u180 u181 u182 u183 u184 u185 u186 u187 u188 u189 u190 u191 u192 u193 u194 u195 u196 u197 u198 u199 u200 u201 u202 u203 u204 u205 u206 u207 u208 u209 u210 u211 u212 u213 u214 u215 u216 u217 u218 u219 u220 u221 u222 u223 u224 u225 u226 u227 u228 u229 u230 u231 u232 u233 u234 u235 u236 u237 u238 u239 u240 u241 u242 u243 u244 u245 u246 u247 u248 u249 u250 u251 u252 u253 u254 u255 u256 u257 u258 u259 u260 u261 u262 u263 u264 u265 u266 u267 u268 u269 u270 u271 u272 u273 u274 u275 u276 u277 u278 u279 u280 zA11 zA12 zA13 zA14 k hk hkn k0 k1 wk HB zA15 zA16 B hB i4 hi4 hy0 hy1 hy2 u9 u10 u69 u70 u71 u72 u73 u74 u75 u76 u77 u78 u79 av wa G hG hBa hBG i3 hi3 hz0 hz1 hz2 u12 u81 u82 u83 u84 u85 u86 u87 u88 u89 u90 u91 u92 u93 u94 u95 u96 gp wb hGb w5 ov hov fs sn hBX o0 o1 HOr zC23 zC24 zC25 zC26 zC27 zC28 w7 mv hmv np hnpI hnp4 H7 HM hfs hsn
  obtain ⟨i44, hi44, hp0, hp1, hp2⟩ := info_parts info44
  obtain ⟨i47, hi47, hq0, hq1, hq2⟩ := info_parts info47
  go_wp2_with fail
  go_loopg [111, 17, 9] np (fun gg v v17 v9 wr => ∃ (j : Nat) (x : LX), j + gg = np ∧ v = .int .i64 (j : Int) ∧ v17 = x.v17 ∧ v9 = x.v9 ∧ LAt wr wk B G np gp x ∧ VOk np x ∧ x.n17 = j ∧ x.n9 = 64 + j ∧ x.v18 = .slice none 0 0 ∧ x.n18 = 0)
  case atStart => exact ⟨0, _, by omega, rfl, rfl, rfl, H7.out, VOk.start _ _ _, rfl, rfl, rfl, rfl⟩
  case round =>
  obtain ⟨j, x, hj, rfl, rfl, rfl, L, V, e17, e9, e18, n18⟩ := hrel
  by_cases hjn : j < np
  · skip
    have j0 : (0 : Int) ≤ j := by omega
    have j1 : (j : Int) < (np : Int) := by omega
    have HL1 := hideIt L
    have HV := hideIt V
    have HE := hideIt (And.intro e17 (And.intro e9 (And.intro e18 n18)))
    have hI1 : 64 + x.n17 ≤ x.n9 := by omega
    have hI2 := hideIt (show x.n18 = 0 ∨ 64 + np + x.n18 ≤ x.n9 from .inl n18)
    have hI3 := hideIt (show 64 + x.n17 = x.n9 by omega)
    have hI4 : x.n17 ≤ 8 ∧ x.n9 ≤ 90 := by omega
    clear L V e17 e9 e18 n18
    have hd0 : Calls Tryz.prog 7 #[.int .i64 (fs : Int), .pointer (some ⟨G, 0, none⟩), .pointer (some ⟨B, 0, none⟩)] wr _ := draw_any HL1.out.ch HL1.out.d (col := fs) hfs
    go_wp2_with fail
    refine hd0.mono ?_
    rintro e wd1 ⟨a, rfl, ha, D0, W0⟩
    have HL2 := hideIt (HL1.out.dice D0 W0)
    clear D0 W0 hd0 HL1
    have hd1 : Calls Tryz.prog 7 #[.int .i64 (sn : Int), .pointer (some ⟨G, 0, none⟩), .pointer (some ⟨B, 0, none⟩)] wd1 _ := draw_any HL2.out.ch HL2.out.d (col := sn) hsn
    go_wp2_with fail
    refine hd1.mono ?_
    rintro e w3 ⟨b, rfl, hb, D1, W1⟩
    have HL3x := hideIt (HL2.out.dice D1 W1)
    clear D1 W1 hd1 HL2
    have bP := one_alloc w3 (.cells #[.int .i64 (a : Int), .int .i64 (b : Int)] 44)
    have L4 := (HL3x.out.below bP).setv (two a b) hI1 hI2.out
    have hlt : ∀ q, x.v17.ownBlock = some q → q < w3.heap.size := fun q hq => (HL3x.out.p.lt q hq).2
    have hl9 : ∀ q, x.v9.ownBlock = some q → q < w3.heap.size := fun q hq => (HL3x.out.db.lt q hq).2
    have p0 : (w3.alloc (.cells #[.int .i64 (a : Int), .int .i64 (b : Int)] 44)).cell? ⟨w3.heap.size, 0, none⟩ = some (.int .i64 (a : Int)) := new_cell rfl _ _ 0
    have p1 : (w3.alloc (.cells #[.int .i64 (a : Int), .int .i64 (b : Int)] 44)).cell? ⟨w3.heap.size, 1, none⟩ = some (.int .i64 (b : Int)) := new_cell rfl _ _ 1
    have hs4 : w3.heap.size < (w3.alloc (.cells #[.int .i64 (a : Int), .int .i64 (b : Int)] 44)).heap.size := by simp
    have HL4 := hideIt L4
    have Hlt := hideIt (And.intro hlt hl9)
    clear L4 bP HL3x hlt hl9
    go_upto_region 37 with fail
    generalize w3.alloc (.cells #[.int .i64 (a : Int), .int .i64 (b : Int)] 44) = w4 at *
    generalize hP : w3.heap.size = P at *
    go_wp2_with (first | (at_builtin; refine wpList_append_own_at _ rfl (.tmp 120) (.tmp 122) 45 rfl 0 44 i44 (.agg #[.int .i64 0, .int .i64 0]) 2 16 Tryz.underlying45 hi44 hp0 hp1 hp2 rfl (by decide) x.v17 x.n17 (pL (fun i => updF x.fv x.n9 (two a b) (64 + i)) x.n17) rfl (HL4.out.p.alloc _) ⟨w4.heap.size, 0, none⟩ 1 1 [.int .i64 (a : Int), .int .i64 (b : Int)] rfl rfl (cell_newL2 _ _ _ _ ) (by simp [Value.oneCell']) (by unfold maxLen; omega) (by omega) (by simp <;> omega) ?_) | go_in)
    intro v' w5 hown' hgrow hiff hblk
    have bN := one_alloc w4 (.cells #[.int .i64 (a : Int), .int .i64 (b : Int)] 44)
    have hsN : (w4.alloc (.cells #[.int .i64 (a : Int), .int .i64 (b : Int)] 44)).heap.size = w4.heap.size + 1 := by simp
    have hs5 := hgrow.size
    obtain ⟨hlt, hl9⟩ := Hlt.out
    have e5P : w5.heap[P]? = w4.heap[P]? := (hgrow.block P (by omega) (fun e => by have := hlt P e.symm; omega)).trans (bN.block P (by omega))
    have L5 := HL4.out.pairs (v := v') (n := x.n17 + 1) (w' := w5) (by
      show w5.ownsRow 0 44 2 v' (x.n17 + 1) (pL (fun i => updF x.fv x.n9 (two a b) (64 + i)) (x.n17 + 1))
      unfold pL
      rw [hI3.out, updF_same]
      exact hown') (fun q hq => by
      rcases hblk with z | z
      · exact .inl (z ▸ hq)
      · rw [z] at hq
        have := Option.some.inj hq
        exact .inr (by omega)) ((Ws.of_below bN).grow hgrow (fun q hq => .inl hq))
    have HL5 := hideIt L5
    have hP5 : P < w5.heap.size := by omega
    replace p0 := (World.cell?_of_block (a := ⟨P, 0, none⟩) e5P).trans p0
    replace p1 := (World.cell?_of_block (a := ⟨P, 1, none⟩) e5P).trans p1
    have hrP : some P ≠ x.v9.ownBlock := fun e => by have := hl9 P e.symm; omega
    clear hown' hgrow hiff hblk bN hsN e5P L5 HL4 hlt hl9 hs5
    go_upto_region 38 with fail
    refine wp_region_held_drew (S := (fun w' => w'.cell? ⟨P, 0, none⟩ = some (.int .i64 (a : Int)) ∧ w'.cell? ⟨P, 1, none⟩ = some (.int .i64 (b : Int)))) (by kernel_rfl) ⟨p0, p1⟩ (fun hHeld => ?_)
    refine wpAnyH_take (i := 0) (oi := { dst := some 124, op := Go.Op.move (Go.Operand.tmp 9), type := 40, pos := _, after := #[], guard := none }) (v := ?vv49012) rfl (by kernel_rfl) (by kernel_rfl) (by kernel_rfl) (fun _ _ _ h => h) (Or.inl ⟨by rfl, ?hy49012⟩) (by assumption) ?tk49012
    case hy49012 => (intro w hSw; (try dsimp only at hSw); go_simp; (try with_reducible rfl))
    try simp only [Act.put, List.setIfInBounds_toArray, List.set_cons_zero, List.set_cons_succ]
    refine wpAnyH_take (i := 1) (oi := { dst := some 125, op := Go.Op.move (Go.Operand.tmp 3), type := 27, pos := _, after := #[], guard := none }) (v := ?vv49013) rfl (by kernel_rfl) (by kernel_rfl) (by kernel_rfl) (fun _ _ _ h => h) (Or.inl ⟨by rfl, ?hy49013⟩) (by assumption) ?tk49013
    case hy49013 => (intro w hSw; (try dsimp only at hSw); go_simp; (try with_reducible rfl))
    try simp only [Act.put, List.setIfInBounds_toArray, List.set_cons_zero, List.set_cons_succ]
    refine wpAnyH_take (i := 2) (oi := { dst := some 126, op := Go.Op.indexAddr 44 (Go.Operand.tmp 19) (Go.Operand.const (Go.Value.int Go.IntKind.i64 0)), type := 0, pos := _, after := #[], guard := none }) (v := ?vv49014) rfl (by kernel_rfl) (by kernel_rfl) (by kernel_rfl) (fun _ _ _ h => h) (Or.inl ⟨by rfl, ?hy49014⟩) (by assumption) ?tk49014
    case hy49014 => (intro w hSw; (try dsimp only at hSw); go_simp; (try with_reducible rfl))
    try simp only [Act.put, List.setIfInBounds_toArray, List.set_cons_zero, List.set_cons_succ]
    refine wpAnyH_take (i := 3) (oi := { dst := some 127, op := Go.Op.load 3 (Go.Operand.tmp 126), type := 3, pos := _, after := #[{ on := 2, ground := Go.Ground.data }], guard := none }) (v := ?vv49015) rfl (by kernel_rfl) (by kernel_rfl) (by kernel_rfl) (fun _ _ _ h => h) (Or.inl ⟨by rfl, ?hy49015⟩) (by assumption) ?tk49015
    case hy49015 => (intro w hSw; (try dsimp only at hSw); go_simp; (try with_reducible rfl))
    try simp only [Act.put, List.setIfInBounds_toArray, List.set_cons_zero, List.set_cons_succ]
    refine wpAnyH_take (i := 5) (oi := { dst := some 129, op := Go.Op.move (Go.Operand.tmp 3), type := 27, pos := _, after := #[], guard := none }) (v := ?vv49016) rfl (by kernel_rfl) (by kernel_rfl) (by kernel_rfl) (fun _ _ _ h => h) (Or.inl ⟨by rfl, ?hy49016⟩) (by assumption) ?tk49016
    case hy49016 => (intro w hSw; (try dsimp only at hSw); go_simp; (try with_reducible rfl))
    try simp only [Act.put, List.setIfInBounds_toArray, List.set_cons_zero, List.set_cons_succ]
    refine wpAnyH_take (i := 6) (oi := { dst := some 130, op := Go.Op.indexAddr 44 (Go.Operand.tmp 19) (Go.Operand.const (Go.Value.int Go.IntKind.i64 1)), type := 0, pos := _, after := #[], guard := none }) (v := ?vv49017) rfl (by kernel_rfl) (by kernel_rfl) (by kernel_rfl) (fun _ _ _ h => h) (Or.inl ⟨by rfl, ?hy49017⟩) (by assumption) ?tk49017
    case hy49017 => (intro w hSw; (try dsimp only at hSw); go_simp; (try with_reducible rfl))
    try simp only [Act.put, List.setIfInBounds_toArray, List.set_cons_zero, List.set_cons_succ]
    refine wpAnyH_take (i := 7) (oi := { dst := some 131, op := Go.Op.load 3 (Go.Operand.tmp 130), type := 3, pos := _, after := #[{ on := 6, ground := Go.Ground.data }], guard := none }) (v := ?vv49018) rfl (by kernel_rfl) (by kernel_rfl) (by kernel_rfl) (fun _ _ _ h => h) (Or.inl ⟨by rfl, ?hy49018⟩) (by assumption) ?tk49018
    case hy49018 => (intro w hSw; (try dsimp only at hSw); go_simp; (try with_reducible rfl))
    try simp only [Act.put, List.setIfInBounds_toArray, List.set_cons_zero, List.set_cons_succ]
    refine wpAnyH_ready (rs := [4]) (by kernel_rfl) (by simp) ?_
    refine AllReadyH.cons (o := { dst := some 128, op := Go.Op.call { callee := Go.Callee.value (Go.Operand.tmp 125), args := #[Go.Operand.tmp 127], argTypes := #[3] }, type := 26, pos := _, after := #[{ on := 1, ground := Go.Ground.data }, { on := 3, ground := Go.Ground.data }], guard := none }) rfl (fun K' hK' => ?_) AllReadyH.nil
    go_simp
    go_at_call 5
    refine (num_x (by omega)).mono ?_
    rintro e wn0 ⟨rfl, bn0⟩
    have p0x := cell_later bn0 p0
    have p1x := cell_later bn0 p1
    clear hHeld
    refine hK'.out _ _ ⟨p0x, p1x⟩ (fun hHeld => ?_)
    clear hK' K'
    try simp only [Act.put, List.setIfInBounds_toArray, List.set_cons_zero, List.set_cons_succ]
    refine wpAnyH_ready (rs := [8]) (by kernel_rfl) (by simp) ?_
    refine AllReadyH.cons (o := { dst := some 132, op := Go.Op.call { callee := Go.Callee.value (Go.Operand.tmp 129), args := #[Go.Operand.tmp 131], argTypes := #[3] }, type := 26, pos := _, after := #[{ on := 5, ground := Go.Ground.data }, { on := 7, ground := Go.Ground.data }, { on := 4, ground := Go.Ground.chain }], guard := none }) rfl (fun K' hK' => ?_) AllReadyH.nil
    go_simp
    go_at_call 5
    refine (num_x (by omega)).mono ?_
    rintro e wn1 ⟨rfl, bn1⟩
    have p0xx := cell_later bn1 p0x
    have p1xx := cell_later bn1 p1x
    clear hHeld
    refine hK'.out _ _ ⟨p0xx, p1xx⟩ (fun hHeld => ?_)
    clear hK' K'
    try simp only [Act.put, List.setIfInBounds_toArray, List.set_cons_zero, List.set_cons_succ]
    refine wpAnyH_ready (rs := [9]) (by kernel_rfl) (by simp) ?_
    refine AllReadyH.cons (o := { dst := some 133, op := Go.Op.buildSlice 30 2 #[(0, Go.Operand.tmp 128), (1, Go.Operand.tmp 132)], type := 30, pos := _, after := #[{ on := 4, ground := Go.Ground.data }, { on := 8, ground := Go.Ground.data }], guard := none }) rfl (fun K' hK' => ?_) AllReadyH.nil
    go_simp
    have HB9 := hideIt ((then_ bn0 bn1))
    have HB9' := HB9.out
    have L9 := HL5.out.below (w' := wn1) ⟨HB9'.os, HB9'.tape, HB9'.output, HB9'.size, HB9'.block⟩
    have HO9 := hideIt L9.db
    have HL9 := hideIt L9
    have hw9 : w5.heap.size ≤ wn1.heap.size := HB9.out.size
    clear L9 HB9' bn0 bn1
    clear hHeld
    refine hK'.out _ _ ⟨cell_later (one_alloc _ _) p0xx, cell_later (one_alloc _ _) p1xx⟩ (fun hHeld => ?_)
    clear hK' K'
    try simp only [Act.put, List.setIfInBounds_toArray, List.set_cons_zero, List.set_cons_succ]
    refine wpAnyH_take (i := 10) (oi := { dst := some 134, op := Go.Op.build 34 #[(0, Go.Operand.const (Go.Value.string { data := #[101] })), (1, Go.Operand.tmp 133)], type := 34, pos := _, after := #[{ on := 9, ground := Go.Ground.data }], guard := none }) (v := ?vv49019) rfl (by kernel_rfl) (by kernel_rfl) (by kernel_rfl) (fun _ _ _ h => h) (Or.inl ⟨by rfl, ?hy49019⟩) (by assumption) ?tk49019
    case hy49019 => (intro w hSw; (try dsimp only at hSw); go_simp; (try with_reducible rfl))
    try simp only [Act.put, List.setIfInBounds_toArray, List.set_cons_zero, List.set_cons_succ]
    refine wpAnyH_ready (rs := [11]) (by kernel_rfl) (by simp) ?_
    refine AllReadyH.cons (o := { dst := some 135, op := Go.Op.buildSlice 40 1 #[(0, Go.Operand.tmp 134)], type := 40, pos := _, after := #[{ on := 10, ground := Go.Ground.data }], guard := none }) rfl (fun K' hK' => ?_) AllReadyH.nil
    go_simp
    clear hHeld
    refine hK'.out _ _ ⟨cell_later (one_alloc _ _) (cell_later (one_alloc _ _) p0xx), cell_later (one_alloc _ _) (cell_later (one_alloc _ _) p1xx)⟩ (fun hHeld => ?_)
    clear hK' K'
    try simp only [Act.put, List.setIfInBounds_toArray, List.set_cons_zero, List.set_cons_succ]
    refine wpAnyH_ready (rs := [12]) (by kernel_rfl) (by simp) ?_
    refine AllReadyH.cons (o := { dst := some 136, op := Go.Op.call { callee := Go.Callee.builtin Go.Builtin.append, args := #[Go.Operand.tmp 124, Go.Operand.tmp 135], argTypes := #[40, 40] }, type := 40, pos := _, after := #[{ on := 0, ground := Go.Ground.data }, { on := 11, ground := Go.Ground.data }, { on := 8, ground := Go.Ground.chain }], guard := none }) rfl (fun K' hK' => ?_) AllReadyH.nil
    refine ite_take (by rfl) ?_
    refine wp_append_own_at (.tmp 124) (.tmp 135) 40 rfl 0 34 i4 (.agg #[.string ByteArray.empty, .slice none 0 0]) 2 40 Tryz.underlying40 hi4 hy0 hy1 hy2 rfl (by decide) x.v9 x.n9 (dbL (fkN np) x.av x.n9) rfl ((HO9.out.alloc _).alloc _) ⟨wn1.heap.size + 1, 0, none⟩ 1 1 [.string (nmS 1), .slice (some ⟨wn1.heap.size, 0, none⟩) 2 2] rfl rfl (new_at2 _ _ _ _ _) (by simp [Value.oneCell']) (by unfold maxLen; omega) (by omega) (by simp <;> omega) ?_
    intro v9' w12 hown' hgrow hblk
    have kk0 := hgrow.cell (a := ⟨P, 0, none⟩) (hHeld.1) hrP
    have kk1 := hgrow.cell (a := ⟨P, 1, none⟩) (hHeld.2) hrP
    have HG := hideIt (And.intro hown' (And.intro hgrow hblk))
    clear hown' hgrow hblk
    clear hHeld
    refine hK'.out _ _ ⟨kk0, kk1⟩ (fun hHeld => ?_)
    clear hK' K'
    try simp only [Act.put, List.setIfInBounds_toArray, List.set_cons_zero, List.set_cons_succ]
    refine wpAnyH_take (i := 13) (oi := { dst := some 9, op := Go.Op.assign (Go.Operand.tmp 136), type := 40, pos := _, after := #[{ on := 12, ground := Go.Ground.data }, { on := 12, ground := Go.Ground.chain }, { on := 0, ground := Go.Ground.phase }, { on := 1, ground := Go.Ground.phase }, { on := 2, ground := Go.Ground.phase }, { on := 3, ground := Go.Ground.phase }, { on := 4, ground := Go.Ground.phase }, { on := 5, ground := Go.Ground.phase }, { on := 6, ground := Go.Ground.phase }, { on := 7, ground := Go.Ground.phase }, { on := 8, ground := Go.Ground.phase }, { on := 9, ground := Go.Ground.phase }, { on := 10, ground := Go.Ground.phase }, { on := 11, ground := Go.Ground.phase }, { on := 12, ground := Go.Ground.phase }], guard := none }) (v := ?vv49020) rfl (by kernel_rfl) (by kernel_rfl) (by kernel_rfl) (fun _ _ _ h => h) (Or.inl ⟨by rfl, ?hy49020⟩) (by assumption) ?tk49020
    case hy49020 => (intro w hSw; (try dsimp only at hSw); go_simp; (try with_reducible rfl))
    try simp only [Act.put, List.setIfInBounds_toArray, List.set_cons_zero, List.set_cons_succ]
    refine wpAnyH_done (by kernel_rfl) ?_ _
    clear hHeld
    go_wp2
    go_roundg (np - (j + 1))
    case measure => omega
    case rel =>
      obtain ⟨hown', hgrow, hblk⟩ := HG.out
      have L9 := HL9.out
      obtain ⟨e17, e9, e18, n18⟩ := HE.out
      rw [World.size_alloc, World.size_alloc] at hblk
      obtain ⟨W12, e12, hs12, hv12, hn12⟩ := fact_frame (w2 := wn1) (n4 := wn1.heap.size + 1 + 1) (fun q hq => (one_alloc (wn1.alloc _) _).block q (by simp; omega)) (then_ (one_alloc wn1 _) (one_alloc _ _)) ⟨by omega, by simp⟩ hgrow hblk (fun q hq => (L9.db.lt q hq).2)
      have ef : fkN np x.n9 = 1 := by rw [e9]; exact fkN_ee hjn
      have en : nnN np x.n9 = 2 := by unfold nnN; rw [ef]; rfl
      have AA : ArgAt w12 (.slice (some ⟨wn1.heap.size, 0, none⟩) 2 2) 2 (two a b) := arg_new e12 hs12 (fun j hj => by
        rcases (by omega : j = 0 ∨ j = 1) with h | h <;> (subst h; exact ⟨rfl, rfl, rfl, rfl⟩))
      have L12 := L9.fact (v := v9') (a := .slice (some ⟨wn1.heap.size, 0, none⟩) 2 2) (w' := w12) (by
        show w12.ownsRow 0 34 2 v9' (x.n9 + 1) (dbL (fkN np) x.av x.n9 ++ [.string (nmS (fkN np x.n9)), _])
        rw [ef]
        exact hown') (by
        show ArgAt w12 _ (nnN np x.n9) (updF x.fv x.n9 (two a b) x.n9)
        rw [en, updF_same]
        exact AA) hv12 (fun q hq => by
        have e : wn1.heap.size = q := Option.some.inj hq
        rw [← e]
        exact ⟨Nat.le_refl _, hn12⟩) W12
      exact ⟨j + 1, _, by omega, by go_num, rfl, rfl, L12, HV.out.next (by omega) (two_lt ha hb), by show x.n17 + 1 = j + 1; omega, by show x.n9 + 1 = 64 + (j + 1); omega, e18, n18⟩
  have ej : np = j := by omega
  subst ej
  clear hj hjn
  have hro := roll_any L.d (n := 8) (by omega) (by omega)
  have HL := hideIt (And.intro L V)
  clear L V H7
  obtain ⟨x0, hx0⟩ : ∃ x0, x0 = x := ⟨_, rfl⟩
  subst hx0
  go_wp2_with fail
  refine hro.mono ?_
  rintro e w8 ⟨mv, rfl, hmv, D8, W8⟩
  obtain ⟨L, V⟩ := HL.out
  have L8 := L.dice D8 W8
  obtain ⟨nt, hnt⟩ : ∃ nt : Nat, nt = 1 + mv := ⟨_, rfl⟩
  have hntI : (1 : Int) + (mv : Int) = (nt : Int) := by omega
  have hnt8 : 0 < nt ∧ nt ≤ 8 := by omega
  have H8 := hideIt (And.intro L8 V)
  have HM2 := hideIt hnt
  clear L V L8 D8 W8 hro HL hnt
  rename_i zD0 zD1 zD2 zD3 zD4 zD5 zD6 zD7 zD8 zD9 zD10 zD11 zD12 zD13 zD14 zD15 zD16 zD17 zD18 zD19 zD20 zD21 zD22 zD23 zD24 zD25 zD26 zD27 zD28 zD29 zD30 zD31 zD32 zD33 zD34 zD35 zD36 zD37 zD38 zD39 zD40
  clear zD0 zD1 zD2 zD3 zD4 zD5 zD6 zD7 zD8 zD9 zD10 zD11 zD12 zD13 zD14 zD15 zD16 zD17 zD18 zD19 zD20 zD21 zD22 zD23 zD24 zD25 zD26 av zC23 w7 gk wr zD29 zD30 zD31 zD32 zD33 zD34
  revert w p c zA0 u6 u44 u45 u46 u47 u48 u49 u50 u51 u52 u53 u54 u55 u56 u57 u58 u59 u60 i y HS hn zA9 zA10 zB0 u2 u7 u8 u11 u13 u14 u15 u16 u17 u18 u20 u21 u23 u25 u26 u27 u28 u29 u30 u31 u33 u62 u63 u64 u65 u66 u67 u68 u80 u97 u98 u99 u100 u101 u102 u103 u104 u105 u106 u107 u108 u109 u110 u111 u138 u139 u140 u141 u142 u143 u144 u145 u146 u147 u148 u149 u150 u151 u152 u153 u154 u155 u156 u157 u158 u159 u160 u161 u162 u163 u164 u165 u166 u167 u168 u169 u170 u171 u172 u173 u174 u175 u176 u177 u178 u179 u180 u181 u182 u183 u184 u185 u186 u187 u188 u189 u190 u191 u192 u193 u194 u195 u196 u197 u198 u199 u200 u201 u202 u203 u204 u205 u206 u207 u208 u209 u210 u211 u212 u213 u214 u215 u216 u217 u218 u219 u220 u221 u222 u223 u224 u225 u226 u227 u228 u229 u230 u231 u232 u233 u234 u235 u236 u237 u238 u239 u240 u241 u242 u243 u244 u245 u246 u247 u248 u249 u250 u251 u252 u253 u254 u255 u256 u257 u258 u259 u260 u261 u262 u263 u264 u265 u266 u267 u268 u269 u270 u271 u272 u273 u274 u275 u276 u277 u278 u279 u280 zA11 zA12 zA13 zA14 k hk hkn k0 k1 wk HB zA15 zA16 B hB i4 hi4 hy0 hy1 hy2 u9 u10 u69 u70 u71 u72 u73 u74 u75 u76 u77 u78 u79 wa G hG hBa hBG i3 hi3 hz0 hz1 hz2 u12 u81 u82 u83 u84 u85 u86 u87 u88 u89 u90 u91 u92 u93 u94 u95 u96 gp wb hGb w5 ov hov fs sn hBX o0 o1 HOr zD27 zD28 np hnpI hnp4 HM hfs hsn i44 hi44 hp0 hp1 hp2 i47 hi47 hq0 hq1 hq2 u19 u112 u113 u114 u115 u116 u117 u118 u119 u120 u121 u122 u123 u124 u125 u126 u127 u128 u129 u130 u131 u132 u133 u134 u135 u136 u137 x0 e18 n18 e17 e9 zD35 zD36 zD37 zD38 zD39 zD40 w8 mv hmv nt hntI hnt8 H8 HM2
  exact @key.out
end Go.Proofs.Qxb6500880aGreat
