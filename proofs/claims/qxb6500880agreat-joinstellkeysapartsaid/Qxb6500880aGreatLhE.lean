import Derived.Deep.CutBlock
import Derived.OwnWalk
import Derived.Maps.AppendAt
import Derived.Maps.OwnSet
import Derived.Maps.OwnOps
import Derived.Laws.ResultCell
import Derived.Laws.AppendOwnNone
import Derived.Test.Qxb6500880aGreatLhD
set_option linter.unusedVariables false
set_option linter.unusedSimpArgs false
namespace Go.Proofs.Qxb6500880aGreat
open Go.RowKit

set_option maxRecDepth 20000 in
set_option maxHeartbeats 40000000 in
def pkgE : Part (pkgD.need) := by
  apply Part.mk
  case thus =>
  intro key
  intro w p c zA0 u6 u44 u45 u46 u47 u48 u49 u50 u51 u52 u53 u54 u55 u56 u57 u58 u59 u60 i y HS hn zA9 zA10 zB0 u2 u7 u8 u11 u13 u14 u15 u16 u17 u18 u20 u21 u23 u25 u26 u27 u28 u29 u30 u31 u33 u62 u63 u64 u65 u66 u67 u68 u80 u97 u98 u99 u100 u101 u102 u103 u104 u105 u106 u107 u108 u109 u110 u111 u138 u139 u140 u141 u142 u143 u144 u145 u146 u147 u148 u149 u150 u151 u152 u153 u154 u155 u156 u157 u158 u159 u160 u161 u162 u163 u164 u165 u166 u167 u168 u169 u170 u171 u172 u173 u174 u175 u176 u177 u178 u179 u180 u181 u182 u183 u184 u185 u186 u187 u188 u189 u190 u191 u192 u193 u194 u195 u196 u197 u198 u199 u200 u201 u202 u203 u204 u205 u206 u207 u208 u209 u210 u211 u212 u213 u214 u215 u216 u217 u218 u219 u220 u221 u222 u223 u224 u225 u226 u227 u228 u229 u230 u231 u232 u233 u234 u235 u236 u237 u238 u239 u240 u241 u242 u243 u244 u245 u246 u247 u248 u249 u250 u251 u252 u253 u254 u255 u256 u257 u258 u259 u260 u261 u262 u263 u264 u265 u266 u267 u268 u269 u270 u271 u272 u273 u274 u275 u276 u277 u278 u279 u280 zA11 zA12 zA13 zA14 k hk hkn k0 k1 wk HB zA15 zA16 B hB i4 hi4 hy0 hy1 hy2 u9 u10 u69 u70 u71 u72 u73 u74 u75 u76 u77 u78 u79 wa G hG hBa hBG i3 hi3 hz0 hz1 hz2 u12 u81 u82 u83 u84 u85 u86 u87 u88 u89 u90 u91 u92 u93 u94 u95 u96 gp wb hGb w5 ov hov fs sn hBX o0 o1 HOr zD27 zD28 np hnpI hnp4 HM hfs hsn i44 hi44 hp0 hp1 hp2 i47 hi47 hq0 hq1 hq2 u19 u112 u113 u114 u115 u116 u117 u118 u119 u120 u121 u122 u123 u124 u125 u126 u127 u128 u129 u130 u131 u132 u133 u134 u135 u136 u137 x0 e18 n18 e17 e9 zD35 zD36 zD37 zD38 zD39 zD40 w8 mv hmv nt hntI hnt8 H8 HM2
  go_wp2_with fail
  go_loopg [140, 18, 9] nt (fun gg v v18 v9 wr => ∃ (j : Nat) (x : LX), j + gg = nt ∧ v = .int .i64 (j : Int) ∧ v18 = x.v18 ∧ v9 = x.v9 ∧ LAt wr wk B G np gp x ∧ VOk np x ∧ x.n18 = j ∧ x.n9 = 64 + np + j ∧ x.n17 = np ∧ x.v17 = x0.v17)
  case atStart =>
    obtain ⟨L8, V⟩ := H8.out
    exact ⟨0, x0, by omega, rfl, e18.symm, rfl, L8, V, n18, by omega, e17, rfl⟩
  case round =>
  have e9x := e9
  have e17x := e17
  have n18x := n18
  clear e9 e17 n18
  obtain ⟨j, x, hj, rfl, rfl, rfl, L, V, n18, e9, e17, v17⟩ := hrel
  by_cases hjn : j < nt
  · skip
    have j0 : (0 : Int) ≤ j := by omega
    have j1 : (j : Int) < (nt : Int) := by omega
    have HL1 := hideIt L
    have HV := hideIt V
    have HE := hideIt (And.intro n18 (And.intro e9 (And.intro e17 v17)))
    have hI1 : 64 + x.n17 ≤ x.n9 := by omega
    have hI2 := hideIt (show x.n18 = 0 ∨ 64 + np + x.n18 ≤ x.n9 from .inr (by omega))
    have hI3 := hideIt (show 64 + np + x.n18 = x.n9 by omega)
    have hI4 : x.n18 ≤ 8 ∧ x.n9 ≤ 90 := by omega
    clear L V n18 e9 e17 v17
    have hd0 : Calls Tryz.prog 7 #[.int .i64 0, .pointer (some ⟨G, 0, none⟩), .pointer (some ⟨B, 0, none⟩)] wr _ := draw_any HL1.out.ch HL1.out.d (col := 0) (by omega)
    go_wp2_with fail
    refine hd0.mono ?_
    rintro e wd1 ⟨a, rfl, ha, D0, W0⟩
    have HL2 := hideIt (HL1.out.dice D0 W0)
    clear D0 W0 hd0 HL1
    have hd1 : Calls Tryz.prog 7 #[.int .i64 1, .pointer (some ⟨G, 0, none⟩), .pointer (some ⟨B, 0, none⟩)] wd1 _ := draw_any HL2.out.ch HL2.out.d (col := 1) (by omega)
    go_wp2_with fail
    refine hd1.mono ?_
    rintro e wd2 ⟨b, rfl, hb, D1, W1⟩
    have HL3 := hideIt (HL2.out.dice D1 W1)
    clear D1 W1 hd1 HL2
    have hd2 : Calls Tryz.prog 7 #[.int .i64 2, .pointer (some ⟨G, 0, none⟩), .pointer (some ⟨B, 0, none⟩)] wd2 _ := draw_any HL3.out.ch HL3.out.d (col := 2) (by omega)
    go_wp2_with fail
    refine hd2.mono ?_
    rintro e w3 ⟨d, rfl, hd, D2, W2⟩
    have HL3x := hideIt (HL3.out.dice D2 W2)
    clear D2 W2 hd2 HL3
    have bP := one_alloc w3 (.cells #[.int .i64 (a : Int), .int .i64 (b : Int), .int .i64 (d : Int)] 47)
    have L4 := (HL3x.out.below bP).setv (three a b d) hI1 hI2.out
    have hlt : ∀ q, x.v18.ownBlock = some q → q < w3.heap.size := fun q hq => (HL3x.out.t.lt q hq).2
    have hl9 : ∀ q, x.v9.ownBlock = some q → q < w3.heap.size := fun q hq => (HL3x.out.db.lt q hq).2
    have p0 : (w3.alloc (.cells #[.int .i64 (a : Int), .int .i64 (b : Int), .int .i64 (d : Int)] 47)).cell? ⟨w3.heap.size, 0, none⟩ = some (.int .i64 (a : Int)) := new_cell rfl _ _ 0
    have p1 : (w3.alloc (.cells #[.int .i64 (a : Int), .int .i64 (b : Int), .int .i64 (d : Int)] 47)).cell? ⟨w3.heap.size, 1, none⟩ = some (.int .i64 (b : Int)) := new_cell rfl _ _ 1
    have p2 : (w3.alloc (.cells #[.int .i64 (a : Int), .int .i64 (b : Int), .int .i64 (d : Int)] 47)).cell? ⟨w3.heap.size, 2, none⟩ = some (.int .i64 (d : Int)) := new_cell rfl _ _ 2
    have hs4 : w3.heap.size < (w3.alloc (.cells #[.int .i64 (a : Int), .int .i64 (b : Int), .int .i64 (d : Int)] 47)).heap.size := by simp
    have HL4 := hideIt L4
    have Hlt := hideIt (And.intro hlt hl9)
    clear L4 bP HL3x hlt hl9
    go_upto_region 43 with fail
    generalize w3.alloc (.cells #[.int .i64 (a : Int), .int .i64 (b : Int), .int .i64 (d : Int)] 47) = w4 at *
    generalize hP : w3.heap.size = P at *
    go_wp2_with (first | (at_builtin; refine wpList_append_own_at _ rfl (.tmp 149) (.tmp 151) 46 rfl 0 47 i47 (.agg #[.int .i64 0, .int .i64 0, .int .i64 0]) 3 24 Tryz.underlying46 hi47 hq0 hq1 hq2 rfl (by decide) x.v18 x.n18 (tL (fun i => updF x.fv x.n9 (three a b d) (64 + np + i)) x.n18) rfl (HL4.out.t.alloc _) ⟨w4.heap.size, 0, none⟩ 1 1 [.int .i64 (a : Int), .int .i64 (b : Int), .int .i64 (d : Int)] rfl rfl (cell_newL3 _ _ _ _ _ ) (by simp [Value.oneCell']) (by unfold maxLen; omega) (by omega) (by simp <;> omega) ?_) | go_in)
    intro v' w5 hown' hgrow hiff hblk
    have bN := one_alloc w4 (.cells #[.int .i64 (a : Int), .int .i64 (b : Int), .int .i64 (d : Int)] 47)
    have hsN : (w4.alloc (.cells #[.int .i64 (a : Int), .int .i64 (b : Int), .int .i64 (d : Int)] 47)).heap.size = w4.heap.size + 1 := by simp
    have hs5 := hgrow.size
    obtain ⟨hlt, hl9⟩ := Hlt.out
    have e5P : w5.heap[P]? = w4.heap[P]? := (hgrow.block P (by omega) (fun e => by have := hlt P e.symm; omega)).trans (bN.block P (by omega))
    have L5 := HL4.out.trips (v := v') (n := x.n18 + 1) (w' := w5) (by
      show w5.ownsRow 0 47 3 v' (x.n18 + 1) (tL (fun i => updF x.fv x.n9 (three a b d) (64 + np + i)) (x.n18 + 1))
      unfold tL
      rw [hI3.out, updF_same]
      exact hown') (fun q hq => by
      rcases hblk with z | z
      · exact .inl (z ▸ hq)
      · rw [z] at hq
        have := Option.some.inj hq
        exact .inr (by omega)) ((Ws.of_below bN).grow hgrow (fun q hq => .inl hq))
    have HL5 := hideIt L5
    have hP5 : P < w5.heap.size := by omega
    replace p0 := (World.cell?_of_block (a := ⟨P, 0, none⟩) e5P).trans p0
    replace p1 := (World.cell?_of_block (a := ⟨P, 1, none⟩) e5P).trans p1
    replace p2 := (World.cell?_of_block (a := ⟨P, 2, none⟩) e5P).trans p2
    have hrP : some P ≠ x.v9.ownBlock := fun e => by have := hl9 P e.symm; omega
    clear hown' hgrow hiff hblk bN hsN e5P L5 HL4 hlt hl9 hs5
    go_upto_region 44 with fail
    refine wp_region_held_drew (S := (fun w' => w'.cell? ⟨P, 0, none⟩ = some (.int .i64 (a : Int)) ∧ w'.cell? ⟨P, 1, none⟩ = some (.int .i64 (b : Int)) ∧ w'.cell? ⟨P, 2, none⟩ = some (.int .i64 (d : Int)))) (by kernel_rfl) ⟨p0, p1, p2⟩ (fun hHeld => ?_)
    refine wpAnyH_take (i := 0) (oi := { dst := some 153, op := Go.Op.move (Go.Operand.tmp 9), type := 40, pos := _, after := #[], guard := none }) (v := ?vv49021) rfl (by kernel_rfl) (by kernel_rfl) (by kernel_rfl) (fun _ _ _ h => h) (Or.inl ⟨by rfl, ?hy49021⟩) (by assumption) ?tk49021
    case hy49021 => (intro w hSw; (try dsimp only at hSw); go_simp; (try with_reducible rfl))
    try simp only [Act.put, List.setIfInBounds_toArray, List.set_cons_zero, List.set_cons_succ]
    refine wpAnyH_take (i := 1) (oi := { dst := some 154, op := Go.Op.move (Go.Operand.tmp 3), type := 27, pos := _, after := #[], guard := none }) (v := ?vv49022) rfl (by kernel_rfl) (by kernel_rfl) (by kernel_rfl) (fun _ _ _ h => h) (Or.inl ⟨by rfl, ?hy49022⟩) (by assumption) ?tk49022
    case hy49022 => (intro w hSw; (try dsimp only at hSw); go_simp; (try with_reducible rfl))
    try simp only [Act.put, List.setIfInBounds_toArray, List.set_cons_zero, List.set_cons_succ]
    refine wpAnyH_take (i := 2) (oi := { dst := some 155, op := Go.Op.indexAddr 47 (Go.Operand.tmp 20) (Go.Operand.const (Go.Value.int Go.IntKind.i64 0)), type := 0, pos := _, after := #[], guard := none }) (v := ?vv49023) rfl (by kernel_rfl) (by kernel_rfl) (by kernel_rfl) (fun _ _ _ h => h) (Or.inl ⟨by rfl, ?hy49023⟩) (by assumption) ?tk49023
    case hy49023 => (intro w hSw; (try dsimp only at hSw); go_simp; (try with_reducible rfl))
    try simp only [Act.put, List.setIfInBounds_toArray, List.set_cons_zero, List.set_cons_succ]
    refine wpAnyH_take (i := 3) (oi := { dst := some 156, op := Go.Op.load 3 (Go.Operand.tmp 155), type := 3, pos := _, after := #[{ on := 2, ground := Go.Ground.data }], guard := none }) (v := ?vv49024) rfl (by kernel_rfl) (by kernel_rfl) (by kernel_rfl) (fun _ _ _ h => h) (Or.inl ⟨by rfl, ?hy49024⟩) (by assumption) ?tk49024
    case hy49024 => (intro w hSw; (try dsimp only at hSw); go_simp; (try with_reducible rfl))
    try simp only [Act.put, List.setIfInBounds_toArray, List.set_cons_zero, List.set_cons_succ]
    refine wpAnyH_take (i := 5) (oi := { dst := some 158, op := Go.Op.move (Go.Operand.tmp 3), type := 27, pos := _, after := #[], guard := none }) (v := ?vv49025) rfl (by kernel_rfl) (by kernel_rfl) (by kernel_rfl) (fun _ _ _ h => h) (Or.inl ⟨by rfl, ?hy49025⟩) (by assumption) ?tk49025
    case hy49025 => (intro w hSw; (try dsimp only at hSw); go_simp; (try with_reducible rfl))
    try simp only [Act.put, List.setIfInBounds_toArray, List.set_cons_zero, List.set_cons_succ]
    refine wpAnyH_take (i := 6) (oi := { dst := some 159, op := Go.Op.indexAddr 47 (Go.Operand.tmp 20) (Go.Operand.const (Go.Value.int Go.IntKind.i64 1)), type := 0, pos := _, after := #[], guard := none }) (v := ?vv49026) rfl (by kernel_rfl) (by kernel_rfl) (by kernel_rfl) (fun _ _ _ h => h) (Or.inl ⟨by rfl, ?hy49026⟩) (by assumption) ?tk49026
    case hy49026 => (intro w hSw; (try dsimp only at hSw); go_simp; (try with_reducible rfl))
    try simp only [Act.put, List.setIfInBounds_toArray, List.set_cons_zero, List.set_cons_succ]
    refine wpAnyH_take (i := 7) (oi := { dst := some 160, op := Go.Op.load 3 (Go.Operand.tmp 159), type := 3, pos := _, after := #[{ on := 6, ground := Go.Ground.data }], guard := none }) (v := ?vv49027) rfl (by kernel_rfl) (by kernel_rfl) (by kernel_rfl) (fun _ _ _ h => h) (Or.inl ⟨by rfl, ?hy49027⟩) (by assumption) ?tk49027
    case hy49027 => (intro w hSw; (try dsimp only at hSw); go_simp; (try with_reducible rfl))
    try simp only [Act.put, List.setIfInBounds_toArray, List.set_cons_zero, List.set_cons_succ]
    refine wpAnyH_take (i := 9) (oi := { dst := some 162, op := Go.Op.move (Go.Operand.tmp 3), type := 27, pos := _, after := #[], guard := none }) (v := ?vv49028) rfl (by kernel_rfl) (by kernel_rfl) (by kernel_rfl) (fun _ _ _ h => h) (Or.inl ⟨by rfl, ?hy49028⟩) (by assumption) ?tk49028
    case hy49028 => (intro w hSw; (try dsimp only at hSw); go_simp; (try with_reducible rfl))
    try simp only [Act.put, List.setIfInBounds_toArray, List.set_cons_zero, List.set_cons_succ]
    refine wpAnyH_take (i := 10) (oi := { dst := some 163, op := Go.Op.indexAddr 47 (Go.Operand.tmp 20) (Go.Operand.const (Go.Value.int Go.IntKind.i64 2)), type := 0, pos := _, after := #[], guard := none }) (v := ?vv49029) rfl (by kernel_rfl) (by kernel_rfl) (by kernel_rfl) (fun _ _ _ h => h) (Or.inl ⟨by rfl, ?hy49029⟩) (by assumption) ?tk49029
    case hy49029 => (intro w hSw; (try dsimp only at hSw); go_simp; (try with_reducible rfl))
    try simp only [Act.put, List.setIfInBounds_toArray, List.set_cons_zero, List.set_cons_succ]
    refine wpAnyH_take (i := 11) (oi := { dst := some 164, op := Go.Op.load 3 (Go.Operand.tmp 163), type := 3, pos := _, after := #[{ on := 10, ground := Go.Ground.data }], guard := none }) (v := ?vv49030) rfl (by kernel_rfl) (by kernel_rfl) (by kernel_rfl) (fun _ _ _ h => h) (Or.inl ⟨by rfl, ?hy49030⟩) (by assumption) ?tk49030
    case hy49030 => (intro w hSw; (try dsimp only at hSw); go_simp; (try with_reducible rfl))
    try simp only [Act.put, List.setIfInBounds_toArray, List.set_cons_zero, List.set_cons_succ]
    refine wpAnyH_ready (rs := [4]) (by kernel_rfl) (by simp) ?_
    refine AllReadyH.cons (o := { dst := some 157, op := Go.Op.call { callee := Go.Callee.value (Go.Operand.tmp 154), args := #[Go.Operand.tmp 156], argTypes := #[3] }, type := 26, pos := _, after := #[{ on := 1, ground := Go.Ground.data }, { on := 3, ground := Go.Ground.data }], guard := none }) rfl (fun K' hK' => ?_) AllReadyH.nil
    go_simp
    go_at_call 5
    refine (num_x (by omega)).mono ?_
    rintro e wn0 ⟨rfl, bn0⟩
    have p0x := cell_later bn0 p0
    have p1x := cell_later bn0 p1
    have p2x := cell_later bn0 p2
    clear hHeld
    refine hK'.out _ _ ⟨p0x, p1x, p2x⟩ (fun hHeld => ?_)
    clear hK' K'
    try simp only [Act.put, List.setIfInBounds_toArray, List.set_cons_zero, List.set_cons_succ]
    refine wpAnyH_ready (rs := [8]) (by kernel_rfl) (by simp) ?_
    refine AllReadyH.cons (o := { dst := some 161, op := Go.Op.call { callee := Go.Callee.value (Go.Operand.tmp 158), args := #[Go.Operand.tmp 160], argTypes := #[3] }, type := 26, pos := _, after := #[{ on := 5, ground := Go.Ground.data }, { on := 7, ground := Go.Ground.data }, { on := 4, ground := Go.Ground.chain }], guard := none }) rfl (fun K' hK' => ?_) AllReadyH.nil
    go_simp
    go_at_call 5
    refine (num_x (by omega)).mono ?_
    rintro e wn1 ⟨rfl, bn1⟩
    have p0xx := cell_later bn1 p0x
    have p1xx := cell_later bn1 p1x
    have p2xx := cell_later bn1 p2x
    clear hHeld
    refine hK'.out _ _ ⟨p0xx, p1xx, p2xx⟩ (fun hHeld => ?_)
    clear hK' K'
    try simp only [Act.put, List.setIfInBounds_toArray, List.set_cons_zero, List.set_cons_succ]
    refine wpAnyH_ready (rs := [12]) (by kernel_rfl) (by simp) ?_
    refine AllReadyH.cons (o := { dst := some 165, op := Go.Op.call { callee := Go.Callee.value (Go.Operand.tmp 162), args := #[Go.Operand.tmp 164], argTypes := #[3] }, type := 26, pos := _, after := #[{ on := 9, ground := Go.Ground.data }, { on := 11, ground := Go.Ground.data }, { on := 8, ground := Go.Ground.chain }], guard := none }) rfl (fun K' hK' => ?_) AllReadyH.nil
    go_simp
    go_at_call 5
    refine (num_x (by omega)).mono ?_
    rintro e wn2 ⟨rfl, bn2⟩
    have p0xxx := cell_later bn2 p0xx
    have p1xxx := cell_later bn2 p1xx
    have p2xxx := cell_later bn2 p2xx
    clear hHeld
    refine hK'.out _ _ ⟨p0xxx, p1xxx, p2xxx⟩ (fun hHeld => ?_)
    clear hK' K'
    try simp only [Act.put, List.setIfInBounds_toArray, List.set_cons_zero, List.set_cons_succ]
    refine wpAnyH_ready (rs := [13]) (by kernel_rfl) (by simp) ?_
    refine AllReadyH.cons (o := { dst := some 166, op := Go.Op.buildSlice 30 3 #[(0, Go.Operand.tmp 157), (1, Go.Operand.tmp 161), (2, Go.Operand.tmp 165)], type := 30, pos := _, after := #[{ on := 4, ground := Go.Ground.data }, { on := 8, ground := Go.Ground.data }, { on := 12, ground := Go.Ground.data }], guard := none }) rfl (fun K' hK' => ?_) AllReadyH.nil
    go_simp
    have HB9 := hideIt ((then_ (then_ bn0 bn1) bn2))
    have HB9' := HB9.out
    have L9 := HL5.out.below (w' := wn2) ⟨HB9'.os, HB9'.tape, HB9'.output, HB9'.size, HB9'.block⟩
    have HO9 := hideIt L9.db
    have HL9 := hideIt L9
    have hw9 : w5.heap.size ≤ wn2.heap.size := HB9.out.size
    clear L9 HB9' bn0 bn1 bn2
    clear hHeld
    refine hK'.out _ _ ⟨cell_later (one_alloc _ _) p0xxx, cell_later (one_alloc _ _) p1xxx, cell_later (one_alloc _ _) p2xxx⟩ (fun hHeld => ?_)
    clear hK' K'
    try simp only [Act.put, List.setIfInBounds_toArray, List.set_cons_zero, List.set_cons_succ]
    refine wpAnyH_take (i := 14) (oi := { dst := some 167, op := Go.Op.build 34 #[(0, Go.Operand.const (Go.Value.string { data := #[99] })), (1, Go.Operand.tmp 166)], type := 34, pos := _, after := #[{ on := 13, ground := Go.Ground.data }], guard := none }) (v := ?vv49031) rfl (by kernel_rfl) (by kernel_rfl) (by kernel_rfl) (fun _ _ _ h => h) (Or.inl ⟨by rfl, ?hy49031⟩) (by assumption) ?tk49031
    case hy49031 => (intro w hSw; (try dsimp only at hSw); go_simp; (try with_reducible rfl))
    try simp only [Act.put, List.setIfInBounds_toArray, List.set_cons_zero, List.set_cons_succ]
    refine wpAnyH_ready (rs := [15]) (by kernel_rfl) (by simp) ?_
    refine AllReadyH.cons (o := { dst := some 168, op := Go.Op.buildSlice 40 1 #[(0, Go.Operand.tmp 167)], type := 40, pos := _, after := #[{ on := 14, ground := Go.Ground.data }], guard := none }) rfl (fun K' hK' => ?_) AllReadyH.nil
    go_simp
    clear hHeld
    refine hK'.out _ _ ⟨cell_later (one_alloc _ _) (cell_later (one_alloc _ _) p0xxx), cell_later (one_alloc _ _) (cell_later (one_alloc _ _) p1xxx), cell_later (one_alloc _ _) (cell_later (one_alloc _ _) p2xxx)⟩ (fun hHeld => ?_)
    clear hK' K'
    try simp only [Act.put, List.setIfInBounds_toArray, List.set_cons_zero, List.set_cons_succ]
    refine wpAnyH_ready (rs := [16]) (by kernel_rfl) (by simp) ?_
    refine AllReadyH.cons (o := { dst := some 169, op := Go.Op.call { callee := Go.Callee.builtin Go.Builtin.append, args := #[Go.Operand.tmp 153, Go.Operand.tmp 168], argTypes := #[40, 40] }, type := 40, pos := _, after := #[{ on := 0, ground := Go.Ground.data }, { on := 15, ground := Go.Ground.data }, { on := 12, ground := Go.Ground.chain }], guard := none }) rfl (fun K' hK' => ?_) AllReadyH.nil
    refine ite_take (by rfl) ?_
    refine wp_append_own_at (.tmp 153) (.tmp 168) 40 rfl 0 34 i4 (.agg #[.string ByteArray.empty, .slice none 0 0]) 2 40 Tryz.underlying40 hi4 hy0 hy1 hy2 rfl (by decide) x.v9 x.n9 (dbL (fkN np) x.av x.n9) rfl ((HO9.out.alloc _).alloc _) ⟨wn2.heap.size + 1, 0, none⟩ 1 1 [.string (nmS 0), .slice (some ⟨wn2.heap.size, 0, none⟩) 3 3] rfl rfl (new_at2 _ _ _ _ _) (by simp [Value.oneCell']) (by unfold maxLen; omega) (by omega) (by simp <;> omega) ?_
    intro v9' w12 hown' hgrow hblk
    have kk0 := hgrow.cell (a := ⟨P, 0, none⟩) (hHeld.1) hrP
    have kk1 := hgrow.cell (a := ⟨P, 1, none⟩) (hHeld.2.1) hrP
    have kk2 := hgrow.cell (a := ⟨P, 2, none⟩) (hHeld.2.2) hrP
    have HG := hideIt (And.intro hown' (And.intro hgrow hblk))
    clear hown' hgrow hblk
    clear hHeld
    refine hK'.out _ _ ⟨kk0, kk1, kk2⟩ (fun hHeld => ?_)
    clear hK' K'
    try simp only [Act.put, List.setIfInBounds_toArray, List.set_cons_zero, List.set_cons_succ]
    refine wpAnyH_take (i := 17) (oi := { dst := some 9, op := Go.Op.assign (Go.Operand.tmp 169), type := 40, pos := _, after := #[{ on := 16, ground := Go.Ground.data }, { on := 16, ground := Go.Ground.chain }, { on := 0, ground := Go.Ground.phase }, { on := 1, ground := Go.Ground.phase }, { on := 2, ground := Go.Ground.phase }, { on := 3, ground := Go.Ground.phase }, { on := 4, ground := Go.Ground.phase }, { on := 5, ground := Go.Ground.phase }, { on := 6, ground := Go.Ground.phase }, { on := 7, ground := Go.Ground.phase }, { on := 8, ground := Go.Ground.phase }, { on := 9, ground := Go.Ground.phase }, { on := 10, ground := Go.Ground.phase }, { on := 11, ground := Go.Ground.phase }, { on := 12, ground := Go.Ground.phase }, { on := 13, ground := Go.Ground.phase }, { on := 14, ground := Go.Ground.phase }, { on := 15, ground := Go.Ground.phase }, { on := 16, ground := Go.Ground.phase }], guard := none }) (v := ?vv49032) rfl (by kernel_rfl) (by kernel_rfl) (by kernel_rfl) (fun _ _ _ h => h) (Or.inl ⟨by rfl, ?hy49032⟩) (by assumption) ?tk49032
    case hy49032 => (intro w hSw; (try dsimp only at hSw); go_simp; (try with_reducible rfl))
    try simp only [Act.put, List.setIfInBounds_toArray, List.set_cons_zero, List.set_cons_succ]
    refine wpAnyH_done (by kernel_rfl) ?_ _
    clear hHeld
    go_wp2
    go_roundg (nt - (j + 1))
    case measure => omega
    case rel =>
      obtain ⟨hown', hgrow, hblk⟩ := HG.out
      have L9 := HL9.out
      obtain ⟨n18, e9, e17, v17⟩ := HE.out
      rw [World.size_alloc, World.size_alloc] at hblk
      obtain ⟨W12, e12, hs12, hv12, hn12⟩ := fact_frame (w2 := wn2) (n4 := wn2.heap.size + 1 + 1) (fun q hq => (one_alloc (wn2.alloc _) _).block q (by simp; omega)) (then_ (one_alloc wn2 _) (one_alloc _ _)) ⟨by omega, by simp⟩ hgrow hblk (fun q hq => (L9.db.lt q hq).2)
      have ef : fkN np x.n9 = 0 := by rw [e9]; exact fkN_cc
      have en : nnN np x.n9 = 3 := by unfold nnN; rw [ef]; rfl
      have AA : ArgAt w12 (.slice (some ⟨wn2.heap.size, 0, none⟩) 3 3) 3 (three a b d) := arg_new e12 hs12 (fun j hj => by
        rcases (by omega : j = 0 ∨ j = 1 ∨ j = 2) with h | h | h <;> (subst h; exact ⟨rfl, rfl, rfl, rfl⟩))
      have L12 := L9.fact (v := v9') (a := .slice (some ⟨wn2.heap.size, 0, none⟩) 3 3) (w' := w12) (by
        show w12.ownsRow 0 34 2 v9' (x.n9 + 1) (dbL (fkN np) x.av x.n9 ++ [.string (nmS (fkN np x.n9)), _])
        rw [ef]
        exact hown') (by
        show ArgAt w12 _ (nnN np x.n9) (updF x.fv x.n9 (three a b d) x.n9)
        rw [en, updF_same]
        exact AA) hv12 (fun q hq => by
        have e : wn2.heap.size = q := Option.some.inj hq
        rw [← e]
        exact ⟨Nat.le_refl _, hn12⟩) W12
      exact ⟨j + 1, _, by omega, by go_num, rfl, rfl, L12, HV.out.next (by omega) (three_lt ha hb hd), by show x.n18 + 1 = j + 1; omega, by show x.n9 + 1 = 64 + np + (j + 1); omega, e17, v17⟩
  have ej : nt = j := by omega
  subst ej
  clear hj hjn
  obtain ⟨wz, hwz⟩ : ∃ wz, wz = wr := ⟨_, rfl⟩
  subst hwz
  obtain ⟨g17, c17, ev17, _, _, hg17, hc17, _⟩ := own_full L.p (by omega)
  obtain ⟨g18, c18, ev18, _, _, hg18, hc18, _⟩ := own_full L.t (by omega)
  have hp : ∀ i t, i < np → t < 2 → wz.cell? ⟨g17, i * 2 + t, none⟩ = some (.int .i64 (x.fv (64 + i) t : Int)) := fun i t hi ht => (hc17 (i * 2 + t) (by omega)).trans (pL_get _ _ i t (by omega) ht)
  have ht : ∀ i t, i < nt → t < 3 → wz.cell? ⟨g18, i * 3 + t, none⟩ = some (.int .i64 (x.fv (64 + np + i) t : Int)) := fun i t hi ht => (hc18 (i * 3 + t) (by omega)).trans (tL_get _ _ i t (by omega) ht)
  have ev17' : x0.v17 = .slice (some ⟨g17, 0, none⟩) np c17 := by rw [← v17, ev17, e17]
  have ev18' : x.v18 = .slice (some ⟨g18, 0, none⟩) nt c18 := by rw [ev18, n18]
  have HPT := hideIt (And.intro hp ht)
  have HW := hideIt (WS.start (w8 := wz) (np := np) (nt := nt) (fs := fs) (sn := sn) (fv := x.fv))
  have HLV := hideIt (And.intro L (And.intro V (And.intro n18 (And.intro e9 (And.intro e17 v17)))))
  have hmm := @run_makeMap Tryz.prog
  have f0 : (0 : Int) ≤ fs := by omega
  have f1 : (fs : Int) < 3 := by omega
  have s0 : (0 : Int) ≤ sn := by omega
  have s1 : (sn : Int) < 3 := by omega
  rw [ev17', ev18']
  clear L V n18 e9 e17 v17 hp ht ev17 ev18 hc17 hc18 ev17' ev18' e9x e17x n18x e18 H8
  go_upto_region 47 with fail
  generalize wz.alloc (.map #[] 0) = wy at *
  generalize hM : wz.heap.size = M at *
  clear hmm
  rename_i zE0 zE1 zE2 zE3 zE4 zE5 zE6 zE7 zE8 zE9 zE10 zE11 zE12 zE13 zE14 zE15 zE16 zE17 zE18 zE19 zE20 zE21 zE22 zE23 zE24 zE25 zE26 zE27 zE28 zE29 zE30 zE31 zE32 zE33 zE34 zE35 zE36 zE37 zE38 zE39 zE40 zE41 zE42 zE43 zE44 zE45 zE46
  clear zE0 zE1 zE2 zE3 zE4 zE5 zE6 zE7 zE8 zE9 zE10 zE11 zE12 zE13 zE14 zE15 zE16 zE17 zE18 zE19 zE20 zE21 zE22 zE23 zE24 zE25 zE26 zE27 zE28 zE29 zE30 zD35 w8 gk zE31 zE32 zE33 zE34 zE41 zE42
  revert w p c zA0 u6 u44 u45 u46 u47 u48 u49 u50 u51 u52 u53 u54 u55 u56 u57 u58 u59 u60 i y HS hn zA9 zA10 zB0 u2 u7 u8 u11 u13 u14 u15 u16 u17 u18 u21 u23 u25 u26 u27 u28 u29 u30 u31 u33 u62 u63 u64 u65 u66 u67 u68 u80 u97 u98 u99 u100 u101 u102 u103 u104 u105 u106 u107 u108 u109 u110 u111 u138 u139 u140 u171 u172 u173 u174 u175 u176 u177 u178 u179 u180 u181 u182 u183 u184 u185 u186 u187 u188 u189 u190 u191 u192 u193 u194 u195 u196 u197 u198 u199 u200 u201 u202 u203 u204 u205 u206 u207 u208 u209 u210 u211 u212 u213 u214 u215 u216 u217 u218 u219 u220 u221 u222 u223 u224 u225 u226 u227 u228 u229 u230 u231 u232 u233 u234 u235 u236 u237 u238 u239 u240 u241 u242 u243 u244 u245 u246 u247 u248 u249 u250 u251 u252 u253 u254 u255 u256 u257 u258 u259 u260 u261 u262 u263 u264 u265 u266 u267 u268 u269 u270 u271 u272 u273 u274 u275 u276 u277 u278 u279 u280 zA11 zA12 zA13 zA14 k hk hkn k0 k1 wk HB zA15 zA16 B hB i4 hi4 hy0 hy1 hy2 u9 u10 u69 u70 u71 u72 u73 u74 u75 u76 u77 u78 u79 wa G hG hBa hBG i3 hi3 hz0 hz1 hz2 u12 u81 u82 u83 u84 u85 u86 u87 u88 u89 u90 u91 u92 u93 u94 u95 u96 gp wb hGb w5 ov hov fs sn hBX o0 o1 HOr zD27 zD28 np hnpI hnp4 HM hfs hsn i44 hi44 hp0 hp1 hp2 i47 hi47 hq0 hq1 hq2 u19 u112 u113 u114 u115 u116 u117 u118 u119 u120 u121 u122 u123 u124 u125 u126 u127 u128 u129 u130 u131 u132 u133 u134 u135 u136 u137 x0 mv hmv nt hntI hnt8 HM2 u20 u141 u142 u143 u144 u145 u146 u147 u148 u149 u150 u151 u152 u153 u154 u155 u156 u157 u158 u159 u160 u161 u162 u163 u164 u165 u166 u167 u168 u169 u170 x wz g17 c17 zE35 zE36 zE37 g18 c18 zE38 zE39 zE40 HPT HLV f0 f1 s0 s1 zE43 zE44 zE45 zE46 wy M hM hg17 hg18 HW
  exact @key.out
end Go.Proofs.Qxb6500880aGreat
