import Derived.Deep.CutBlock
import Derived.OwnWalk
import Derived.Maps.AppendAt
import Derived.Maps.OwnSet
import Derived.Maps.OwnOps
import Derived.Laws.ResultCell
import Derived.Laws.AppendOwnNone
import Derived.Test.Qxb6500880aGreatLhG
set_option linter.unusedVariables false
set_option linter.unusedSimpArgs false
namespace Go.Proofs.Qxb6500880aGreat
open Go.RowKit

set_option maxRecDepth 20000 in
set_option maxHeartbeats 40000000 in
theorem pkgH : pkgG.need2 := by
  intro w p c zA0 u6 u44 u45 u46 u47 u48 u49 u50 u51 u52 u53 u54 u55 u56 u57 u58 u59 u60 i zF0 HS hn zA9 zA10 zB0 u2 u7 u8 u11 u13 u14 u15 u16 u17 u18 u21 u26 u28 u30 u31 u33 u68 u80 u110 u111 u139 u140 u172 u173 u174 u257 u258 u259 zA11 zA12 zA13 zA14 k hk hkn k0 k1 wk HB zA15 zA16 B hB i4 hi4 hy0 hy1 hy2 u9 u10 wa G hG hBa hBG i3 hi3 hz0 hz1 hz2 u12 u84 u85 gp wb hGb w5 ov hov fs sn hBX o0 o1 HOr zD27 zD28 np hnpI hnp4 HM hfs hsn i44 hi44 hp0 hp1 hp2 i47 hi47 hq0 hq1 hq2 u19 x0 mv hmv nt hntI hnt8 HM2 u20 x wz g17 c17 zE35 zE36 zE37 g18 c18 zE38 zE39 zE40 HPT HLV f0 f1 s0 s1 M hM hg17 hg18 u23 u25 u178 u179 u180 n ky wv zF36 zF37 y HSV V hV hMV cV hVs wc u27 u29 u62 u63 u64 u65 u66 u67 u69 u70 u71 u72 u73 u74 u75 u76 u77 u78 u79 u81 u82 u83 u86 u87 u88 u89 u90 u91 u92 u93 u94 u95 u96 u97 u98 u99 u100 u101 u102 u103 u104 u105 u106 u107 u108 u109 u112 u113 u114 u115 u116 u117 u118 u119 u120 u121 u122 u123 u124 u125 u126 u127 u128 u129 u130 u131 u132 u133 u134 u135 u136 u137 u138 u141 u142 u143 u144 u145 u146 u147 u148 u149 u150 u151 u152 u153 u154 u155 u156 u157 u158 u159 u160 u161 u162 u163 u164 u165 u166 u167 u168 u169 u170 u171 u175 u176 u177 u181 u182 u183 u184 u185 u186 u187 u188 u189 u190 u191 u192 u193 u194 u195 u196 u197 u198 u199 u200 u201 u202 u203 u204 u205 u206 u207 u208 u209 u210 u211 u212 u213 u214 u215 u216 u217 u218 u219 u220 u221 u222 u223 u224 u225 u226 u227 u228 u229 u230 u231 u232 u233 u234 u235 u236 u237 u238 u239 u240 u241 u242 u243 u244 u245 u246 u247 u248 u249 u250 u251 u252 u253 u254 u255 u256 u260 u261 u262 u263 u264 u265 u266 u267 u268 u269 u270 u271 u272 u273 u274 u275 u276 u277 u278 u279 u280 hcut
  obtain ⟨N, rfl, HN⟩ := hcut
  obtain ⟨gp', gu, gb, n0, n1, n2, NI, byc⟩ := HN.out
  obtain ⟨L, VV, n18, e9, e17, v17⟩ := HLV.out
  obtain ⟨gd, cF, ev9, _, _, _, _, _⟩ := own_full L.db (by omega)
  have bzy : Below wz.heap.size wz y := by rw [hM]; exact HSV.out.bl
  have IN := NI.new (M := M) L VV (then_ bzy byc) e9 ev9 ⟨hnp4.1, hnp4.2, hnt8.1, hnt8.2⟩ HOr.out
  have hnew := new_any (cF := cF) IN
  rw [e9] at ev9
  rw [ev9]
  have HL6 := hideIt (And.intro NI (And.intro byc (And.intro bzy L.bl)))
  clear NI byc L VV n18 e9 e17 v17 ev9 bzy IN HN HLV cV
  go_wp2_with fail
  refine hnew.mono ?_
  rintro e w1' ⟨D, cc, X, LB, cl, gl, cgl, SB, mi, nb, vals, rfl, OK⟩
  have OK1 := OK.below (one_alloc w1' (.cells #[.int .u8 0, .int .i64 0, .int .i64 0] 61))
  have hrun := run_go OK1.R OK1.c7 OK1.c8 OK1.c9 OK1.hL OK1.hg
  have HOK := hideIt OK1
  clear OK OK1 hnew n0 n1 n2
  go_wp2_with fail
  refine hrun.mono ?_
  rintro e w2 ⟨rfl, c', X', ST⟩
  have OK := HOK.out
  obtain ⟨NI, byc, bzy, Lbl⟩ := HL6.out
  have SV := HSV.out
  obtain ⟨hrows, hwt, hr8⟩ := law_want OK ST HOr.out (fun r => (SV.k r).trans (WK_all r)) SV.d
  have hVc : V < wc.heap.size := World.block_lt_of_cell? _ _ (NI.cv 0 _ rfl)
  have hMc : M < wc.heap.size := by have := SV.m.lt; have := byc.size; omega
  have bc1 := OK.bl
  have QQ := OK.query ST (NI.cv.below bc1) hVc
  have hv2 : ∀ j, j < (X' 2).s.rows * (X' 2).s.A → (X' 2).d j < 64 := (ST.s.re 2 (by omega)).val
  have hqu := query_any QQ rfl ST.A hv2 (by omega) (by omega)
  have MW2 : MapW w2 M n ky := ((SV.m.below byc).below bc1).blk (ST.W.block M (by have := bc1.size; omega) (fun z => by have := OK.fr M z; omega))
  have b02 : Below wc.heap.size wc w2 := bc1.trans (ST.W.keep bc1.size (fun q hq z => by have := OK.fr q z; omega))
  have HT2 := hideIt (And.intro hrows (And.intro hwt (And.intro hr8 (And.intro MW2 (And.intro b02 ST.A)))))
  clear OK ST SV QQ hv2 MW2 b02 hrows hwt hr8 NI byc bzy Lbl bc1 hrun HOK
  go_wp2_with fail
  refine hqu.mono ?_
  rintro e w3' ⟨g, rfl, TV, b3'⟩
  obtain ⟨hrows, hwt, hr8, MW2, b02, eA⟩ := HT2.out
  rw [hrows] at TV hr8
  have MW := MW2.below b3'
  have hlen := MW.len
  have bww := then_ b02 b3'
  obtain ⟨nn, hnn⟩ : ∃ nn, nn = n := ⟨_, rfl⟩
  have HT3 := hideIt (And.intro TV (And.intro MW (And.intro eA (And.intro hwt bww))))
  rw [hrows]
  clear TV MW eA hwt bww MW2 b02 b3' HT2 hqu hrows
  go_wp2_with fail
  go_loopg [259] n (fun gg v wr => ∃ i : Nat, i + gg = n ∧ v = .int .i64 (i : Int) ∧ Below w3'.heap.size w3' wr)
  case atStart => exact ⟨0, by omega, rfl, Below.refl _ _⟩
  case round =>
  obtain ⟨i, hi, rfl, b9⟩ := hrel
  by_cases hin : i < n
  · skip
    have i0 : (0 : Int) ≤ i := by omega
    have i1 : (i : Int) < (n : Int) := by omega
    obtain ⟨TV, MW, eA, hwt, bww⟩ := HT3.out
    obtain ⟨r, gt, hr, hgg, hgl, cg, ct⟩ := TV i (by omega)
    have q0 := cell_later b9 cg
    rw [eA] at q0
    have t0 := cell_later b9 (ct 0 (by omega))
    have t1 := cell_later b9 (ct 1 (by omega))
    have t2 := cell_later b9 (ct 2 (by omega))
    rw [eA] at t0 t1 t2
    replace t0 : wr.cell? ⟨gt, 2, none⟩ = some (.int .i64 ((X' 2).d (r * 3) : Int)) := t0
    replace t1 : wr.cell? ⟨gt, 6, none⟩ = some (.int .i64 ((X' 2).d (r * 3 + 1) : Int)) := t1
    replace t2 : wr.cell? ⟨gt, 10, none⟩ = some (.int .i64 ((X' 2).d (r * 3 + 2) : Int)) := t2
    have MW9 := MW.below b9
    have hlk : ∀ w', w'.heap[M]? = wr.heap[M]? → (Instr.lookup 48 (.map (some M)) (.agg #[.int .i64 ((X' 2).d (r * 3) : Int), .int .i64 ((X' 2).d (r * 3 + 1) : Int), .int .i64 ((X' 2).d (r * 3 + 2) : Int)]) false).run Tryz.prog w' = .ok (.bool true) w' := fun w' e => (MW9.blk e).look (fun t => (X' 2).d (r * 3 + t)) (hwt r hr)
    have H9 := hideIt b9
    clear TV MW eA hwt bww cg ct MW9 b9
    go_upto_region 68 with fail
    refine wp_region_held_drew (S := (fun w' => w'.cell? ⟨gt, 2, none⟩ = some (.int .i64 ((X' 2).d (r * 3) : Int)) ∧ w'.cell? ⟨gt, 6, none⟩ = some (.int .i64 ((X' 2).d (r * 3 + 1) : Int)) ∧ w'.cell? ⟨gt, 10, none⟩ = some (.int .i64 ((X' 2).d (r * 3 + 2) : Int)) ∧ w'.heap[M]? = wr.heap[M]?)) (by kernel_rfl) ⟨t0, t1, t2, rfl⟩ (fun hHeld => ?_)
    refine wpAnyH_take (i := 0) (oi := { dst := some 263, op := Go.Op.move (Go.Operand.tmp 21), type := 48, pos := _, after := #[], guard := none }) (v := ?vv49075) rfl (by kernel_rfl) (by kernel_rfl) (by kernel_rfl) (fun _ _ _ h => h) (Or.inl ⟨by rfl, ?hy49075⟩) (by assumption) ?tk49075
    case hy49075 => (intro w hSw; (try dsimp only at hSw); go_simp; (try with_reducible rfl))
    try simp only [Act.put, List.setIfInBounds_toArray, List.set_cons_zero, List.set_cons_succ]
    refine wpAnyH_take (i := 1) (oi := { dst := some 264, op := Go.Op.move (Go.Operand.tmp 33), type := 30, pos := _, after := #[], guard := none }) (v := ?vv49076) rfl (by kernel_rfl) (by kernel_rfl) (by kernel_rfl) (fun _ _ _ h => h) (Or.inl ⟨by rfl, ?hy49076⟩) (by assumption) ?tk49076
    case hy49076 => (intro w hSw; (try dsimp only at hSw); go_simp; (try with_reducible rfl))
    try simp only [Act.put, List.setIfInBounds_toArray, List.set_cons_zero, List.set_cons_succ]
    refine wpAnyH_take (i := 2) (oi := { dst := some 265, op := Go.Op.indexAddr 30 (Go.Operand.tmp 264) (Go.Operand.const (Go.Value.int Go.IntKind.i64 0)), type := 0, pos := _, after := #[{ on := 1, ground := Go.Ground.data }], guard := none }) (v := ?vv49077) rfl (by kernel_rfl) (by kernel_rfl) (by kernel_rfl) (fun _ _ _ h => h) (Or.inl ⟨by rfl, ?hy49077⟩) (by assumption) ?tk49077
    case hy49077 => (intro w hSw; (try dsimp only at hSw); go_simp; (try with_reducible rfl))
    try simp only [Act.put, List.setIfInBounds_toArray, List.set_cons_zero, List.set_cons_succ]
    refine wpAnyH_take (i := 3) (oi := { dst := some 266, op := Go.Op.fieldAddr 26 (Go.Operand.tmp 265) 2, type := 0, pos := _, after := #[{ on := 2, ground := Go.Ground.data }], guard := none }) (v := ?vv49078) rfl (by kernel_rfl) (by kernel_rfl) (by kernel_rfl) (fun _ _ _ h => h) (Or.inl ⟨by rfl, ?hy49078⟩) (by assumption) ?tk49078
    case hy49078 => (intro w hSw; (try dsimp only at hSw); go_simp; (try with_reducible rfl))
    try simp only [Act.put, List.setIfInBounds_toArray, List.set_cons_zero, List.set_cons_succ]
    refine wpAnyH_take (i := 4) (oi := { dst := some 267, op := Go.Op.load 2 (Go.Operand.tmp 266), type := 2, pos := _, after := #[{ on := 3, ground := Go.Ground.data }], guard := none }) (v := ?vv49079) rfl (by kernel_rfl) (by kernel_rfl) (by kernel_rfl) (fun _ _ _ h => h) (Or.inl ⟨by rfl, ?hy49079⟩) (by assumption) ?tk49079
    case hy49079 => (intro w hSw; (try dsimp only at hSw); go_simp; (try with_reducible rfl))
    try simp only [Act.put, List.setIfInBounds_toArray, List.set_cons_zero, List.set_cons_succ]
    refine wpAnyH_take (i := 5) (oi := { dst := some 268, op := Go.Op.move (Go.Operand.tmp 33), type := 30, pos := _, after := #[], guard := none }) (v := ?vv49080) rfl (by kernel_rfl) (by kernel_rfl) (by kernel_rfl) (fun _ _ _ h => h) (Or.inl ⟨by rfl, ?hy49080⟩) (by assumption) ?tk49080
    case hy49080 => (intro w hSw; (try dsimp only at hSw); go_simp; (try with_reducible rfl))
    try simp only [Act.put, List.setIfInBounds_toArray, List.set_cons_zero, List.set_cons_succ]
    refine wpAnyH_take (i := 6) (oi := { dst := some 269, op := Go.Op.indexAddr 30 (Go.Operand.tmp 268) (Go.Operand.const (Go.Value.int Go.IntKind.i64 1)), type := 0, pos := _, after := #[{ on := 5, ground := Go.Ground.data }], guard := none }) (v := ?vv49081) rfl (by kernel_rfl) (by kernel_rfl) (by kernel_rfl) (fun _ _ _ h => h) (Or.inl ⟨by rfl, ?hy49081⟩) (by assumption) ?tk49081
    case hy49081 => (intro w hSw; (try dsimp only at hSw); go_simp; (try with_reducible rfl))
    try simp only [Act.put, List.setIfInBounds_toArray, List.set_cons_zero, List.set_cons_succ]
    refine wpAnyH_take (i := 7) (oi := { dst := some 270, op := Go.Op.fieldAddr 26 (Go.Operand.tmp 269) 2, type := 0, pos := _, after := #[{ on := 6, ground := Go.Ground.data }], guard := none }) (v := ?vv49082) rfl (by kernel_rfl) (by kernel_rfl) (by kernel_rfl) (fun _ _ _ h => h) (Or.inl ⟨by rfl, ?hy49082⟩) (by assumption) ?tk49082
    case hy49082 => (intro w hSw; (try dsimp only at hSw); go_simp; (try with_reducible rfl))
    try simp only [Act.put, List.setIfInBounds_toArray, List.set_cons_zero, List.set_cons_succ]
    refine wpAnyH_take (i := 8) (oi := { dst := some 271, op := Go.Op.load 2 (Go.Operand.tmp 270), type := 2, pos := _, after := #[{ on := 7, ground := Go.Ground.data }], guard := none }) (v := ?vv49083) rfl (by kernel_rfl) (by kernel_rfl) (by kernel_rfl) (fun _ _ _ h => h) (Or.inl ⟨by rfl, ?hy49083⟩) (by assumption) ?tk49083
    case hy49083 => (intro w hSw; (try dsimp only at hSw); go_simp; (try with_reducible rfl))
    try simp only [Act.put, List.setIfInBounds_toArray, List.set_cons_zero, List.set_cons_succ]
    refine wpAnyH_take (i := 9) (oi := { dst := some 272, op := Go.Op.move (Go.Operand.tmp 33), type := 30, pos := _, after := #[], guard := none }) (v := ?vv49084) rfl (by kernel_rfl) (by kernel_rfl) (by kernel_rfl) (fun _ _ _ h => h) (Or.inl ⟨by rfl, ?hy49084⟩) (by assumption) ?tk49084
    case hy49084 => (intro w hSw; (try dsimp only at hSw); go_simp; (try with_reducible rfl))
    try simp only [Act.put, List.setIfInBounds_toArray, List.set_cons_zero, List.set_cons_succ]
    refine wpAnyH_take (i := 10) (oi := { dst := some 273, op := Go.Op.indexAddr 30 (Go.Operand.tmp 272) (Go.Operand.const (Go.Value.int Go.IntKind.i64 2)), type := 0, pos := _, after := #[{ on := 9, ground := Go.Ground.data }], guard := none }) (v := ?vv49085) rfl (by kernel_rfl) (by kernel_rfl) (by kernel_rfl) (fun _ _ _ h => h) (Or.inl ⟨by rfl, ?hy49085⟩) (by assumption) ?tk49085
    case hy49085 => (intro w hSw; (try dsimp only at hSw); go_simp; (try with_reducible rfl))
    try simp only [Act.put, List.setIfInBounds_toArray, List.set_cons_zero, List.set_cons_succ]
    refine wpAnyH_take (i := 11) (oi := { dst := some 274, op := Go.Op.fieldAddr 26 (Go.Operand.tmp 273) 2, type := 0, pos := _, after := #[{ on := 10, ground := Go.Ground.data }], guard := none }) (v := ?vv49086) rfl (by kernel_rfl) (by kernel_rfl) (by kernel_rfl) (fun _ _ _ h => h) (Or.inl ⟨by rfl, ?hy49086⟩) (by assumption) ?tk49086
    case hy49086 => (intro w hSw; (try dsimp only at hSw); go_simp; (try with_reducible rfl))
    try simp only [Act.put, List.setIfInBounds_toArray, List.set_cons_zero, List.set_cons_succ]
    refine wpAnyH_take (i := 12) (oi := { dst := some 275, op := Go.Op.load 2 (Go.Operand.tmp 274), type := 2, pos := _, after := #[{ on := 11, ground := Go.Ground.data }], guard := none }) (v := ?vv49087) rfl (by kernel_rfl) (by kernel_rfl) (by kernel_rfl) (fun _ _ _ h => h) (Or.inl ⟨by rfl, ?hy49087⟩) (by assumption) ?tk49087
    case hy49087 => (intro w hSw; (try dsimp only at hSw); go_simp; (try with_reducible rfl))
    try simp only [Act.put, List.setIfInBounds_toArray, List.set_cons_zero, List.set_cons_succ]
    refine wpAnyH_take (i := 13) (oi := { dst := some 276, op := Go.Op.build 47 #[(0, Go.Operand.tmp 267), (1, Go.Operand.tmp 271), (2, Go.Operand.tmp 275)], type := 47, pos := _, after := #[{ on := 4, ground := Go.Ground.data }, { on := 8, ground := Go.Ground.data }, { on := 12, ground := Go.Ground.data }], guard := none }) (v := ?vv49088) rfl (by kernel_rfl) (by kernel_rfl) (by kernel_rfl) (fun _ _ _ h => h) (Or.inl ⟨by rfl, ?hy49088⟩) (by assumption) ?tk49088
    case hy49088 => (intro w hSw; (try dsimp only at hSw); go_simp; (try with_reducible rfl))
    try simp only [Act.put, List.setIfInBounds_toArray, List.set_cons_zero, List.set_cons_succ]
    refine wpAnyH_take (i := 14) (oi := { dst := some 277, op := Go.Op.lookup 48 (Go.Operand.tmp 263) (Go.Operand.tmp 276) false, type := 4, pos := _, after := #[{ on := 0, ground := Go.Ground.data }, { on := 13, ground := Go.Ground.data }], guard := none }) (v := ?vv49089) rfl (by kernel_rfl) (by kernel_rfl) (by kernel_rfl) (fun _ _ _ h => h) (Or.inl ⟨by rfl, ?hy49089⟩) (by assumption) ?tk49089
    case hy49089 => (intro w hSw; have hl7 := hlk w hSw.2.2.2; (try dsimp only at hSw); go_simp; (try with_reducible rfl))
    try simp only [Act.put, List.setIfInBounds_toArray, List.set_cons_zero, List.set_cons_succ]
    refine wpAnyH_take (i := 15) (oi := { dst := some 278, op := Go.Op.unOp Go.UnOp.not 4 (Go.Operand.tmp 277), type := 4, pos := _, after := #[{ on := 14, ground := Go.Ground.data }], guard := none }) (v := ?vv49090) rfl (by kernel_rfl) (by kernel_rfl) (by kernel_rfl) (fun _ _ _ h => h) (Or.inl ⟨by rfl, ?hy49090⟩) (by assumption) ?tk49090
    case hy49090 => (intro w hSw; (try dsimp only at hSw); go_simp; (try with_reducible rfl))
    try simp only [Act.put, List.setIfInBounds_toArray, List.set_cons_zero, List.set_cons_succ]
    refine wpAnyH_done (by kernel_rfl) ?_ _
    clear hHeld hlk
    go_wp2
    go_roundg (n - (i + 1))
    case measure => omega
    case rel => exact ⟨i + 1, by omega, by go_num, below_dr H9.out⟩
  have ein : n = i := by omega
  subst ein
  have H9 := hideIt b9
  clear b9 hi hin hlen
  go_wp2
  go_roundg (4 - (k + 1))
  case measure => omega
  case rel =>
    obtain ⟨TV, MW, eA, hwt, bww⟩ := HT3.out
    obtain ⟨NI, byc, bzy, Lbl⟩ := HL6.out
    have Lb : Below wk.heap.size wk wz := by rw [hB]; exact Lbl
    exact ⟨k + 1, by omega, by go_num, then_ HB.out (then_ Lb (then_ bzy (then_ byc (then_ bww H9.out))))⟩
end Go.Proofs.Qxb6500880aGreat
