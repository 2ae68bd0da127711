import Derived.Deep.CutBlock
import Derived.OwnWalk
import Derived.Maps.AppendAt
import Derived.Maps.OwnSet
import Derived.Maps.OwnOps
import Derived.Laws.ResultCell
import Derived.Laws.AppendOwnNone
import Derived.Test.Qxb6500880aGreatLhG
set_option linter.unusedVariables false
set_option linter.unusedSimpArgs false
namespace Go.Proofs.Qxb6500880aGreat
open Go.RowKit

set_option maxRecDepth 20000 in
set_option maxHeartbeats 40000000 in
theorem pkgT : pkgG.need := by
  intro w p c zA0 u6 u44 u45 u46 u47 u48 u49 u50 u51 u52 u53 u54 u55 u56 u57 u58 u59 u60 i zF0 HS hn zA9 zA10 zB0 u2 u7 u8 u11 u13 u14 u15 u16 u17 u18 u21 u26 u27 u28 u29 u30 u31 u33 u62 u63 u64 u65 u66 u67 u68 u80 u97 u98 u99 u100 u101 u102 u103 u104 u105 u106 u107 u108 u109 u110 u111 u138 u139 u140 u171 u172 u173 u174 u202 u203 u204 u205 u206 u207 u208 u209 u210 u211 u212 u213 u214 u215 u216 u217 u218 u219 u220 u221 u222 u223 u224 u225 u226 u227 u228 u229 u230 u231 u232 u233 u234 u235 u236 u237 u238 u239 u240 u241 u242 u243 u244 u245 u246 u247 u248 u249 u250 u251 u252 u253 u254 u255 u256 u257 u258 u259 u260 u261 u262 u263 u264 u265 u266 u267 u268 u269 u270 u271 u272 u273 u274 u275 u276 u277 u278 u279 u280 zA11 zA12 zA13 zA14 k hk hkn k0 k1 wk HB zA15 zA16 B hB i4 hi4 hy0 hy1 hy2 u9 u10 u69 u70 u71 u72 u73 u74 u75 u76 u77 u78 u79 wa G hG hBa hBG i3 hi3 hz0 hz1 hz2 u12 u81 u82 u83 u84 u85 u86 u87 u88 u89 u90 u91 u92 u93 u94 u95 u96 gp wb hGb w5 ov hov fs sn hBX o0 o1 HOr zD27 zD28 np hnpI hnp4 HM hfs hsn i44 hi44 hp0 hp1 hp2 i47 hi47 hq0 hq1 hq2 u19 u112 u113 u114 u115 u116 u117 u118 u119 u120 u121 u122 u123 u124 u125 u126 u127 u128 u129 u130 u131 u132 u133 u134 u135 u136 u137 x0 mv hmv nt hntI hnt8 HM2 u20 u141 u142 u143 u144 u145 u146 u147 u148 u149 u150 u151 u152 u153 u154 u155 u156 u157 u158 u159 u160 u161 u162 u163 u164 u165 u166 u167 u168 u169 u170 x wz g17 c17 zE35 zE36 zE37 g18 c18 zE38 zE39 zE40 HPT HLV f0 f1 s0 s1 M hM hg17 hg18 u23 u25 u175 u176 u177 u178 u179 u180 u181 u182 u183 u184 u185 u186 u187 u188 u189 u190 u191 u192 u193 u194 u195 u196 u197 u198 u199 u200 u201 n ky wv y HSV V hV hMV cV hVs zG10 zG11 zG12 zG13
  clear HS hn zA10 zA13 zA14 hk hkn k0 k1 HB zA16 hB hi4 hy0 hy1 hy2 hG hBa hBG hi3 hz0 hz1 hz2 hGb hov hBX o0 o1 HOr zD28 hnpI hnp4 HM hi44 hp0 hp1 hp2 hi47 hq0 hq1 hq2 hmv hntI hnt8 HM2 zE35 zE36 zE37 zE38 zE39 zE40 HPT HLV hM hg17 hg18 HSV hV hMV
  refine wp_region_held_drew (S := (fun w' => CA w' V lV)) (by kernel_rfl) (show CA y.drew V lV from cV) (fun hHeld => ?_)
  replace cV : CA y.drew V lV := cV
  have hVl : V < y.drew.heap.size := hVs
  have byd : Below y.heap.size y y.drew := below_dr (Below.refl y.heap.size y)
  have hyd : y.heap.size ≤ y.drew.heap.size := Nat.le_refl _
  rw [listed26]
  case h => rfl
  refine wpAnyH_take (i := 0) (oi := { dst := some 206, op := Go.Op.build 50 #[(0, Go.Operand.const (Go.Value.string { data := #[99] })), (1, Go.Operand.const (Go.Value.int Go.IntKind.i64 3))], type := 50, pos := _, after := #[], guard := none }) (v := ?vv49091) rfl (by kernel_rfl) (by kernel_rfl) (by kernel_rfl) (fun _ _ _ h => h) (Or.inl ⟨by rfl, ?hy49091⟩) (by assumption) ?tk49091
  case hy49091 => (intro w hSw; (try dsimp only at hSw); go_simp; (try with_reducible rfl))
  try simp only [Act.put, List.setIfInBounds_toArray, List.set_cons_zero, List.set_cons_succ]
  refine wpAnyH_take (i := 1) (oi := { dst := some 207, op := Go.Op.build 50 #[(0, Go.Operand.const (Go.Value.string { data := #[101] })), (1, Go.Operand.const (Go.Value.int Go.IntKind.i64 2))], type := 50, pos := _, after := #[], guard := none }) (v := ?vv49092) rfl (by kernel_rfl) (by kernel_rfl) (by kernel_rfl) (fun _ _ _ h => h) (Or.inl ⟨by rfl, ?hy49092⟩) (by assumption) ?tk49092
  case hy49092 => (intro w hSw; (try dsimp only at hSw); go_simp; (try with_reducible rfl))
  try simp only [Act.put, List.setIfInBounds_toArray, List.set_cons_zero, List.set_cons_succ]
  refine wpAnyH_take (i := 2) (oi := { dst := some 208, op := Go.Op.build 50 #[(0, Go.Operand.const (Go.Value.string { data := #[107] })), (1, Go.Operand.const (Go.Value.int Go.IntKind.i64 3))], type := 50, pos := _, after := #[], guard := none }) (v := ?vv49093) rfl (by kernel_rfl) (by kernel_rfl) (by kernel_rfl) (fun _ _ _ h => h) (Or.inl ⟨by rfl, ?hy49093⟩) (by assumption) ?tk49093
  case hy49093 => (intro w hSw; (try dsimp only at hSw); go_simp; (try with_reducible rfl))
  try simp only [Act.put, List.setIfInBounds_toArray, List.set_cons_zero, List.set_cons_succ]
  refine wpAnyH_take (i := 4) (oi := { dst := some 210, op := Go.Op.move (Go.Operand.tmp 26), type := 30, pos := _, after := #[], guard := none }) (v := ?vv49094) rfl (by kernel_rfl) (by kernel_rfl) (by kernel_rfl) (fun _ _ _ h => h) (Or.inl ⟨by rfl, ?hy49094⟩) (by assumption) ?tk49094
  case hy49094 => (intro w hSw; (try dsimp only at hSw); go_simp; (try with_reducible rfl))
  try simp only [Act.put, List.setIfInBounds_toArray, List.set_cons_zero, List.set_cons_succ]
  refine wpAnyH_take (i := 5) (oi := { dst := some 211, op := Go.Op.build 34 #[(0, Go.Operand.const (Go.Value.string { data := #[107] })), (1, Go.Operand.tmp 210)], type := 34, pos := _, after := #[{ on := 4, ground := Go.Ground.data }], guard := none }) (v := ?vv49095) rfl (by kernel_rfl) (by kernel_rfl) (by kernel_rfl) (fun _ _ _ h => h) (Or.inl ⟨by rfl, ?hy49095⟩) (by assumption) ?tk49095
  case hy49095 => (intro w hSw; (try dsimp only at hSw); go_simp; (try with_reducible rfl))
  try simp only [Act.put, List.setIfInBounds_toArray, List.set_cons_zero, List.set_cons_succ]
  refine wpAnyH_take (i := 6) (oi := { dst := some 212, op := Go.Op.move (Go.Operand.tmp 26), type := 30, pos := _, after := #[], guard := none }) (v := ?vv49096) rfl (by kernel_rfl) (by kernel_rfl) (by kernel_rfl) (fun _ _ _ h => h) (Or.inl ⟨by rfl, ?hy49096⟩) (by assumption) ?tk49096
  case hy49096 => (intro w hSw; (try dsimp only at hSw); go_simp; (try with_reducible rfl))
  try simp only [Act.put, List.setIfInBounds_toArray, List.set_cons_zero, List.set_cons_succ]
  refine wpAnyH_take (i := 7) (oi := { dst := some 213, op := Go.Op.move (Go.Operand.tmp 15), type := 3, pos := _, after := #[], guard := none }) (v := ?vv49097) rfl (by kernel_rfl) (by kernel_rfl) (by kernel_rfl) (fun _ _ _ h => h) (Or.inl ⟨by rfl, ?hy49097⟩) (by assumption) ?tk49097
  case hy49097 => (intro w hSw; (try dsimp only at hSw); go_simp; (try with_reducible rfl))
  try simp only [Act.put, List.setIfInBounds_toArray, List.set_cons_zero, List.set_cons_succ]
  refine wpAnyH_take (i := 8) (oi := { dst := some 214, op := Go.Op.indexAddr 30 (Go.Operand.tmp 212) (Go.Operand.tmp 213), type := 0, pos := _, after := #[{ on := 6, ground := Go.Ground.data }, { on := 7, ground := Go.Ground.data }], guard := none }) (v := ?vv49098) rfl (by kernel_rfl) (by kernel_rfl) (by kernel_rfl) (fun _ _ _ h => h) (Or.inl ⟨by rfl, ?hy49098⟩) (by assumption) ?tk49098
  case hy49098 => (intro w hSw; (try dsimp only at hSw); go_simp; (try with_reducible rfl))
  try simp only [Act.put, List.setIfInBounds_toArray, List.set_cons_zero, List.set_cons_succ]
  refine wpAnyH_take (i := 9) (oi := { dst := some 215, op := Go.Op.load 26 (Go.Operand.tmp 214), type := 26, pos := _, after := #[{ on := 8, ground := Go.Ground.data }], guard := none }) (v := ?vv49099) rfl (by kernel_rfl) (by kernel_rfl) (by kernel_rfl) (fun _ _ _ h => h) (Or.inl ⟨by rfl, ?hy49099⟩) (by assumption) ?tk49099
  case hy49099 => (intro w hSw; obtain ⟨z0, z1, z2, z3⟩ := vcells hSw hfs; (try dsimp only at hSw); go_simp; (try with_reducible rfl))
  try simp only [Act.put, List.setIfInBounds_toArray, List.set_cons_zero, List.set_cons_succ]
  refine wpAnyH_take (i := 10) (oi := { dst := some 216, op := Go.Op.move (Go.Operand.tmp 26), type := 30, pos := _, after := #[], guard := none }) (v := ?vv49100) rfl (by kernel_rfl) (by kernel_rfl) (by kernel_rfl) (fun _ _ _ h => h) (Or.inl ⟨by rfl, ?hy49100⟩) (by assumption) ?tk49100
  case hy49100 => (intro w hSw; (try dsimp only at hSw); go_simp; (try with_reducible rfl))
  try simp only [Act.put, List.setIfInBounds_toArray, List.set_cons_zero, List.set_cons_succ]
  refine wpAnyH_take (i := 11) (oi := { dst := some 217, op := Go.Op.move (Go.Operand.tmp 16), type := 3, pos := _, after := #[], guard := none }) (v := ?vv49101) rfl (by kernel_rfl) (by kernel_rfl) (by kernel_rfl) (fun _ _ _ h => h) (Or.inl ⟨by rfl, ?hy49101⟩) (by assumption) ?tk49101
  case hy49101 => (intro w hSw; (try dsimp only at hSw); go_simp; (try with_reducible rfl))
  try simp only [Act.put, List.setIfInBounds_toArray, List.set_cons_zero, List.set_cons_succ]
  refine wpAnyH_take (i := 12) (oi := { dst := some 218, op := Go.Op.indexAddr 30 (Go.Operand.tmp 216) (Go.Operand.tmp 217), type := 0, pos := _, after := #[{ on := 10, ground := Go.Ground.data }, { on := 11, ground := Go.Ground.data }], guard := none }) (v := ?vv49102) rfl (by kernel_rfl) (by kernel_rfl) (by kernel_rfl) (fun _ _ _ h => h) (Or.inl ⟨by rfl, ?hy49102⟩) (by assumption) ?tk49102
  case hy49102 => (intro w hSw; (try dsimp only at hSw); go_simp; (try with_reducible rfl))
  try simp only [Act.put, List.setIfInBounds_toArray, List.set_cons_zero, List.set_cons_succ]
  refine wpAnyH_take (i := 13) (oi := { dst := some 219, op := Go.Op.load 26 (Go.Operand.tmp 218), type := 26, pos := _, after := #[{ on := 12, ground := Go.Ground.data }], guard := none }) (v := ?vv49103) rfl (by kernel_rfl) (by kernel_rfl) (by kernel_rfl) (fun _ _ _ h => h) (Or.inl ⟨by rfl, ?hy49103⟩) (by assumption) ?tk49103
  case hy49103 => (intro w hSw; obtain ⟨z0, z1, z2, z3⟩ := vcells hSw hsn; (try dsimp only at hSw); go_simp; (try with_reducible rfl))
  try simp only [Act.put, List.setIfInBounds_toArray, List.set_cons_zero, List.set_cons_succ]
  refine wpAnyH_take (i := 17) (oi := { dst := some 223, op := Go.Op.move (Go.Operand.tmp 26), type := 30, pos := _, after := #[], guard := none }) (v := ?vv49104) rfl (by kernel_rfl) (by kernel_rfl) (by kernel_rfl) (fun _ _ _ h => h) (Or.inl ⟨by rfl, ?hy49104⟩) (by assumption) ?tk49104
  case hy49104 => (intro w hSw; (try dsimp only at hSw); go_simp; (try with_reducible rfl))
  try simp only [Act.put, List.setIfInBounds_toArray, List.set_cons_zero, List.set_cons_succ]
  refine wpAnyH_take (i := 18) (oi := { dst := some 224, op := Go.Op.build 34 #[(0, Go.Operand.const (Go.Value.string { data := #[99] })), (1, Go.Operand.tmp 223)], type := 34, pos := _, after := #[{ on := 17, ground := Go.Ground.data }], guard := none }) (v := ?vv49105) rfl (by kernel_rfl) (by kernel_rfl) (by kernel_rfl) (fun _ _ _ h => h) (Or.inl ⟨by rfl, ?hy49105⟩) (by assumption) ?tk49105
  case hy49105 => (intro w hSw; (try dsimp only at hSw); go_simp; (try with_reducible rfl))
  try simp only [Act.put, List.setIfInBounds_toArray, List.set_cons_zero, List.set_cons_succ]
  refine wpAnyH_take (i := 19) (oi := { dst := some 225, op := Go.Op.build 36 #[(0, Go.Operand.const (Go.Value.int Go.IntKind.u8 0)), (2, Go.Operand.tmp 224)], type := 36, pos := _, after := #[{ on := 18, ground := Go.Ground.data }], guard := none }) (v := ?vv49106) rfl (by kernel_rfl) (by kernel_rfl) (by kernel_rfl) (fun _ _ _ h => h) (Or.inl ⟨by rfl, ?hy49106⟩) (by assumption) ?tk49106
  case hy49106 => (intro w hSw; (try dsimp only at hSw); go_simp; (try with_reducible rfl))
  try simp only [Act.put, List.setIfInBounds_toArray, List.set_cons_zero, List.set_cons_succ]
  generalize y.drew = y0 at cV hVl byd hyd hHeld ⊢
  clear hHeld
  apply merge5 (F := fun y P1 P2 P3 P4 N => CA y P1 [.string { data := #[99] }, .int .i64 3, .int .i64 0, .string { data := #[101] }, .int .i64 2, .int .i64 0, .string { data := #[107] }, .int .i64 3, .int .i64 0] ∧ CA y P2 [.int .u8 0, .int .i64 (fs : Int), .int .i64 0, .string { data := #[] }, .int .u8 0, .int .i64 (sn : Int), .int .i64 0, .string { data := #[] }] ∧ CA y P3 [.int .u8 0, .int .u8 0, .string { data := #[101] }, .slice (some ⟨P2, 0, none⟩) 2 2, .int .u8 0, .int .u8 0, .string { data := #[99] }, .slice (some ⟨V, 0, none⟩) 3 3] ∧ CA y P4 [.string { data := #[107] }, .slice (some ⟨V, 0, none⟩) 3 3, .slice (some ⟨P3, 0, none⟩) 2 2] ∧ CA y N [.slice none 0 0, .slice none 0 0, .int .i64 0] ∧ CA y V lV ∧ Below y0.heap.size y0 y ∧ P1 < y.heap.size ∧ P2 < y.heap.size ∧ P3 < y.heap.size ∧ P4 < y.heap.size ∧ N < y.heap.size ∧ V < y0.heap.size ∧ (∀ o, y.frozen? ⟨N, o, none⟩ = false) ∧ y0.heap.size ≤ N ∧ P1 ≠ N ∧ P2 ≠ N ∧ P3 ≠ N ∧ P4 ≠ N)
  intro keyabcde
  apply merge4 (F := fun y P1 P2 P3 P4 => CA y P1 [.string { data := #[99] }, .int .i64 3, .int .i64 0, .string { data := #[101] }, .int .i64 2, .int .i64 0, .string { data := #[107] }, .int .i64 3, .int .i64 0] ∧ CA y P2 [.int .u8 0, .int .i64 (fs : Int), .int .i64 0, .string { data := #[] }, .int .u8 0, .int .i64 (sn : Int), .int .i64 0, .string { data := #[] }] ∧ CA y P3 [.int .u8 0, .int .u8 0, .string { data := #[101] }, .slice (some ⟨P2, 0, none⟩) 2 2, .int .u8 0, .int .u8 0, .string { data := #[99] }, .slice (some ⟨V, 0, none⟩) 3 3] ∧ CA y P4 [.string { data := #[107] }, .slice (some ⟨V, 0, none⟩) 3 3, .slice (some ⟨P3, 0, none⟩) 2 2] ∧ CA y V lV ∧ Below y0.heap.size y0 y ∧ P1 < y.heap.size ∧ P2 < y.heap.size ∧ P3 < y.heap.size ∧ P4 < y.heap.size ∧ V < y0.heap.size)
  intro keyabcd
  apply merge4 (F := fun y P1 P2 P3 N => CA y P1 [.string { data := #[99] }, .int .i64 3, .int .i64 0, .string { data := #[101] }, .int .i64 2, .int .i64 0, .string { data := #[107] }, .int .i64 3, .int .i64 0] ∧ CA y P2 [.int .u8 0, .int .i64 (fs : Int), .int .i64 0, .string { data := #[] }, .int .u8 0, .int .i64 (sn : Int), .int .i64 0, .string { data := #[] }] ∧ CA y P3 [.int .u8 0, .int .u8 0, .string { data := #[101] }, .slice (some ⟨P2, 0, none⟩) 2 2, .int .u8 0, .int .u8 0, .string { data := #[99] }, .slice (some ⟨V, 0, none⟩) 3 3] ∧ CA y N [.slice none 0 0, .slice none 0 0, .int .i64 0] ∧ CA y V lV ∧ Below y0.heap.size y0 y ∧ P1 < y.heap.size ∧ P2 < y.heap.size ∧ P3 < y.heap.size ∧ N < y.heap.size ∧ V < y0.heap.size ∧ (∀ o, y.frozen? ⟨N, o, none⟩ = false) ∧ y0.heap.size ≤ N ∧ P1 ≠ N ∧ P2 ≠ N ∧ P3 ≠ N)
  intro keyabce
  apply merge4 (F := fun y P2 P3 P4 N => CA y P2 [.int .u8 0, .int .i64 (fs : Int), .int .i64 0, .string { data := #[] }, .int .u8 0, .int .i64 (sn : Int), .int .i64 0, .string { data := #[] }] ∧ CA y P3 [.int .u8 0, .int .u8 0, .string { data := #[101] }, .slice (some ⟨P2, 0, none⟩) 2 2, .int .u8 0, .int .u8 0, .string { data := #[99] }, .slice (some ⟨V, 0, none⟩) 3 3] ∧ CA y P4 [.string { data := #[107] }, .slice (some ⟨V, 0, none⟩) 3 3, .slice (some ⟨P3, 0, none⟩) 2 2] ∧ CA y N [.slice none 0 0, .slice none 0 0, .int .i64 0] ∧ CA y V lV ∧ Below y0.heap.size y0 y ∧ P2 < y.heap.size ∧ P3 < y.heap.size ∧ P4 < y.heap.size ∧ N < y.heap.size ∧ V < y0.heap.size ∧ (∀ o, y.frozen? ⟨N, o, none⟩ = false) ∧ y0.heap.size ≤ N ∧ P2 ≠ N ∧ P3 ≠ N ∧ P4 ≠ N)
  intro keybcde
  apply merge3 (F := fun y P1 P2 P3 => CA y P1 [.string { data := #[99] }, .int .i64 3, .int .i64 0, .string { data := #[101] }, .int .i64 2, .int .i64 0, .string { data := #[107] }, .int .i64 3, .int .i64 0] ∧ CA y P2 [.int .u8 0, .int .i64 (fs : Int), .int .i64 0, .string { data := #[] }, .int .u8 0, .int .i64 (sn : Int), .int .i64 0, .string { data := #[] }] ∧ CA y P3 [.int .u8 0, .int .u8 0, .string { data := #[101] }, .slice (some ⟨P2, 0, none⟩) 2 2, .int .u8 0, .int .u8 0, .string { data := #[99] }, .slice (some ⟨V, 0, none⟩) 3 3] ∧ CA y V lV ∧ Below y0.heap.size y0 y ∧ P1 < y.heap.size ∧ P2 < y.heap.size ∧ P3 < y.heap.size ∧ V < y0.heap.size)
  intro keyabc
  apply merge3 (F := fun y P1 P2 N => CA y P1 [.string { data := #[99] }, .int .i64 3, .int .i64 0, .string { data := #[101] }, .int .i64 2, .int .i64 0, .string { data := #[107] }, .int .i64 3, .int .i64 0] ∧ CA y P2 [.int .u8 0, .int .i64 (fs : Int), .int .i64 0, .string { data := #[] }, .int .u8 0, .int .i64 (sn : Int), .int .i64 0, .string { data := #[] }] ∧ CA y N [.slice none 0 0, .slice none 0 0, .int .i64 0] ∧ CA y V lV ∧ Below y0.heap.size y0 y ∧ P1 < y.heap.size ∧ P2 < y.heap.size ∧ N < y.heap.size ∧ V < y0.heap.size ∧ (∀ o, y.frozen? ⟨N, o, none⟩ = false) ∧ y0.heap.size ≤ N ∧ P1 ≠ N ∧ P2 ≠ N)
  intro keyabe
  apply merge3 (F := fun y P2 P3 P4 => CA y P2 [.int .u8 0, .int .i64 (fs : Int), .int .i64 0, .string { data := #[] }, .int .u8 0, .int .i64 (sn : Int), .int .i64 0, .string { data := #[] }] ∧ CA y P3 [.int .u8 0, .int .u8 0, .string { data := #[101] }, .slice (some ⟨P2, 0, none⟩) 2 2, .int .u8 0, .int .u8 0, .string { data := #[99] }, .slice (some ⟨V, 0, none⟩) 3 3] ∧ CA y P4 [.string { data := #[107] }, .slice (some ⟨V, 0, none⟩) 3 3, .slice (some ⟨P3, 0, none⟩) 2 2] ∧ CA y V lV ∧ Below y0.heap.size y0 y ∧ P2 < y.heap.size ∧ P3 < y.heap.size ∧ P4 < y.heap.size ∧ V < y0.heap.size)
  intro keybcd
  apply merge3 (F := fun y P2 P3 N => CA y P2 [.int .u8 0, .int .i64 (fs : Int), .int .i64 0, .string { data := #[] }, .int .u8 0, .int .i64 (sn : Int), .int .i64 0, .string { data := #[] }] ∧ CA y P3 [.int .u8 0, .int .u8 0, .string { data := #[101] }, .slice (some ⟨P2, 0, none⟩) 2 2, .int .u8 0, .int .u8 0, .string { data := #[99] }, .slice (some ⟨V, 0, none⟩) 3 3] ∧ CA y N [.slice none 0 0, .slice none 0 0, .int .i64 0] ∧ CA y V lV ∧ Below y0.heap.size y0 y ∧ P2 < y.heap.size ∧ P3 < y.heap.size ∧ N < y.heap.size ∧ V < y0.heap.size ∧ (∀ o, y.frozen? ⟨N, o, none⟩ = false) ∧ y0.heap.size ≤ N ∧ P2 ≠ N ∧ P3 ≠ N)
  intro keybce
  apply merge2 (F := fun y P1 P2 => CA y P1 [.string { data := #[99] }, .int .i64 3, .int .i64 0, .string { data := #[101] }, .int .i64 2, .int .i64 0, .string { data := #[107] }, .int .i64 3, .int .i64 0] ∧ CA y P2 [.int .u8 0, .int .i64 (fs : Int), .int .i64 0, .string { data := #[] }, .int .u8 0, .int .i64 (sn : Int), .int .i64 0, .string { data := #[] }] ∧ CA y V lV ∧ Below y0.heap.size y0 y ∧ P1 < y.heap.size ∧ P2 < y.heap.size ∧ V < y0.heap.size)
  intro keyab
  apply merge2 (F := fun y P1 N => CA y P1 [.string { data := #[99] }, .int .i64 3, .int .i64 0, .string { data := #[101] }, .int .i64 2, .int .i64 0, .string { data := #[107] }, .int .i64 3, .int .i64 0] ∧ CA y N [.slice none 0 0, .slice none 0 0, .int .i64 0] ∧ CA y V lV ∧ Below y0.heap.size y0 y ∧ P1 < y.heap.size ∧ N < y.heap.size ∧ V < y0.heap.size ∧ (∀ o, y.frozen? ⟨N, o, none⟩ = false) ∧ y0.heap.size ≤ N ∧ P1 ≠ N)
  intro keyae
  apply merge2 (F := fun y P2 P3 => CA y P2 [.int .u8 0, .int .i64 (fs : Int), .int .i64 0, .string { data := #[] }, .int .u8 0, .int .i64 (sn : Int), .int .i64 0, .string { data := #[] }] ∧ CA y P3 [.int .u8 0, .int .u8 0, .string { data := #[101] }, .slice (some ⟨P2, 0, none⟩) 2 2, .int .u8 0, .int .u8 0, .string { data := #[99] }, .slice (some ⟨V, 0, none⟩) 3 3] ∧ CA y V lV ∧ Below y0.heap.size y0 y ∧ P2 < y.heap.size ∧ P3 < y.heap.size ∧ V < y0.heap.size)
  intro keybc
  apply merge2 (F := fun y P2 N => CA y P2 [.int .u8 0, .int .i64 (fs : Int), .int .i64 0, .string { data := #[] }, .int .u8 0, .int .i64 (sn : Int), .int .i64 0, .string { data := #[] }] ∧ CA y N [.slice none 0 0, .slice none 0 0, .int .i64 0] ∧ CA y V lV ∧ Below y0.heap.size y0 y ∧ P2 < y.heap.size ∧ N < y.heap.size ∧ V < y0.heap.size ∧ (∀ o, y.frozen? ⟨N, o, none⟩ = false) ∧ y0.heap.size ≤ N ∧ P2 ≠ N)
  intro keybe
  apply merge1 (F := fun y P1 => CA y P1 [.string { data := #[99] }, .int .i64 3, .int .i64 0, .string { data := #[101] }, .int .i64 2, .int .i64 0, .string { data := #[107] }, .int .i64 3, .int .i64 0] ∧ CA y V lV ∧ Below y0.heap.size y0 y ∧ P1 < y.heap.size ∧ V < y0.heap.size)
  intro keya
  apply merge1 (F := fun y P2 => CA y P2 [.int .u8 0, .int .i64 (fs : Int), .int .i64 0, .string { data := #[] }, .int .u8 0, .int .i64 (sn : Int), .int .i64 0, .string { data := #[] }] ∧ CA y V lV ∧ Below y0.heap.size y0 y ∧ P2 < y.heap.size ∧ V < y0.heap.size)
  intro keyb
  apply merge1 (F := fun y N => CA y N [.slice none 0 0, .slice none 0 0, .int .i64 0] ∧ CA y V lV ∧ Below y0.heap.size y0 y ∧ N < y.heap.size ∧ V < y0.heap.size ∧ (∀ o, y.frozen? ⟨N, o, none⟩ = false) ∧ y0.heap.size ≤ N)
  intro keye
  refine wpAnyH_ready (rs := [3, 14, 24]) (by kernel_rfl) (by simp) ?_
  refine AllReadyH.cons (o := { dst := some 209, op := Go.Op.buildSlice 51 3 #[(0, Go.Operand.tmp 206), (1, Go.Operand.tmp 207), (2, Go.Operand.tmp 208)], type := 51, pos := _, after := #[{ on := 0, ground := Go.Ground.data }, { on := 1, ground := Go.Ground.data }, { on := 2, ground := Go.Ground.data }], guard := none }) rfl (fun K' hK' => ?_) (AllReadyH.cons (o := { dst := some 220, op := Go.Op.buildSlice 30 2 #[(0, Go.Operand.tmp 215), (1, Go.Operand.tmp 219)], type := 30, pos := _, after := #[{ on := 9, ground := Go.Ground.data }, { on := 13, ground := Go.Ground.data }], guard := none }) rfl (fun K' hK' => ?_) (AllReadyH.cons (o := { dst := some 27, op := Go.Op.alloc 57, type := 0, pos := _, after := #[], guard := none }) rfl (fun K' hK' => ?_) AllReadyH.nil))
  · go_simp
    have bS := one_alloc y0 (.cells #[.string { data := #[99] }, .int .i64 3, .int .i64 0, .string { data := #[101] }, .int .i64 2, .int .i64 0, .string { data := #[107] }, .int .i64 3, .int .i64 0] 50)
    have hl : y0.heap.size < (y0.alloc (.cells #[.string { data := #[99] }, .int .i64 3, .int .i64 0, .string { data := #[101] }, .int .i64 2, .int .i64 0, .string { data := #[107] }, .int .i64 3, .int .i64 0] 50)).heap.size := by simp
    have c3 : CA (y0.alloc (.cells #[.string { data := #[99] }, .int .i64 3, .int .i64 0, .string { data := #[101] }, .int .i64 2, .int .i64 0, .string { data := #[107] }, .int .i64 3, .int .i64 0] 50)) y0.heap.size [.string { data := #[99] }, .int .i64 3, .int .i64 0, .string { data := #[101] }, .int .i64 2, .int .i64 0, .string { data := #[107] }, .int .i64 3, .int .i64 0] := CA.new _ _ _
    replace cV := cV.below bS
    have bzz := bS
    have hbs := bzz.size
    refine hK'.out _ _ cV (fun hHeld => ?_)
    clear hK' K' bS
    try simp only [Act.put, List.setIfInBounds_toArray, List.set_cons_zero, List.set_cons_succ]
    generalize y0.alloc (.cells #[.string { data := #[99] }, .int .i64 3, .int .i64 0, .string { data := #[101] }, .int .i64 2, .int .i64 0, .string { data := #[107] }, .int .i64 3, .int .i64 0] 50) = yn at c3 cV bzz hl hbs hHeld ⊢
    generalize eP1 : y0.heap.size = P1 at c3 cV hl hbs hHeld ⊢
    exact keya yn P1 ⟨c3, cV, bzz, (by omega), hVl⟩
  · go_simp
    have bS := one_alloc y0 (.cells #[.int .u8 0, .int .i64 (fs : Int), .int .i64 0, .string { data := #[] }, .int .u8 0, .int .i64 (sn : Int), .int .i64 0, .string { data := #[] }] 26)
    have hl : y0.heap.size < (y0.alloc (.cells #[.int .u8 0, .int .i64 (fs : Int), .int .i64 0, .string { data := #[] }, .int .u8 0, .int .i64 (sn : Int), .int .i64 0, .string { data := #[] }] 26)).heap.size := by simp
    have c14 : CA (y0.alloc (.cells #[.int .u8 0, .int .i64 (fs : Int), .int .i64 0, .string { data := #[] }, .int .u8 0, .int .i64 (sn : Int), .int .i64 0, .string { data := #[] }] 26)) y0.heap.size [.int .u8 0, .int .i64 (fs : Int), .int .i64 0, .string { data := #[] }, .int .u8 0, .int .i64 (sn : Int), .int .i64 0, .string { data := #[] }] := CA.new _ _ _
    replace cV := cV.below bS
    have bzz := bS
    have hbs := bzz.size
    refine hK'.out _ _ cV (fun hHeld => ?_)
    clear hK' K' bS
    try simp only [Act.put, List.setIfInBounds_toArray, List.set_cons_zero, List.set_cons_succ]
    generalize y0.alloc (.cells #[.int .u8 0, .int .i64 (fs : Int), .int .i64 0, .string { data := #[] }, .int .u8 0, .int .i64 (sn : Int), .int .i64 0, .string { data := #[] }] 26) = yn at c14 cV bzz hl hbs hHeld ⊢
    generalize eP2 : y0.heap.size = P2 at c14 cV hl hbs hHeld ⊢
    refine wpAnyH_take (i := 15) (oi := { dst := some 221, op := Go.Op.build 34 #[(0, Go.Operand.const (Go.Value.string { data := #[101] })), (1, Go.Operand.tmp 220)], type := 34, pos := _, after := #[{ on := 14, ground := Go.Ground.data }], guard := none }) (v := ?vv49107) rfl (by kernel_rfl) (by kernel_rfl) (by kernel_rfl) (fun _ _ _ h => h) (Or.inl ⟨by rfl, ?hy49107⟩) (by assumption) ?tk49107
    case hy49107 => (intro w hSw; (try dsimp only at hSw); go_simp; (try with_reducible rfl))
    try simp only [Act.put, List.setIfInBounds_toArray, List.set_cons_zero, List.set_cons_succ]
    refine wpAnyH_take (i := 16) (oi := { dst := some 222, op := Go.Op.build 36 #[(0, Go.Operand.const (Go.Value.int Go.IntKind.u8 0)), (2, Go.Operand.tmp 221)], type := 36, pos := _, after := #[{ on := 15, ground := Go.Ground.data }], guard := none }) (v := ?vv49108) rfl (by kernel_rfl) (by kernel_rfl) (by kernel_rfl) (fun _ _ _ h => h) (Or.inl ⟨by rfl, ?hy49108⟩) (by assumption) ?tk49108
    case hy49108 => (intro w hSw; (try dsimp only at hSw); go_simp; (try with_reducible rfl))
    try simp only [Act.put, List.setIfInBounds_toArray, List.set_cons_zero, List.set_cons_succ]
    exact keyb yn P2 ⟨c14, cV, bzz, (by omega), hVl⟩
  · go_simp
    have bS := one_alloc y0 (.cells #[.slice none 0 0, .slice none 0 0, .int .i64 0] 57)
    have hl : y0.heap.size < (y0.alloc (.cells #[.slice none 0 0, .slice none 0 0, .int .i64 0] 57)).heap.size := by simp
    have c24 : CA (y0.alloc (.cells #[.slice none 0 0, .slice none 0 0, .int .i64 0] 57)) y0.heap.size [.slice none 0 0, .slice none 0 0, .int .i64 0] := CA.new _ _ _
    have nf : ∀ o, (y0.alloc (.cells #[.slice none 0 0, .slice none 0 0, .int .i64 0] 57)).frozen? ⟨y0.heap.size, o, none⟩ = false := fun o => new_frz rfl _ _ _
    replace cV := cV.below bS
    have bzz := bS
    have hbs := bzz.size
    refine hK'.out _ _ cV (fun hHeld => ?_)
    clear hK' K' bS
    try simp only [Act.put, List.setIfInBounds_toArray, List.set_cons_zero, List.set_cons_succ]
    generalize y0.alloc (.cells #[.slice none 0 0, .slice none 0 0, .int .i64 0] 57) = yn at c24 cV bzz hl hbs hHeld nf ⊢
    generalize eN : y0.heap.size = N at c24 cV hl hbs hHeld nf ⊢
    exact keye yn N ⟨c24, cV, bzz, (by omega), hVl, nf, (by omega)⟩
  · intro y N hF
    obtain ⟨c24, cV, bz, lN, hVl, nf, lN0⟩ := hF
    have hHeld := cV
    refine wpAnyH_ready (rs := [3, 14]) (by kernel_rfl) (by simp) ?_
    refine AllReadyH.cons (o := { dst := some 209, op := Go.Op.buildSlice 51 3 #[(0, Go.Operand.tmp 206), (1, Go.Operand.tmp 207), (2, Go.Operand.tmp 208)], type := 51, pos := _, after := #[{ on := 0, ground := Go.Ground.data }, { on := 1, ground := Go.Ground.data }, { on := 2, ground := Go.Ground.data }], guard := none }) rfl (fun K' hK' => ?_) (AllReadyH.cons (o := { dst := some 220, op := Go.Op.buildSlice 30 2 #[(0, Go.Operand.tmp 215), (1, Go.Operand.tmp 219)], type := 30, pos := _, after := #[{ on := 9, ground := Go.Ground.data }, { on := 13, ground := Go.Ground.data }], guard := none }) rfl (fun K' hK' => ?_) AllReadyH.nil)
    · go_simp
      have bS := one_alloc y (.cells #[.string { data := #[99] }, .int .i64 3, .int .i64 0, .string { data := #[101] }, .int .i64 2, .int .i64 0, .string { data := #[107] }, .int .i64 3, .int .i64 0] 50)
      have hl : y.heap.size < (y.alloc (.cells #[.string { data := #[99] }, .int .i64 3, .int .i64 0, .string { data := #[101] }, .int .i64 2, .int .i64 0, .string { data := #[107] }, .int .i64 3, .int .i64 0] 50)).heap.size := by simp
      replace c24 := c24.below bS
      have c3 : CA (y.alloc (.cells #[.string { data := #[99] }, .int .i64 3, .int .i64 0, .string { data := #[101] }, .int .i64 2, .int .i64 0, .string { data := #[107] }, .int .i64 3, .int .i64 0] 50)) y.heap.size [.string { data := #[99] }, .int .i64 3, .int .i64 0, .string { data := #[101] }, .int .i64 2, .int .i64 0, .string { data := #[107] }, .int .i64 3, .int .i64 0] := CA.new _ _ _
      replace nf : ∀ o, (y.alloc (.cells #[.string { data := #[99] }, .int .i64 3, .int .i64 0, .string { data := #[101] }, .int .i64 2, .int .i64 0, .string { data := #[107] }, .int .i64 3, .int .i64 0] 50)).frozen? ⟨N, o, none⟩ = false := fun o => (World.frozen?_of_block (a := ⟨N, o, none⟩) (bS.block N lN)).trans (nf o)
      replace cV := cV.below bS
      have bzz := then_ bz bS
      have hbs := bzz.size
      have hbs0 := bz.size
      clear hHeld
      refine hK'.out _ _ cV (fun hHeld => ?_)
      clear hK' K' bS
      try simp only [Act.put, List.setIfInBounds_toArray, List.set_cons_zero, List.set_cons_succ]
      generalize y.alloc (.cells #[.string { data := #[99] }, .int .i64 3, .int .i64 0, .string { data := #[101] }, .int .i64 2, .int .i64 0, .string { data := #[107] }, .int .i64 3, .int .i64 0] 50) = yn at c3 c24 cV bzz hl hbs hHeld nf ⊢
      generalize eP1 : y.heap.size = P1 at c3 c24 cV hl hbs hHeld nf hbs0 ⊢
      exact keyae yn P1 N ⟨c3, c24, cV, bzz, (by omega), (by omega), hVl, nf, (by omega), (by omega)⟩
    · go_simp
      have bS := one_alloc y (.cells #[.int .u8 0, .int .i64 (fs : Int), .int .i64 0, .string { data := #[] }, .int .u8 0, .int .i64 (sn : Int), .int .i64 0, .string { data := #[] }] 26)
      have hl : y.heap.size < (y.alloc (.cells #[.int .u8 0, .int .i64 (fs : Int), .int .i64 0, .string { data := #[] }, .int .u8 0, .int .i64 (sn : Int), .int .i64 0, .string { data := #[] }] 26)).heap.size := by simp
      replace c24 := c24.below bS
      have c14 : CA (y.alloc (.cells #[.int .u8 0, .int .i64 (fs : Int), .int .i64 0, .string { data := #[] }, .int .u8 0, .int .i64 (sn : Int), .int .i64 0, .string { data := #[] }] 26)) y.heap.size [.int .u8 0, .int .i64 (fs : Int), .int .i64 0, .string { data := #[] }, .int .u8 0, .int .i64 (sn : Int), .int .i64 0, .string { data := #[] }] := CA.new _ _ _
      replace nf : ∀ o, (y.alloc (.cells #[.int .u8 0, .int .i64 (fs : Int), .int .i64 0, .string { data := #[] }, .int .u8 0, .int .i64 (sn : Int), .int .i64 0, .string { data := #[] }] 26)).frozen? ⟨N, o, none⟩ = false := fun o => (World.frozen?_of_block (a := ⟨N, o, none⟩) (bS.block N lN)).trans (nf o)
      replace cV := cV.below bS
      have bzz := then_ bz bS
      have hbs := bzz.size
      have hbs0 := bz.size
      clear hHeld
      refine hK'.out _ _ cV (fun hHeld => ?_)
      clear hK' K' bS
      try simp only [Act.put, List.setIfInBounds_toArray, List.set_cons_zero, List.set_cons_succ]
      generalize y.alloc (.cells #[.int .u8 0, .int .i64 (fs : Int), .int .i64 0, .string { data := #[] }, .int .u8 0, .int .i64 (sn : Int), .int .i64 0, .string { data := #[] }] 26) = yn at c14 c24 cV bzz hl hbs hHeld nf ⊢
      generalize eP2 : y.heap.size = P2 at c14 c24 cV hl hbs hHeld nf hbs0 ⊢
      refine wpAnyH_take (i := 15) (oi := { dst := some 221, op := Go.Op.build 34 #[(0, Go.Operand.const (Go.Value.string { data := #[101] })), (1, Go.Operand.tmp 220)], type := 34, pos := _, after := #[{ on := 14, ground := Go.Ground.data }], guard := none }) (v := ?vv49109) rfl (by kernel_rfl) (by kernel_rfl) (by kernel_rfl) (fun _ _ _ h => h) (Or.inl ⟨by rfl, ?hy49109⟩) (by assumption) ?tk49109
      case hy49109 => (intro w hSw; (try dsimp only at hSw); go_simp; (try with_reducible rfl))
      try simp only [Act.put, List.setIfInBounds_toArray, List.set_cons_zero, List.set_cons_succ]
      refine wpAnyH_take (i := 16) (oi := { dst := some 222, op := Go.Op.build 36 #[(0, Go.Operand.const (Go.Value.int Go.IntKind.u8 0)), (2, Go.Operand.tmp 221)], type := 36, pos := _, after := #[{ on := 15, ground := Go.Ground.data }], guard := none }) (v := ?vv49110) rfl (by kernel_rfl) (by kernel_rfl) (by kernel_rfl) (fun _ _ _ h => h) (Or.inl ⟨by rfl, ?hy49110⟩) (by assumption) ?tk49110
      case hy49110 => (intro w hSw; (try dsimp only at hSw); go_simp; (try with_reducible rfl))
      try simp only [Act.put, List.setIfInBounds_toArray, List.set_cons_zero, List.set_cons_succ]
      exact keybe yn P2 N ⟨c14, c24, cV, bzz, (by omega), (by omega), hVl, nf, (by omega), (by omega)⟩
  · intro y P2 hF
    obtain ⟨c14, cV, bz, lP2, hVl⟩ := hF
    have hHeld := cV
    refine wpAnyH_ready (rs := [3, 20, 24]) (by kernel_rfl) (by simp) ?_
    refine AllReadyH.cons (o := { dst := some 209, op := Go.Op.buildSlice 51 3 #[(0, Go.Operand.tmp 206), (1, Go.Operand.tmp 207), (2, Go.Operand.tmp 208)], type := 51, pos := _, after := #[{ on := 0, ground := Go.Ground.data }, { on := 1, ground := Go.Ground.data }, { on := 2, ground := Go.Ground.data }], guard := none }) rfl (fun K' hK' => ?_) (AllReadyH.cons (o := { dst := some 226, op := Go.Op.buildSlice 52 2 #[(0, Go.Operand.tmp 222), (1, Go.Operand.tmp 225)], type := 52, pos := _, after := #[{ on := 16, ground := Go.Ground.data }, { on := 19, ground := Go.Ground.data }], guard := none }) rfl (fun K' hK' => ?_) (AllReadyH.cons (o := { dst := some 27, op := Go.Op.alloc 57, type := 0, pos := _, after := #[], guard := none }) rfl (fun K' hK' => ?_) AllReadyH.nil))
    · go_simp
      have bS := one_alloc y (.cells #[.string { data := #[99] }, .int .i64 3, .int .i64 0, .string { data := #[101] }, .int .i64 2, .int .i64 0, .string { data := #[107] }, .int .i64 3, .int .i64 0] 50)
      have hl : y.heap.size < (y.alloc (.cells #[.string { data := #[99] }, .int .i64 3, .int .i64 0, .string { data := #[101] }, .int .i64 2, .int .i64 0, .string { data := #[107] }, .int .i64 3, .int .i64 0] 50)).heap.size := by simp
      replace c14 := c14.below bS
      have c3 : CA (y.alloc (.cells #[.string { data := #[99] }, .int .i64 3, .int .i64 0, .string { data := #[101] }, .int .i64 2, .int .i64 0, .string { data := #[107] }, .int .i64 3, .int .i64 0] 50)) y.heap.size [.string { data := #[99] }, .int .i64 3, .int .i64 0, .string { data := #[101] }, .int .i64 2, .int .i64 0, .string { data := #[107] }, .int .i64 3, .int .i64 0] := CA.new _ _ _
      replace cV := cV.below bS
      have bzz := then_ bz bS
      have hbs := bzz.size
      have hbs0 := bz.size
      clear hHeld
      refine hK'.out _ _ cV (fun hHeld => ?_)
      clear hK' K' bS
      try simp only [Act.put, List.setIfInBounds_toArray, List.set_cons_zero, List.set_cons_succ]
      generalize y.alloc (.cells #[.string { data := #[99] }, .int .i64 3, .int .i64 0, .string { data := #[101] }, .int .i64 2, .int .i64 0, .string { data := #[107] }, .int .i64 3, .int .i64 0] 50) = yn at c3 c14 cV bzz hl hbs hHeld ⊢
      generalize eP1 : y.heap.size = P1 at c3 c14 cV hl hbs hHeld hbs0 ⊢
      exact keyab yn P1 P2 ⟨c3, c14, cV, bzz, (by omega), (by omega), hVl⟩
    · go_simp
      have bS := one_alloc y (.cells #[.int .u8 0, .int .u8 0, .string { data := #[101] }, .slice (some ⟨P2, 0, none⟩) 2 2, .int .u8 0, .int .u8 0, .string { data := #[99] }, .slice (some ⟨V, 0, none⟩) 3 3] 36)
      have hl : y.heap.size < (y.alloc (.cells #[.int .u8 0, .int .u8 0, .string { data := #[101] }, .slice (some ⟨P2, 0, none⟩) 2 2, .int .u8 0, .int .u8 0, .string { data := #[99] }, .slice (some ⟨V, 0, none⟩) 3 3] 36)).heap.size := by simp
      replace c14 := c14.below bS
      have c20 : CA (y.alloc (.cells #[.int .u8 0, .int .u8 0, .string { data := #[101] }, .slice (some ⟨P2, 0, none⟩) 2 2, .int .u8 0, .int .u8 0, .string { data := #[99] }, .slice (some ⟨V, 0, none⟩) 3 3] 36)) y.heap.size [.int .u8 0, .int .u8 0, .string { data := #[101] }, .slice (some ⟨P2, 0, none⟩) 2 2, .int .u8 0, .int .u8 0, .string { data := #[99] }, .slice (some ⟨V, 0, none⟩) 3 3] := CA.new _ _ _
      replace cV := cV.below bS
      have bzz := then_ bz bS
      have hbs := bzz.size
      have hbs0 := bz.size
      clear hHeld
      refine hK'.out _ _ cV (fun hHeld => ?_)
      clear hK' K' bS
      try simp only [Act.put, List.setIfInBounds_toArray, List.set_cons_zero, List.set_cons_succ]
      generalize y.alloc (.cells #[.int .u8 0, .int .u8 0, .string { data := #[101] }, .slice (some ⟨P2, 0, none⟩) 2 2, .int .u8 0, .int .u8 0, .string { data := #[99] }, .slice (some ⟨V, 0, none⟩) 3 3] 36) = yn at c14 c20 cV bzz hl hbs hHeld ⊢
      generalize eP3 : y.heap.size = P3 at c14 c20 cV hl hbs hHeld hbs0 ⊢
      refine wpAnyH_take (i := 21) (oi := { dst := some 227, op := Go.Op.build 54 #[(0, Go.Operand.tmp 211), (1, Go.Operand.tmp 226)], type := 54, pos := _, after := #[{ on := 5, ground := Go.Ground.data }, { on := 20, ground := Go.Ground.data }], guard := none }) (v := ?vv49113) rfl (by kernel_rfl) (by kernel_rfl) (by kernel_rfl) (fun _ _ _ h => h) (Or.inl ⟨by rfl, ?hy49113⟩) (by assumption) ?tk49113
      case hy49113 => (intro w hSw; (try dsimp only at hSw); go_simp; (try with_reducible rfl))
      try simp only [Act.put, List.setIfInBounds_toArray, List.set_cons_zero, List.set_cons_succ]
      exact keybc yn P2 P3 ⟨c14, c20, cV, bzz, (by omega), (by omega), hVl⟩
    · go_simp
      have bS := one_alloc y (.cells #[.slice none 0 0, .slice none 0 0, .int .i64 0] 57)
      have hl : y.heap.size < (y.alloc (.cells #[.slice none 0 0, .slice none 0 0, .int .i64 0] 57)).heap.size := by simp
      replace c14 := c14.below bS
      have c24 : CA (y.alloc (.cells #[.slice none 0 0, .slice none 0 0, .int .i64 0] 57)) y.heap.size [.slice none 0 0, .slice none 0 0, .int .i64 0] := CA.new _ _ _
      have nf : ∀ o, (y.alloc (.cells #[.slice none 0 0, .slice none 0 0, .int .i64 0] 57)).frozen? ⟨y.heap.size, o, none⟩ = false := fun o => new_frz rfl _ _ _
      replace cV := cV.below bS
      have bzz := then_ bz bS
      have hbs := bzz.size
      have hbs0 := bz.size
      clear hHeld
      refine hK'.out _ _ cV (fun hHeld => ?_)
      clear hK' K' bS
      try simp only [Act.put, List.setIfInBounds_toArray, List.set_cons_zero, List.set_cons_succ]
      generalize y.alloc (.cells #[.slice none 0 0, .slice none 0 0, .int .i64 0] 57) = yn at c14 c24 cV bzz hl hbs hHeld nf ⊢
      generalize eN : y.heap.size = N at c14 c24 cV hl hbs hHeld nf hbs0 ⊢
      exact keybe yn P2 N ⟨c14, c24, cV, bzz, (by omega), (by omega), hVl, nf, (by omega), (by omega)⟩
  · intro y P1 hF
    obtain ⟨c3, cV, bz, lP1, hVl⟩ := hF
    have hHeld := cV
    refine wpAnyH_ready (rs := [14, 24]) (by kernel_rfl) (by simp) ?_
    refine AllReadyH.cons (o := { dst := some 220, op := Go.Op.buildSlice 30 2 #[(0, Go.Operand.tmp 215), (1, Go.Operand.tmp 219)], type := 30, pos := _, after := #[{ on := 9, ground := Go.Ground.data }, { on := 13, ground := Go.Ground.data }], guard := none }) rfl (fun K' hK' => ?_) (AllReadyH.cons (o := { dst := some 27, op := Go.Op.alloc 57, type := 0, pos := _, after := #[], guard := none }) rfl (fun K' hK' => ?_) AllReadyH.nil)
    · go_simp
      have bS := one_alloc y (.cells #[.int .u8 0, .int .i64 (fs : Int), .int .i64 0, .string { data := #[] }, .int .u8 0, .int .i64 (sn : Int), .int .i64 0, .string { data := #[] }] 26)
      have hl : y.heap.size < (y.alloc (.cells #[.int .u8 0, .int .i64 (fs : Int), .int .i64 0, .string { data := #[] }, .int .u8 0, .int .i64 (sn : Int), .int .i64 0, .string { data := #[] }] 26)).heap.size := by simp
      replace c3 := c3.below bS
      have c14 : CA (y.alloc (.cells #[.int .u8 0, .int .i64 (fs : Int), .int .i64 0, .string { data := #[] }, .int .u8 0, .int .i64 (sn : Int), .int .i64 0, .string { data := #[] }] 26)) y.heap.size [.int .u8 0, .int .i64 (fs : Int), .int .i64 0, .string { data := #[] }, .int .u8 0, .int .i64 (sn : Int), .int .i64 0, .string { data := #[] }] := CA.new _ _ _
      replace cV := cV.below bS
      have bzz := then_ bz bS
      have hbs := bzz.size
      have hbs0 := bz.size
      clear hHeld
      refine hK'.out _ _ cV (fun hHeld => ?_)
      clear hK' K' bS
      try simp only [Act.put, List.setIfInBounds_toArray, List.set_cons_zero, List.set_cons_succ]
      generalize y.alloc (.cells #[.int .u8 0, .int .i64 (fs : Int), .int .i64 0, .string { data := #[] }, .int .u8 0, .int .i64 (sn : Int), .int .i64 0, .string { data := #[] }] 26) = yn at c3 c14 cV bzz hl hbs hHeld ⊢
      generalize eP2 : y.heap.size = P2 at c3 c14 cV hl hbs hHeld hbs0 ⊢
      refine wpAnyH_take (i := 15) (oi := { dst := some 221, op := Go.Op.build 34 #[(0, Go.Operand.const (Go.Value.string { data := #[101] })), (1, Go.Operand.tmp 220)], type := 34, pos := _, after := #[{ on := 14, ground := Go.Ground.data }], guard := none }) (v := ?vv49114) rfl (by kernel_rfl) (by kernel_rfl) (by kernel_rfl) (fun _ _ _ h => h) (Or.inl ⟨by rfl, ?hy49114⟩) (by assumption) ?tk49114
      case hy49114 => (intro w hSw; (try dsimp only at hSw); go_simp; (try with_reducible rfl))
      try simp only [Act.put, List.setIfInBounds_toArray, List.set_cons_zero, List.set_cons_succ]
      refine wpAnyH_take (i := 16) (oi := { dst := some 222, op := Go.Op.build 36 #[(0, Go.Operand.const (Go.Value.int Go.IntKind.u8 0)), (2, Go.Operand.tmp 221)], type := 36, pos := _, after := #[{ on := 15, ground := Go.Ground.data }], guard := none }) (v := ?vv49115) rfl (by kernel_rfl) (by kernel_rfl) (by kernel_rfl) (fun _ _ _ h => h) (Or.inl ⟨by rfl, ?hy49115⟩) (by assumption) ?tk49115
      case hy49115 => (intro w hSw; (try dsimp only at hSw); go_simp; (try with_reducible rfl))
      try simp only [Act.put, List.setIfInBounds_toArray, List.set_cons_zero, List.set_cons_succ]
      exact keyab yn P1 P2 ⟨c3, c14, cV, bzz, (by omega), (by omega), hVl⟩
    · go_simp
      have bS := one_alloc y (.cells #[.slice none 0 0, .slice none 0 0, .int .i64 0] 57)
      have hl : y.heap.size < (y.alloc (.cells #[.slice none 0 0, .slice none 0 0, .int .i64 0] 57)).heap.size := by simp
      replace c3 := c3.below bS
      have c24 : CA (y.alloc (.cells #[.slice none 0 0, .slice none 0 0, .int .i64 0] 57)) y.heap.size [.slice none 0 0, .slice none 0 0, .int .i64 0] := CA.new _ _ _
      have nf : ∀ o, (y.alloc (.cells #[.slice none 0 0, .slice none 0 0, .int .i64 0] 57)).frozen? ⟨y.heap.size, o, none⟩ = false := fun o => new_frz rfl _ _ _
      replace cV := cV.below bS
      have bzz := then_ bz bS
      have hbs := bzz.size
      have hbs0 := bz.size
      clear hHeld
      refine hK'.out _ _ cV (fun hHeld => ?_)
      clear hK' K' bS
      try simp only [Act.put, List.setIfInBounds_toArray, List.set_cons_zero, List.set_cons_succ]
      generalize y.alloc (.cells #[.slice none 0 0, .slice none 0 0, .int .i64 0] 57) = yn at c3 c24 cV bzz hl hbs hHeld nf ⊢
      generalize eN : y.heap.size = N at c3 c24 cV hl hbs hHeld nf hbs0 ⊢
      exact keyae yn P1 N ⟨c3, c24, cV, bzz, (by omega), (by omega), hVl, nf, (by omega), (by omega)⟩
  · intro y P2 N hF
    obtain ⟨c14, c24, cV, bz, lP2, lN, hVl, nf, lN0, xP2⟩ := hF
    have hHeld := cV
    refine wpAnyH_ready (rs := [3, 20]) (by kernel_rfl) (by simp) ?_
    refine AllReadyH.cons (o := { dst := some 209, op := Go.Op.buildSlice 51 3 #[(0, Go.Operand.tmp 206), (1, Go.Operand.tmp 207), (2, Go.Operand.tmp 208)], type := 51, pos := _, after := #[{ on := 0, ground := Go.Ground.data }, { on := 1, ground := Go.Ground.data }, { on := 2, ground := Go.Ground.data }], guard := none }) rfl (fun K' hK' => ?_) (AllReadyH.cons (o := { dst := some 226, op := Go.Op.buildSlice 52 2 #[(0, Go.Operand.tmp 222), (1, Go.Operand.tmp 225)], type := 52, pos := _, after := #[{ on := 16, ground := Go.Ground.data }, { on := 19, ground := Go.Ground.data }], guard := none }) rfl (fun K' hK' => ?_) AllReadyH.nil)
    · go_simp
      have bS := one_alloc y (.cells #[.string { data := #[99] }, .int .i64 3, .int .i64 0, .string { data := #[101] }, .int .i64 2, .int .i64 0, .string { data := #[107] }, .int .i64 3, .int .i64 0] 50)
      have hl : y.heap.size < (y.alloc (.cells #[.string { data := #[99] }, .int .i64 3, .int .i64 0, .string { data := #[101] }, .int .i64 2, .int .i64 0, .string { data := #[107] }, .int .i64 3, .int .i64 0] 50)).heap.size := by simp
      replace c14 := c14.below bS
      replace c24 := c24.below bS
      have c3 : CA (y.alloc (.cells #[.string { data := #[99] }, .int .i64 3, .int .i64 0, .string { data := #[101] }, .int .i64 2, .int .i64 0, .string { data := #[107] }, .int .i64 3, .int .i64 0] 50)) y.heap.size [.string { data := #[99] }, .int .i64 3, .int .i64 0, .string { data := #[101] }, .int .i64 2, .int .i64 0, .string { data := #[107] }, .int .i64 3, .int .i64 0] := CA.new _ _ _
      replace nf : ∀ o, (y.alloc (.cells #[.string { data := #[99] }, .int .i64 3, .int .i64 0, .string { data := #[101] }, .int .i64 2, .int .i64 0, .string { data := #[107] }, .int .i64 3, .int .i64 0] 50)).frozen? ⟨N, o, none⟩ = false := fun o => (World.frozen?_of_block (a := ⟨N, o, none⟩) (bS.block N lN)).trans (nf o)
      replace cV := cV.below bS
      have bzz := then_ bz bS
      have hbs := bzz.size
      have hbs0 := bz.size
      clear hHeld
      refine hK'.out _ _ cV (fun hHeld => ?_)
      clear hK' K' bS
      try simp only [Act.put, List.setIfInBounds_toArray, List.set_cons_zero, List.set_cons_succ]
      generalize y.alloc (.cells #[.string { data := #[99] }, .int .i64 3, .int .i64 0, .string { data := #[101] }, .int .i64 2, .int .i64 0, .string { data := #[107] }, .int .i64 3, .int .i64 0] 50) = yn at c3 c14 c24 cV bzz hl hbs hHeld nf ⊢
      generalize eP1 : y.heap.size = P1 at c3 c14 c24 cV hl hbs hHeld nf hbs0 ⊢
      exact keyabe yn P1 P2 N ⟨c3, c14, c24, cV, bzz, (by omega), (by omega), (by omega), hVl, nf, (by omega), (by omega), (by omega)⟩
    · go_simp
      have bS := one_alloc y (.cells #[.int .u8 0, .int .u8 0, .string { data := #[101] }, .slice (some ⟨P2, 0, none⟩) 2 2, .int .u8 0, .int .u8 0, .string { data := #[99] }, .slice (some ⟨V, 0, none⟩) 3 3] 36)
      have hl : y.heap.size < (y.alloc (.cells #[.int .u8 0, .int .u8 0, .string { data := #[101] }, .slice (some ⟨P2, 0, none⟩) 2 2, .int .u8 0, .int .u8 0, .string { data := #[99] }, .slice (some ⟨V, 0, none⟩) 3 3] 36)).heap.size := by simp
      replace c14 := c14.below bS
      replace c24 := c24.below bS
      have c20 : CA (y.alloc (.cells #[.int .u8 0, .int .u8 0, .string { data := #[101] }, .slice (some ⟨P2, 0, none⟩) 2 2, .int .u8 0, .int .u8 0, .string { data := #[99] }, .slice (some ⟨V, 0, none⟩) 3 3] 36)) y.heap.size [.int .u8 0, .int .u8 0, .string { data := #[101] }, .slice (some ⟨P2, 0, none⟩) 2 2, .int .u8 0, .int .u8 0, .string { data := #[99] }, .slice (some ⟨V, 0, none⟩) 3 3] := CA.new _ _ _
      replace nf : ∀ o, (y.alloc (.cells #[.int .u8 0, .int .u8 0, .string { data := #[101] }, .slice (some ⟨P2, 0, none⟩) 2 2, .int .u8 0, .int .u8 0, .string { data := #[99] }, .slice (some ⟨V, 0, none⟩) 3 3] 36)).frozen? ⟨N, o, none⟩ = false := fun o => (World.frozen?_of_block (a := ⟨N, o, none⟩) (bS.block N lN)).trans (nf o)
      replace cV := cV.below bS
      have bzz := then_ bz bS
      have hbs := bzz.size
      have hbs0 := bz.size
      clear hHeld
      refine hK'.out _ _ cV (fun hHeld => ?_)
      clear hK' K' bS
      try simp only [Act.put, List.setIfInBounds_toArray, List.set_cons_zero, List.set_cons_succ]
      generalize y.alloc (.cells #[.int .u8 0, .int .u8 0, .string { data := #[101] }, .slice (some ⟨P2, 0, none⟩) 2 2, .int .u8 0, .int .u8 0, .string { data := #[99] }, .slice (some ⟨V, 0, none⟩) 3 3] 36) = yn at c14 c20 c24 cV bzz hl hbs hHeld nf ⊢
      generalize eP3 : y.heap.size = P3 at c14 c20 c24 cV hl hbs hHeld nf hbs0 ⊢
      refine wpAnyH_take (i := 21) (oi := { dst := some 227, op := Go.Op.build 54 #[(0, Go.Operand.tmp 211), (1, Go.Operand.tmp 226)], type := 54, pos := _, after := #[{ on := 5, ground := Go.Ground.data }, { on := 20, ground := Go.Ground.data }], guard := none }) (v := ?vv49118) rfl (by kernel_rfl) (by kernel_rfl) (by kernel_rfl) (fun _ _ _ h => h) (Or.inl ⟨by rfl, ?hy49118⟩) (by assumption) ?tk49118
      case hy49118 => (intro w hSw; (try dsimp only at hSw); go_simp; (try with_reducible rfl))
      try simp only [Act.put, List.setIfInBounds_toArray, List.set_cons_zero, List.set_cons_succ]
      exact keybce yn P2 P3 N ⟨c14, c20, c24, cV, bzz, (by omega), (by omega), (by omega), hVl, nf, (by omega), (by omega), (by omega)⟩
  · intro y P2 P3 hF
    obtain ⟨c14, c20, cV, bz, lP2, lP3, hVl⟩ := hF
    have hHeld := cV
    refine wpAnyH_ready (rs := [3, 22, 24]) (by kernel_rfl) (by simp) ?_
    refine AllReadyH.cons (o := { dst := some 209, op := Go.Op.buildSlice 51 3 #[(0, Go.Operand.tmp 206), (1, Go.Operand.tmp 207), (2, Go.Operand.tmp 208)], type := 51, pos := _, after := #[{ on := 0, ground := Go.Ground.data }, { on := 1, ground := Go.Ground.data }, { on := 2, ground := Go.Ground.data }], guard := none }) rfl (fun K' hK' => ?_) (AllReadyH.cons (o := { dst := some 228, op := Go.Op.buildSlice 55 1 #[(0, Go.Operand.tmp 227)], type := 55, pos := _, after := #[{ on := 21, ground := Go.Ground.data }], guard := none }) rfl (fun K' hK' => ?_) (AllReadyH.cons (o := { dst := some 27, op := Go.Op.alloc 57, type := 0, pos := _, after := #[], guard := none }) rfl (fun K' hK' => ?_) AllReadyH.nil))
    · go_simp
      have bS := one_alloc y (.cells #[.string { data := #[99] }, .int .i64 3, .int .i64 0, .string { data := #[101] }, .int .i64 2, .int .i64 0, .string { data := #[107] }, .int .i64 3, .int .i64 0] 50)
      have hl : y.heap.size < (y.alloc (.cells #[.string { data := #[99] }, .int .i64 3, .int .i64 0, .string { data := #[101] }, .int .i64 2, .int .i64 0, .string { data := #[107] }, .int .i64 3, .int .i64 0] 50)).heap.size := by simp
      replace c14 := c14.below bS
      replace c20 := c20.below bS
      have c3 : CA (y.alloc (.cells #[.string { data := #[99] }, .int .i64 3, .int .i64 0, .string { data := #[101] }, .int .i64 2, .int .i64 0, .string { data := #[107] }, .int .i64 3, .int .i64 0] 50)) y.heap.size [.string { data := #[99] }, .int .i64 3, .int .i64 0, .string { data := #[101] }, .int .i64 2, .int .i64 0, .string { data := #[107] }, .int .i64 3, .int .i64 0] := CA.new _ _ _
      replace cV := cV.below bS
      have bzz := then_ bz bS
      have hbs := bzz.size
      have hbs0 := bz.size
      clear hHeld
      refine hK'.out _ _ cV (fun hHeld => ?_)
      clear hK' K' bS
      try simp only [Act.put, List.setIfInBounds_toArray, List.set_cons_zero, List.set_cons_succ]
      generalize y.alloc (.cells #[.string { data := #[99] }, .int .i64 3, .int .i64 0, .string { data := #[101] }, .int .i64 2, .int .i64 0, .string { data := #[107] }, .int .i64 3, .int .i64 0] 50) = yn at c3 c14 c20 cV bzz hl hbs hHeld ⊢
      generalize eP1 : y.heap.size = P1 at c3 c14 c20 cV hl hbs hHeld hbs0 ⊢
      exact keyabc yn P1 P2 P3 ⟨c3, c14, c20, cV, bzz, (by omega), (by omega), (by omega), hVl⟩
    · go_simp
      have bS := one_alloc y (.cells #[.string { data := #[107] }, .slice (some ⟨V, 0, none⟩) 3 3, .slice (some ⟨P3, 0, none⟩) 2 2] 54)
      have hl : y.heap.size < (y.alloc (.cells #[.string { data := #[107] }, .slice (some ⟨V, 0, none⟩) 3 3, .slice (some ⟨P3, 0, none⟩) 2 2] 54)).heap.size := by simp
      replace c14 := c14.below bS
      replace c20 := c20.below bS
      have c22 : CA (y.alloc (.cells #[.string { data := #[107] }, .slice (some ⟨V, 0, none⟩) 3 3, .slice (some ⟨P3, 0, none⟩) 2 2] 54)) y.heap.size [.string { data := #[107] }, .slice (some ⟨V, 0, none⟩) 3 3, .slice (some ⟨P3, 0, none⟩) 2 2] := CA.new _ _ _
      replace cV := cV.below bS
      have bzz := then_ bz bS
      have hbs := bzz.size
      have hbs0 := bz.size
      clear hHeld
      refine hK'.out _ _ cV (fun hHeld => ?_)
      clear hK' K' bS
      try simp only [Act.put, List.setIfInBounds_toArray, List.set_cons_zero, List.set_cons_succ]
      generalize y.alloc (.cells #[.string { data := #[107] }, .slice (some ⟨V, 0, none⟩) 3 3, .slice (some ⟨P3, 0, none⟩) 2 2] 54) = yn at c14 c20 c22 cV bzz hl hbs hHeld ⊢
      generalize eP4 : y.heap.size = P4 at c14 c20 c22 cV hl hbs hHeld hbs0 ⊢
      exact keybcd yn P2 P3 P4 ⟨c14, c20, c22, cV, bzz, (by omega), (by omega), (by omega), hVl⟩
    · go_simp
      have bS := one_alloc y (.cells #[.slice none 0 0, .slice none 0 0, .int .i64 0] 57)
      have hl : y.heap.size < (y.alloc (.cells #[.slice none 0 0, .slice none 0 0, .int .i64 0] 57)).heap.size := by simp
      replace c14 := c14.below bS
      replace c20 := c20.below bS
      have c24 : CA (y.alloc (.cells #[.slice none 0 0, .slice none 0 0, .int .i64 0] 57)) y.heap.size [.slice none 0 0, .slice none 0 0, .int .i64 0] := CA.new _ _ _
      have nf : ∀ o, (y.alloc (.cells #[.slice none 0 0, .slice none 0 0, .int .i64 0] 57)).frozen? ⟨y.heap.size, o, none⟩ = false := fun o => new_frz rfl _ _ _
      replace cV := cV.below bS
      have bzz := then_ bz bS
      have hbs := bzz.size
      have hbs0 := bz.size
      clear hHeld
      refine hK'.out _ _ cV (fun hHeld => ?_)
      clear hK' K' bS
      try simp only [Act.put, List.setIfInBounds_toArray, List.set_cons_zero, List.set_cons_succ]
      generalize y.alloc (.cells #[.slice none 0 0, .slice none 0 0, .int .i64 0] 57) = yn at c14 c20 c24 cV bzz hl hbs hHeld nf ⊢
      generalize eN : y.heap.size = N at c14 c20 c24 cV hl hbs hHeld nf hbs0 ⊢
      exact keybce yn P2 P3 N ⟨c14, c20, c24, cV, bzz, (by omega), (by omega), (by omega), hVl, nf, (by omega), (by omega), (by omega)⟩
  · intro y P1 N hF
    obtain ⟨c3, c24, cV, bz, lP1, lN, hVl, nf, lN0, xP1⟩ := hF
    have hHeld := cV
    refine wpAnyH_ready (rs := [14]) (by kernel_rfl) (by simp) ?_
    refine AllReadyH.cons (o := { dst := some 220, op := Go.Op.buildSlice 30 2 #[(0, Go.Operand.tmp 215), (1, Go.Operand.tmp 219)], type := 30, pos := _, after := #[{ on := 9, ground := Go.Ground.data }, { on := 13, ground := Go.Ground.data }], guard := none }) rfl (fun K' hK' => ?_) AllReadyH.nil
    go_simp
    have bS := one_alloc y (.cells #[.int .u8 0, .int .i64 (fs : Int), .int .i64 0, .string { data := #[] }, .int .u8 0, .int .i64 (sn : Int), .int .i64 0, .string { data := #[] }] 26)
    have hl : y.heap.size < (y.alloc (.cells #[.int .u8 0, .int .i64 (fs : Int), .int .i64 0, .string { data := #[] }, .int .u8 0, .int .i64 (sn : Int), .int .i64 0, .string { data := #[] }] 26)).heap.size := by simp
    replace c3 := c3.below bS
    replace c24 := c24.below bS
    have c14 : CA (y.alloc (.cells #[.int .u8 0, .int .i64 (fs : Int), .int .i64 0, .string { data := #[] }, .int .u8 0, .int .i64 (sn : Int), .int .i64 0, .string { data := #[] }] 26)) y.heap.size [.int .u8 0, .int .i64 (fs : Int), .int .i64 0, .string { data := #[] }, .int .u8 0, .int .i64 (sn : Int), .int .i64 0, .string { data := #[] }] := CA.new _ _ _
    replace nf : ∀ o, (y.alloc (.cells #[.int .u8 0, .int .i64 (fs : Int), .int .i64 0, .string { data := #[] }, .int .u8 0, .int .i64 (sn : Int), .int .i64 0, .string { data := #[] }] 26)).frozen? ⟨N, o, none⟩ = false := fun o => (World.frozen?_of_block (a := ⟨N, o, none⟩) (bS.block N lN)).trans (nf o)
    replace cV := cV.below bS
    have bzz := then_ bz bS
    have hbs := bzz.size
    have hbs0 := bz.size
    clear hHeld
    refine hK'.out _ _ cV (fun hHeld => ?_)
    clear hK' K' bS
    try simp only [Act.put, List.setIfInBounds_toArray, List.set_cons_zero, List.set_cons_succ]
    generalize y.alloc (.cells #[.int .u8 0, .int .i64 (fs : Int), .int .i64 0, .string { data := #[] }, .int .u8 0, .int .i64 (sn : Int), .int .i64 0, .string { data := #[] }] 26) = yn at c3 c14 c24 cV bzz hl hbs hHeld nf ⊢
    generalize eP2 : y.heap.size = P2 at c3 c14 c24 cV hl hbs hHeld nf hbs0 ⊢
    refine wpAnyH_take (i := 15) (oi := { dst := some 221, op := Go.Op.build 34 #[(0, Go.Operand.const (Go.Value.string { data := #[101] })), (1, Go.Operand.tmp 220)], type := 34, pos := _, after := #[{ on := 14, ground := Go.Ground.data }], guard := none }) (v := ?vv49122) rfl (by kernel_rfl) (by kernel_rfl) (by kernel_rfl) (fun _ _ _ h => h) (Or.inl ⟨by rfl, ?hy49122⟩) (by assumption) ?tk49122
    case hy49122 => (intro w hSw; (try dsimp only at hSw); go_simp; (try with_reducible rfl))
    try simp only [Act.put, List.setIfInBounds_toArray, List.set_cons_zero, List.set_cons_succ]
    refine wpAnyH_take (i := 16) (oi := { dst := some 222, op := Go.Op.build 36 #[(0, Go.Operand.const (Go.Value.int Go.IntKind.u8 0)), (2, Go.Operand.tmp 221)], type := 36, pos := _, after := #[{ on := 15, ground := Go.Ground.data }], guard := none }) (v := ?vv49123) rfl (by kernel_rfl) (by kernel_rfl) (by kernel_rfl) (fun _ _ _ h => h) (Or.inl ⟨by rfl, ?hy49123⟩) (by assumption) ?tk49123
    case hy49123 => (intro w hSw; (try dsimp only at hSw); go_simp; (try with_reducible rfl))
    try simp only [Act.put, List.setIfInBounds_toArray, List.set_cons_zero, List.set_cons_succ]
    exact keyabe yn P1 P2 N ⟨c3, c14, c24, cV, bzz, (by omega), (by omega), (by omega), hVl, nf, (by omega), (by omega), (by omega)⟩
  · intro y P1 P2 hF
    obtain ⟨c3, c14, cV, bz, lP1, lP2, hVl⟩ := hF
    have hHeld := cV
    refine wpAnyH_ready (rs := [20, 24]) (by kernel_rfl) (by simp) ?_
    refine AllReadyH.cons (o := { dst := some 226, op := Go.Op.buildSlice 52 2 #[(0, Go.Operand.tmp 222), (1, Go.Operand.tmp 225)], type := 52, pos := _, after := #[{ on := 16, ground := Go.Ground.data }, { on := 19, ground := Go.Ground.data }], guard := none }) rfl (fun K' hK' => ?_) (AllReadyH.cons (o := { dst := some 27, op := Go.Op.alloc 57, type := 0, pos := _, after := #[], guard := none }) rfl (fun K' hK' => ?_) AllReadyH.nil)
    · go_simp
      have bS := one_alloc y (.cells #[.int .u8 0, .int .u8 0, .string { data := #[101] }, .slice (some ⟨P2, 0, none⟩) 2 2, .int .u8 0, .int .u8 0, .string { data := #[99] }, .slice (some ⟨V, 0, none⟩) 3 3] 36)
      have hl : y.heap.size < (y.alloc (.cells #[.int .u8 0, .int .u8 0, .string { data := #[101] }, .slice (some ⟨P2, 0, none⟩) 2 2, .int .u8 0, .int .u8 0, .string { data := #[99] }, .slice (some ⟨V, 0, none⟩) 3 3] 36)).heap.size := by simp
      replace c3 := c3.below bS
      replace c14 := c14.below bS
      have c20 : CA (y.alloc (.cells #[.int .u8 0, .int .u8 0, .string { data := #[101] }, .slice (some ⟨P2, 0, none⟩) 2 2, .int .u8 0, .int .u8 0, .string { data := #[99] }, .slice (some ⟨V, 0, none⟩) 3 3] 36)) y.heap.size [.int .u8 0, .int .u8 0, .string { data := #[101] }, .slice (some ⟨P2, 0, none⟩) 2 2, .int .u8 0, .int .u8 0, .string { data := #[99] }, .slice (some ⟨V, 0, none⟩) 3 3] := CA.new _ _ _
      replace cV := cV.below bS
      have bzz := then_ bz bS
      have hbs := bzz.size
      have hbs0 := bz.size
      clear hHeld
      refine hK'.out _ _ cV (fun hHeld => ?_)
      clear hK' K' bS
      try simp only [Act.put, List.setIfInBounds_toArray, List.set_cons_zero, List.set_cons_succ]
      generalize y.alloc (.cells #[.int .u8 0, .int .u8 0, .string { data := #[101] }, .slice (some ⟨P2, 0, none⟩) 2 2, .int .u8 0, .int .u8 0, .string { data := #[99] }, .slice (some ⟨V, 0, none⟩) 3 3] 36) = yn at c3 c14 c20 cV bzz hl hbs hHeld ⊢
      generalize eP3 : y.heap.size = P3 at c3 c14 c20 cV hl hbs hHeld hbs0 ⊢
      refine wpAnyH_take (i := 21) (oi := { dst := some 227, op := Go.Op.build 54 #[(0, Go.Operand.tmp 211), (1, Go.Operand.tmp 226)], type := 54, pos := _, after := #[{ on := 5, ground := Go.Ground.data }, { on := 20, ground := Go.Ground.data }], guard := none }) (v := ?vv49126) rfl (by kernel_rfl) (by kernel_rfl) (by kernel_rfl) (fun _ _ _ h => h) (Or.inl ⟨by rfl, ?hy49126⟩) (by assumption) ?tk49126
      case hy49126 => (intro w hSw; (try dsimp only at hSw); go_simp; (try with_reducible rfl))
      try simp only [Act.put, List.setIfInBounds_toArray, List.set_cons_zero, List.set_cons_succ]
      exact keyabc yn P1 P2 P3 ⟨c3, c14, c20, cV, bzz, (by omega), (by omega), (by omega), hVl⟩
    · go_simp
      have bS := one_alloc y (.cells #[.slice none 0 0, .slice none 0 0, .int .i64 0] 57)
      have hl : y.heap.size < (y.alloc (.cells #[.slice none 0 0, .slice none 0 0, .int .i64 0] 57)).heap.size := by simp
      replace c3 := c3.below bS
      replace c14 := c14.below bS
      have c24 : CA (y.alloc (.cells #[.slice none 0 0, .slice none 0 0, .int .i64 0] 57)) y.heap.size [.slice none 0 0, .slice none 0 0, .int .i64 0] := CA.new _ _ _
      have nf : ∀ o, (y.alloc (.cells #[.slice none 0 0, .slice none 0 0, .int .i64 0] 57)).frozen? ⟨y.heap.size, o, none⟩ = false := fun o => new_frz rfl _ _ _
      replace cV := cV.below bS
      have bzz := then_ bz bS
      have hbs := bzz.size
      have hbs0 := bz.size
      clear hHeld
      refine hK'.out _ _ cV (fun hHeld => ?_)
      clear hK' K' bS
      try simp only [Act.put, List.setIfInBounds_toArray, List.set_cons_zero, List.set_cons_succ]
      generalize y.alloc (.cells #[.slice none 0 0, .slice none 0 0, .int .i64 0] 57) = yn at c3 c14 c24 cV bzz hl hbs hHeld nf ⊢
      generalize eN : y.heap.size = N at c3 c14 c24 cV hl hbs hHeld nf hbs0 ⊢
      exact keyabe yn P1 P2 N ⟨c3, c14, c24, cV, bzz, (by omega), (by omega), (by omega), hVl, nf, (by omega), (by omega), (by omega)⟩
  · intro y P2 P3 N hF
    obtain ⟨c14, c20, c24, cV, bz, lP2, lP3, lN, hVl, nf, lN0, xP2, xP3⟩ := hF
    have hHeld := cV
    refine wpAnyH_ready (rs := [3, 22]) (by kernel_rfl) (by simp) ?_
    refine AllReadyH.cons (o := { dst := some 209, op := Go.Op.buildSlice 51 3 #[(0, Go.Operand.tmp 206), (1, Go.Operand.tmp 207), (2, Go.Operand.tmp 208)], type := 51, pos := _, after := #[{ on := 0, ground := Go.Ground.data }, { on := 1, ground := Go.Ground.data }, { on := 2, ground := Go.Ground.data }], guard := none }) rfl (fun K' hK' => ?_) (AllReadyH.cons (o := { dst := some 228, op := Go.Op.buildSlice 55 1 #[(0, Go.Operand.tmp 227)], type := 55, pos := _, after := #[{ on := 21, ground := Go.Ground.data }], guard := none }) rfl (fun K' hK' => ?_) AllReadyH.nil)
    · go_simp
      have bS := one_alloc y (.cells #[.string { data := #[99] }, .int .i64 3, .int .i64 0, .string { data := #[101] }, .int .i64 2, .int .i64 0, .string { data := #[107] }, .int .i64 3, .int .i64 0] 50)
      have hl : y.heap.size < (y.alloc (.cells #[.string { data := #[99] }, .int .i64 3, .int .i64 0, .string { data := #[101] }, .int .i64 2, .int .i64 0, .string { data := #[107] }, .int .i64 3, .int .i64 0] 50)).heap.size := by simp
      replace c14 := c14.below bS
      replace c20 := c20.below bS
      replace c24 := c24.below bS
      have c3 : CA (y.alloc (.cells #[.string { data := #[99] }, .int .i64 3, .int .i64 0, .string { data := #[101] }, .int .i64 2, .int .i64 0, .string { data := #[107] }, .int .i64 3, .int .i64 0] 50)) y.heap.size [.string { data := #[99] }, .int .i64 3, .int .i64 0, .string { data := #[101] }, .int .i64 2, .int .i64 0, .string { data := #[107] }, .int .i64 3, .int .i64 0] := CA.new _ _ _
      replace nf : ∀ o, (y.alloc (.cells #[.string { data := #[99] }, .int .i64 3, .int .i64 0, .string { data := #[101] }, .int .i64 2, .int .i64 0, .string { data := #[107] }, .int .i64 3, .int .i64 0] 50)).frozen? ⟨N, o, none⟩ = false := fun o => (World.frozen?_of_block (a := ⟨N, o, none⟩) (bS.block N lN)).trans (nf o)
      replace cV := cV.below bS
      have bzz := then_ bz bS
      have hbs := bzz.size
      have hbs0 := bz.size
      clear hHeld
      refine hK'.out _ _ cV (fun hHeld => ?_)
      clear hK' K' bS
      try simp only [Act.put, List.setIfInBounds_toArray, List.set_cons_zero, List.set_cons_succ]
      generalize y.alloc (.cells #[.string { data := #[99] }, .int .i64 3, .int .i64 0, .string { data := #[101] }, .int .i64 2, .int .i64 0, .string { data := #[107] }, .int .i64 3, .int .i64 0] 50) = yn at c3 c14 c20 c24 cV bzz hl hbs hHeld nf ⊢
      generalize eP1 : y.heap.size = P1 at c3 c14 c20 c24 cV hl hbs hHeld nf hbs0 ⊢
      exact keyabce yn P1 P2 P3 N ⟨c3, c14, c20, c24, cV, bzz, (by omega), (by omega), (by omega), (by omega), hVl, nf, (by omega), (by omega), (by omega), (by omega)⟩
    · go_simp
      have bS := one_alloc y (.cells #[.string { data := #[107] }, .slice (some ⟨V, 0, none⟩) 3 3, .slice (some ⟨P3, 0, none⟩) 2 2] 54)
      have hl : y.heap.size < (y.alloc (.cells #[.string { data := #[107] }, .slice (some ⟨V, 0, none⟩) 3 3, .slice (some ⟨P3, 0, none⟩) 2 2] 54)).heap.size := by simp
      replace c14 := c14.below bS
      replace c20 := c20.below bS
      replace c24 := c24.below bS
      have c22 : CA (y.alloc (.cells #[.string { data := #[107] }, .slice (some ⟨V, 0, none⟩) 3 3, .slice (some ⟨P3, 0, none⟩) 2 2] 54)) y.heap.size [.string { data := #[107] }, .slice (some ⟨V, 0, none⟩) 3 3, .slice (some ⟨P3, 0, none⟩) 2 2] := CA.new _ _ _
      replace nf : ∀ o, (y.alloc (.cells #[.string { data := #[107] }, .slice (some ⟨V, 0, none⟩) 3 3, .slice (some ⟨P3, 0, none⟩) 2 2] 54)).frozen? ⟨N, o, none⟩ = false := fun o => (World.frozen?_of_block (a := ⟨N, o, none⟩) (bS.block N lN)).trans (nf o)
      replace cV := cV.below bS
      have bzz := then_ bz bS
      have hbs := bzz.size
      have hbs0 := bz.size
      clear hHeld
      refine hK'.out _ _ cV (fun hHeld => ?_)
      clear hK' K' bS
      try simp only [Act.put, List.setIfInBounds_toArray, List.set_cons_zero, List.set_cons_succ]
      generalize y.alloc (.cells #[.string { data := #[107] }, .slice (some ⟨V, 0, none⟩) 3 3, .slice (some ⟨P3, 0, none⟩) 2 2] 54) = yn at c14 c20 c22 c24 cV bzz hl hbs hHeld nf ⊢
      generalize eP4 : y.heap.size = P4 at c14 c20 c22 c24 cV hl hbs hHeld nf hbs0 ⊢
      exact keybcde yn P2 P3 P4 N ⟨c14, c20, c22, c24, cV, bzz, (by omega), (by omega), (by omega), (by omega), hVl, nf, (by omega), (by omega), (by omega), (by omega)⟩
  · intro y P2 P3 P4 hF
    obtain ⟨c14, c20, c22, cV, bz, lP2, lP3, lP4, hVl⟩ := hF
    have hHeld := cV
    refine wpAnyH_ready (rs := [3, 24]) (by kernel_rfl) (by simp) ?_
    refine AllReadyH.cons (o := { dst := some 209, op := Go.Op.buildSlice 51 3 #[(0, Go.Operand.tmp 206), (1, Go.Operand.tmp 207), (2, Go.Operand.tmp 208)], type := 51, pos := _, after := #[{ on := 0, ground := Go.Ground.data }, { on := 1, ground := Go.Ground.data }, { on := 2, ground := Go.Ground.data }], guard := none }) rfl (fun K' hK' => ?_) (AllReadyH.cons (o := { dst := some 27, op := Go.Op.alloc 57, type := 0, pos := _, after := #[], guard := none }) rfl (fun K' hK' => ?_) AllReadyH.nil)
    · go_simp
      have bS := one_alloc y (.cells #[.string { data := #[99] }, .int .i64 3, .int .i64 0, .string { data := #[101] }, .int .i64 2, .int .i64 0, .string { data := #[107] }, .int .i64 3, .int .i64 0] 50)
      have hl : y.heap.size < (y.alloc (.cells #[.string { data := #[99] }, .int .i64 3, .int .i64 0, .string { data := #[101] }, .int .i64 2, .int .i64 0, .string { data := #[107] }, .int .i64 3, .int .i64 0] 50)).heap.size := by simp
      replace c14 := c14.below bS
      replace c20 := c20.below bS
      replace c22 := c22.below bS
      have c3 : CA (y.alloc (.cells #[.string { data := #[99] }, .int .i64 3, .int .i64 0, .string { data := #[101] }, .int .i64 2, .int .i64 0, .string { data := #[107] }, .int .i64 3, .int .i64 0] 50)) y.heap.size [.string { data := #[99] }, .int .i64 3, .int .i64 0, .string { data := #[101] }, .int .i64 2, .int .i64 0, .string { data := #[107] }, .int .i64 3, .int .i64 0] := CA.new _ _ _
      replace cV := cV.below bS
      have bzz := then_ bz bS
      have hbs := bzz.size
      have hbs0 := bz.size
      clear hHeld
      refine hK'.out _ _ cV (fun hHeld => ?_)
      clear hK' K' bS
      try simp only [Act.put, List.setIfInBounds_toArray, List.set_cons_zero, List.set_cons_succ]
      generalize y.alloc (.cells #[.string { data := #[99] }, .int .i64 3, .int .i64 0, .string { data := #[101] }, .int .i64 2, .int .i64 0, .string { data := #[107] }, .int .i64 3, .int .i64 0] 50) = yn at c3 c14 c20 c22 cV bzz hl hbs hHeld ⊢
      generalize eP1 : y.heap.size = P1 at c3 c14 c20 c22 cV hl hbs hHeld hbs0 ⊢
      refine wpAnyH_take (i := 23) (oi := { dst := some 229, op := Go.Op.build 57 #[(0, Go.Operand.tmp 209), (1, Go.Operand.tmp 228), (2, Go.Operand.const (Go.Value.int Go.IntKind.i64 1))], type := 57, pos := _, after := #[{ on := 3, ground := Go.Ground.data }, { on := 22, ground := Go.Ground.data }], guard := none }) (v := ?vv49133) rfl (by kernel_rfl) (by kernel_rfl) (by kernel_rfl) (fun _ _ _ h => h) (Or.inl ⟨by rfl, ?hy49133⟩) (by assumption) ?tk49133
      case hy49133 => (intro w hSw; (try dsimp only at hSw); go_simp; (try with_reducible rfl))
      try simp only [Act.put, List.setIfInBounds_toArray, List.set_cons_zero, List.set_cons_succ]
      exact keyabcd yn P1 P2 P3 P4 ⟨c3, c14, c20, c22, cV, bzz, (by omega), (by omega), (by omega), (by omega), hVl⟩
    · go_simp
      have bS := one_alloc y (.cells #[.slice none 0 0, .slice none 0 0, .int .i64 0] 57)
      have hl : y.heap.size < (y.alloc (.cells #[.slice none 0 0, .slice none 0 0, .int .i64 0] 57)).heap.size := by simp
      replace c14 := c14.below bS
      replace c20 := c20.below bS
      replace c22 := c22.below bS
      have c24 : CA (y.alloc (.cells #[.slice none 0 0, .slice none 0 0, .int .i64 0] 57)) y.heap.size [.slice none 0 0, .slice none 0 0, .int .i64 0] := CA.new _ _ _
      have nf : ∀ o, (y.alloc (.cells #[.slice none 0 0, .slice none 0 0, .int .i64 0] 57)).frozen? ⟨y.heap.size, o, none⟩ = false := fun o => new_frz rfl _ _ _
      replace cV := cV.below bS
      have bzz := then_ bz bS
      have hbs := bzz.size
      have hbs0 := bz.size
      clear hHeld
      refine hK'.out _ _ cV (fun hHeld => ?_)
      clear hK' K' bS
      try simp only [Act.put, List.setIfInBounds_toArray, List.set_cons_zero, List.set_cons_succ]
      generalize y.alloc (.cells #[.slice none 0 0, .slice none 0 0, .int .i64 0] 57) = yn at c14 c20 c22 c24 cV bzz hl hbs hHeld nf ⊢
      generalize eN : y.heap.size = N at c14 c20 c22 c24 cV hl hbs hHeld nf hbs0 ⊢
      exact keybcde yn P2 P3 P4 N ⟨c14, c20, c22, c24, cV, bzz, (by omega), (by omega), (by omega), (by omega), hVl, nf, (by omega), (by omega), (by omega), (by omega)⟩
  · intro y P1 P2 N hF
    obtain ⟨c3, c14, c24, cV, bz, lP1, lP2, lN, hVl, nf, lN0, xP1, xP2⟩ := hF
    have hHeld := cV
    refine wpAnyH_ready (rs := [20]) (by kernel_rfl) (by simp) ?_
    refine AllReadyH.cons (o := { dst := some 226, op := Go.Op.buildSlice 52 2 #[(0, Go.Operand.tmp 222), (1, Go.Operand.tmp 225)], type := 52, pos := _, after := #[{ on := 16, ground := Go.Ground.data }, { on := 19, ground := Go.Ground.data }], guard := none }) rfl (fun K' hK' => ?_) AllReadyH.nil
    go_simp
    have bS := one_alloc y (.cells #[.int .u8 0, .int .u8 0, .string { data := #[101] }, .slice (some ⟨P2, 0, none⟩) 2 2, .int .u8 0, .int .u8 0, .string { data := #[99] }, .slice (some ⟨V, 0, none⟩) 3 3] 36)
    have hl : y.heap.size < (y.alloc (.cells #[.int .u8 0, .int .u8 0, .string { data := #[101] }, .slice (some ⟨P2, 0, none⟩) 2 2, .int .u8 0, .int .u8 0, .string { data := #[99] }, .slice (some ⟨V, 0, none⟩) 3 3] 36)).heap.size := by simp
    replace c3 := c3.below bS
    replace c14 := c14.below bS
    replace c24 := c24.below bS
    have c20 : CA (y.alloc (.cells #[.int .u8 0, .int .u8 0, .string { data := #[101] }, .slice (some ⟨P2, 0, none⟩) 2 2, .int .u8 0, .int .u8 0, .string { data := #[99] }, .slice (some ⟨V, 0, none⟩) 3 3] 36)) y.heap.size [.int .u8 0, .int .u8 0, .string { data := #[101] }, .slice (some ⟨P2, 0, none⟩) 2 2, .int .u8 0, .int .u8 0, .string { data := #[99] }, .slice (some ⟨V, 0, none⟩) 3 3] := CA.new _ _ _
    replace nf : ∀ o, (y.alloc (.cells #[.int .u8 0, .int .u8 0, .string { data := #[101] }, .slice (some ⟨P2, 0, none⟩) 2 2, .int .u8 0, .int .u8 0, .string { data := #[99] }, .slice (some ⟨V, 0, none⟩) 3 3] 36)).frozen? ⟨N, o, none⟩ = false := fun o => (World.frozen?_of_block (a := ⟨N, o, none⟩) (bS.block N lN)).trans (nf o)
    replace cV := cV.below bS
    have bzz := then_ bz bS
    have hbs := bzz.size
    have hbs0 := bz.size
    clear hHeld
    refine hK'.out _ _ cV (fun hHeld => ?_)
    clear hK' K' bS
    try simp only [Act.put, List.setIfInBounds_toArray, List.set_cons_zero, List.set_cons_succ]
    generalize y.alloc (.cells #[.int .u8 0, .int .u8 0, .string { data := #[101] }, .slice (some ⟨P2, 0, none⟩) 2 2, .int .u8 0, .int .u8 0, .string { data := #[99] }, .slice (some ⟨V, 0, none⟩) 3 3] 36) = yn at c3 c14 c20 c24 cV bzz hl hbs hHeld nf ⊢
    generalize eP3 : y.heap.size = P3 at c3 c14 c20 c24 cV hl hbs hHeld nf hbs0 ⊢
    refine wpAnyH_take (i := 21) (oi := { dst := some 227, op := Go.Op.build 54 #[(0, Go.Operand.tmp 211), (1, Go.Operand.tmp 226)], type := 54, pos := _, after := #[{ on := 5, ground := Go.Ground.data }, { on := 20, ground := Go.Ground.data }], guard := none }) (v := ?vv49136) rfl (by kernel_rfl) (by kernel_rfl) (by kernel_rfl) (fun _ _ _ h => h) (Or.inl ⟨by rfl, ?hy49136⟩) (by assumption) ?tk49136
    case hy49136 => (intro w hSw; (try dsimp only at hSw); go_simp; (try with_reducible rfl))
    try simp only [Act.put, List.setIfInBounds_toArray, List.set_cons_zero, List.set_cons_succ]
    exact keyabce yn P1 P2 P3 N ⟨c3, c14, c20, c24, cV, bzz, (by omega), (by omega), (by omega), (by omega), hVl, nf, (by omega), (by omega), (by omega), (by omega)⟩
  · intro y P1 P2 P3 hF
    obtain ⟨c3, c14, c20, cV, bz, lP1, lP2, lP3, hVl⟩ := hF
    have hHeld := cV
    refine wpAnyH_ready (rs := [22, 24]) (by kernel_rfl) (by simp) ?_
    refine AllReadyH.cons (o := { dst := some 228, op := Go.Op.buildSlice 55 1 #[(0, Go.Operand.tmp 227)], type := 55, pos := _, after := #[{ on := 21, ground := Go.Ground.data }], guard := none }) rfl (fun K' hK' => ?_) (AllReadyH.cons (o := { dst := some 27, op := Go.Op.alloc 57, type := 0, pos := _, after := #[], guard := none }) rfl (fun K' hK' => ?_) AllReadyH.nil)
    · go_simp
      have bS := one_alloc y (.cells #[.string { data := #[107] }, .slice (some ⟨V, 0, none⟩) 3 3, .slice (some ⟨P3, 0, none⟩) 2 2] 54)
      have hl : y.heap.size < (y.alloc (.cells #[.string { data := #[107] }, .slice (some ⟨V, 0, none⟩) 3 3, .slice (some ⟨P3, 0, none⟩) 2 2] 54)).heap.size := by simp
      replace c3 := c3.below bS
      replace c14 := c14.below bS
      replace c20 := c20.below bS
      have c22 : CA (y.alloc (.cells #[.string { data := #[107] }, .slice (some ⟨V, 0, none⟩) 3 3, .slice (some ⟨P3, 0, none⟩) 2 2] 54)) y.heap.size [.string { data := #[107] }, .slice (some ⟨V, 0, none⟩) 3 3, .slice (some ⟨P3, 0, none⟩) 2 2] := CA.new _ _ _
      replace cV := cV.below bS
      have bzz := then_ bz bS
      have hbs := bzz.size
      have hbs0 := bz.size
      clear hHeld
      refine hK'.out _ _ cV (fun hHeld => ?_)
      clear hK' K' bS
      try simp only [Act.put, List.setIfInBounds_toArray, List.set_cons_zero, List.set_cons_succ]
      generalize y.alloc (.cells #[.string { data := #[107] }, .slice (some ⟨V, 0, none⟩) 3 3, .slice (some ⟨P3, 0, none⟩) 2 2] 54) = yn at c3 c14 c20 c22 cV bzz hl hbs hHeld ⊢
      generalize eP4 : y.heap.size = P4 at c3 c14 c20 c22 cV hl hbs hHeld hbs0 ⊢
      refine wpAnyH_take (i := 23) (oi := { dst := some 229, op := Go.Op.build 57 #[(0, Go.Operand.tmp 209), (1, Go.Operand.tmp 228), (2, Go.Operand.const (Go.Value.int Go.IntKind.i64 1))], type := 57, pos := _, after := #[{ on := 3, ground := Go.Ground.data }, { on := 22, ground := Go.Ground.data }], guard := none }) (v := ?vv49140) rfl (by kernel_rfl) (by kernel_rfl) (by kernel_rfl) (fun _ _ _ h => h) (Or.inl ⟨by rfl, ?hy49140⟩) (by assumption) ?tk49140
      case hy49140 => (intro w hSw; (try dsimp only at hSw); go_simp; (try with_reducible rfl))
      try simp only [Act.put, List.setIfInBounds_toArray, List.set_cons_zero, List.set_cons_succ]
      exact keyabcd yn P1 P2 P3 P4 ⟨c3, c14, c20, c22, cV, bzz, (by omega), (by omega), (by omega), (by omega), hVl⟩
    · go_simp
      have bS := one_alloc y (.cells #[.slice none 0 0, .slice none 0 0, .int .i64 0] 57)
      have hl : y.heap.size < (y.alloc (.cells #[.slice none 0 0, .slice none 0 0, .int .i64 0] 57)).heap.size := by simp
      replace c3 := c3.below bS
      replace c14 := c14.below bS
      replace c20 := c20.below bS
      have c24 : CA (y.alloc (.cells #[.slice none 0 0, .slice none 0 0, .int .i64 0] 57)) y.heap.size [.slice none 0 0, .slice none 0 0, .int .i64 0] := CA.new _ _ _
      have nf : ∀ o, (y.alloc (.cells #[.slice none 0 0, .slice none 0 0, .int .i64 0] 57)).frozen? ⟨y.heap.size, o, none⟩ = false := fun o => new_frz rfl _ _ _
      replace cV := cV.below bS
      have bzz := then_ bz bS
      have hbs := bzz.size
      have hbs0 := bz.size
      clear hHeld
      refine hK'.out _ _ cV (fun hHeld => ?_)
      clear hK' K' bS
      try simp only [Act.put, List.setIfInBounds_toArray, List.set_cons_zero, List.set_cons_succ]
      generalize y.alloc (.cells #[.slice none 0 0, .slice none 0 0, .int .i64 0] 57) = yn at c3 c14 c20 c24 cV bzz hl hbs hHeld nf ⊢
      generalize eN : y.heap.size = N at c3 c14 c20 c24 cV hl hbs hHeld nf hbs0 ⊢
      exact keyabce yn P1 P2 P3 N ⟨c3, c14, c20, c24, cV, bzz, (by omega), (by omega), (by omega), (by omega), hVl, nf, (by omega), (by omega), (by omega), (by omega)⟩
  · intro y P2 P3 P4 N hF
    obtain ⟨c14, c20, c22, c24, cV, bz, lP2, lP3, lP4, lN, hVl, nf, lN0, xP2, xP3, xP4⟩ := hF
    have hHeld := cV
    refine wpAnyH_ready (rs := [3]) (by kernel_rfl) (by simp) ?_
    refine AllReadyH.cons (o := { dst := some 209, op := Go.Op.buildSlice 51 3 #[(0, Go.Operand.tmp 206), (1, Go.Operand.tmp 207), (2, Go.Operand.tmp 208)], type := 51, pos := _, after := #[{ on := 0, ground := Go.Ground.data }, { on := 1, ground := Go.Ground.data }, { on := 2, ground := Go.Ground.data }], guard := none }) rfl (fun K' hK' => ?_) AllReadyH.nil
    go_simp
    have bS := one_alloc y (.cells #[.string { data := #[99] }, .int .i64 3, .int .i64 0, .string { data := #[101] }, .int .i64 2, .int .i64 0, .string { data := #[107] }, .int .i64 3, .int .i64 0] 50)
    have hl : y.heap.size < (y.alloc (.cells #[.string { data := #[99] }, .int .i64 3, .int .i64 0, .string { data := #[101] }, .int .i64 2, .int .i64 0, .string { data := #[107] }, .int .i64 3, .int .i64 0] 50)).heap.size := by simp
    replace c14 := c14.below bS
    replace c20 := c20.below bS
    replace c22 := c22.below bS
    replace c24 := c24.below bS
    have c3 : CA (y.alloc (.cells #[.string { data := #[99] }, .int .i64 3, .int .i64 0, .string { data := #[101] }, .int .i64 2, .int .i64 0, .string { data := #[107] }, .int .i64 3, .int .i64 0] 50)) y.heap.size [.string { data := #[99] }, .int .i64 3, .int .i64 0, .string { data := #[101] }, .int .i64 2, .int .i64 0, .string { data := #[107] }, .int .i64 3, .int .i64 0] := CA.new _ _ _
    replace nf : ∀ o, (y.alloc (.cells #[.string { data := #[99] }, .int .i64 3, .int .i64 0, .string { data := #[101] }, .int .i64 2, .int .i64 0, .string { data := #[107] }, .int .i64 3, .int .i64 0] 50)).frozen? ⟨N, o, none⟩ = false := fun o => (World.frozen?_of_block (a := ⟨N, o, none⟩) (bS.block N lN)).trans (nf o)
    replace cV := cV.below bS
    have bzz := then_ bz bS
    have hbs := bzz.size
    have hbs0 := bz.size
    clear hHeld
    refine hK'.out _ _ cV (fun hHeld => ?_)
    clear hK' K' bS
    try simp only [Act.put, List.setIfInBounds_toArray, List.set_cons_zero, List.set_cons_succ]
    generalize y.alloc (.cells #[.string { data := #[99] }, .int .i64 3, .int .i64 0, .string { data := #[101] }, .int .i64 2, .int .i64 0, .string { data := #[107] }, .int .i64 3, .int .i64 0] 50) = yn at c3 c14 c20 c22 c24 cV bzz hl hbs hHeld nf ⊢
    generalize eP1 : y.heap.size = P1 at c3 c14 c20 c22 c24 cV hl hbs hHeld nf hbs0 ⊢
    refine wpAnyH_take (i := 23) (oi := { dst := some 229, op := Go.Op.build 57 #[(0, Go.Operand.tmp 209), (1, Go.Operand.tmp 228), (2, Go.Operand.const (Go.Value.int Go.IntKind.i64 1))], type := 57, pos := _, after := #[{ on := 3, ground := Go.Ground.data }, { on := 22, ground := Go.Ground.data }], guard := none }) (v := ?vv49144) rfl (by kernel_rfl) (by kernel_rfl) (by kernel_rfl) (fun _ _ _ h => h) (Or.inl ⟨by rfl, ?hy49144⟩) (by assumption) ?tk49144
    case hy49144 => (intro w hSw; (try dsimp only at hSw); go_simp; (try with_reducible rfl))
    try simp only [Act.put, List.setIfInBounds_toArray, List.set_cons_zero, List.set_cons_succ]
    exact keyabcde yn P1 P2 P3 P4 N ⟨c3, c14, c20, c22, c24, cV, bzz, (by omega), (by omega), (by omega), (by omega), (by omega), hVl, nf, (by omega), (by omega), (by omega), (by omega), (by omega)⟩
  · intro y P1 P2 P3 N hF
    obtain ⟨c3, c14, c20, c24, cV, bz, lP1, lP2, lP3, lN, hVl, nf, lN0, xP1, xP2, xP3⟩ := hF
    have hHeld := cV
    refine wpAnyH_ready (rs := [22]) (by kernel_rfl) (by simp) ?_
    refine AllReadyH.cons (o := { dst := some 228, op := Go.Op.buildSlice 55 1 #[(0, Go.Operand.tmp 227)], type := 55, pos := _, after := #[{ on := 21, ground := Go.Ground.data }], guard := none }) rfl (fun K' hK' => ?_) AllReadyH.nil
    go_simp
    have bS := one_alloc y (.cells #[.string { data := #[107] }, .slice (some ⟨V, 0, none⟩) 3 3, .slice (some ⟨P3, 0, none⟩) 2 2] 54)
    have hl : y.heap.size < (y.alloc (.cells #[.string { data := #[107] }, .slice (some ⟨V, 0, none⟩) 3 3, .slice (some ⟨P3, 0, none⟩) 2 2] 54)).heap.size := by simp
    replace c3 := c3.below bS
    replace c14 := c14.below bS
    replace c20 := c20.below bS
    replace c24 := c24.below bS
    have c22 : CA (y.alloc (.cells #[.string { data := #[107] }, .slice (some ⟨V, 0, none⟩) 3 3, .slice (some ⟨P3, 0, none⟩) 2 2] 54)) y.heap.size [.string { data := #[107] }, .slice (some ⟨V, 0, none⟩) 3 3, .slice (some ⟨P3, 0, none⟩) 2 2] := CA.new _ _ _
    replace nf : ∀ o, (y.alloc (.cells #[.string { data := #[107] }, .slice (some ⟨V, 0, none⟩) 3 3, .slice (some ⟨P3, 0, none⟩) 2 2] 54)).frozen? ⟨N, o, none⟩ = false := fun o => (World.frozen?_of_block (a := ⟨N, o, none⟩) (bS.block N lN)).trans (nf o)
    replace cV := cV.below bS
    have bzz := then_ bz bS
    have hbs := bzz.size
    have hbs0 := bz.size
    clear hHeld
    refine hK'.out _ _ cV (fun hHeld => ?_)
    clear hK' K' bS
    try simp only [Act.put, List.setIfInBounds_toArray, List.set_cons_zero, List.set_cons_succ]
    generalize y.alloc (.cells #[.string { data := #[107] }, .slice (some ⟨V, 0, none⟩) 3 3, .slice (some ⟨P3, 0, none⟩) 2 2] 54) = yn at c3 c14 c20 c22 c24 cV bzz hl hbs hHeld nf ⊢
    generalize eP4 : y.heap.size = P4 at c3 c14 c20 c22 c24 cV hl hbs hHeld nf hbs0 ⊢
    refine wpAnyH_take (i := 23) (oi := { dst := some 229, op := Go.Op.build 57 #[(0, Go.Operand.tmp 209), (1, Go.Operand.tmp 228), (2, Go.Operand.const (Go.Value.int Go.IntKind.i64 1))], type := 57, pos := _, after := #[{ on := 3, ground := Go.Ground.data }, { on := 22, ground := Go.Ground.data }], guard := none }) (v := ?vv49148) rfl (by kernel_rfl) (by kernel_rfl) (by kernel_rfl) (fun _ _ _ h => h) (Or.inl ⟨by rfl, ?hy49148⟩) (by assumption) ?tk49148
    case hy49148 => (intro w hSw; (try dsimp only at hSw); go_simp; (try with_reducible rfl))
    try simp only [Act.put, List.setIfInBounds_toArray, List.set_cons_zero, List.set_cons_succ]
    exact keyabcde yn P1 P2 P3 P4 N ⟨c3, c14, c20, c22, c24, cV, bzz, (by omega), (by omega), (by omega), (by omega), (by omega), hVl, nf, (by omega), (by omega), (by omega), (by omega), (by omega)⟩
  · intro y P1 P2 P3 P4 hF
    obtain ⟨c3, c14, c20, c22, cV, bz, lP1, lP2, lP3, lP4, hVl⟩ := hF
    have hHeld := cV
    refine wpAnyH_ready (rs := [24]) (by kernel_rfl) (by simp) ?_
    refine AllReadyH.cons (o := { dst := some 27, op := Go.Op.alloc 57, type := 0, pos := _, after := #[], guard := none }) rfl (fun K' hK' => ?_) AllReadyH.nil
    go_simp
    have bS := one_alloc y (.cells #[.slice none 0 0, .slice none 0 0, .int .i64 0] 57)
    have hl : y.heap.size < (y.alloc (.cells #[.slice none 0 0, .slice none 0 0, .int .i64 0] 57)).heap.size := by simp
    replace c3 := c3.below bS
    replace c14 := c14.below bS
    replace c20 := c20.below bS
    replace c22 := c22.below bS
    have c24 : CA (y.alloc (.cells #[.slice none 0 0, .slice none 0 0, .int .i64 0] 57)) y.heap.size [.slice none 0 0, .slice none 0 0, .int .i64 0] := CA.new _ _ _
    have nf : ∀ o, (y.alloc (.cells #[.slice none 0 0, .slice none 0 0, .int .i64 0] 57)).frozen? ⟨y.heap.size, o, none⟩ = false := fun o => new_frz rfl _ _ _
    replace cV := cV.below bS
    have bzz := then_ bz bS
    have hbs := bzz.size
    have hbs0 := bz.size
    clear hHeld
    refine hK'.out _ _ cV (fun hHeld => ?_)
    clear hK' K' bS
    try simp only [Act.put, List.setIfInBounds_toArray, List.set_cons_zero, List.set_cons_succ]
    generalize y.alloc (.cells #[.slice none 0 0, .slice none 0 0, .int .i64 0] 57) = yn at c3 c14 c20 c22 c24 cV bzz hl hbs hHeld nf ⊢
    generalize eN : y.heap.size = N at c3 c14 c20 c22 c24 cV hl hbs hHeld nf hbs0 ⊢
    exact keyabcde yn P1 P2 P3 P4 N ⟨c3, c14, c20, c22, c24, cV, bzz, (by omega), (by omega), (by omega), (by omega), (by omega), hVl, nf, (by omega), (by omega), (by omega), (by omega), (by omega)⟩
  · intro y P1 P2 P3 P4 N hF
    obtain ⟨c3, c14, c20, c22, c24, cV, bz, lP1, lP2, lP3, lP4, lN, hVl, nf, lN0, xP1, xP2, xP3, xP4⟩ := hF
    have hHeld := cV
    refine wpAnyH_ready (rs := [25]) (by kernel_rfl) (by simp) ?_
    refine AllReadyH.cons (o := { dst := none, op := Go.Op.store 57 (Go.Operand.tmp 27) (Go.Operand.tmp 229), type := 0, pos := _, after := #[{ on := 24, ground := Go.Ground.data }, { on := 23, ground := Go.Ground.data }, { on := 0, ground := Go.Ground.phase }, { on := 1, ground := Go.Ground.phase }, { on := 2, ground := Go.Ground.phase }, { on := 3, ground := Go.Ground.phase }, { on := 4, ground := Go.Ground.phase }, { on := 5, ground := Go.Ground.phase }, { on := 6, ground := Go.Ground.phase }, { on := 7, ground := Go.Ground.phase }, { on := 8, ground := Go.Ground.phase }, { on := 9, ground := Go.Ground.phase }, { on := 10, ground := Go.Ground.phase }, { on := 11, ground := Go.Ground.phase }, { on := 12, ground := Go.Ground.phase }, { on := 13, ground := Go.Ground.phase }, { on := 14, ground := Go.Ground.phase }, { on := 15, ground := Go.Ground.phase }, { on := 16, ground := Go.Ground.phase }, { on := 17, ground := Go.Ground.phase }, { on := 18, ground := Go.Ground.phase }, { on := 19, ground := Go.Ground.phase }, { on := 20, ground := Go.Ground.phase }, { on := 21, ground := Go.Ground.phase }, { on := 22, ground := Go.Ground.phase }, { on := 23, ground := Go.Ground.phase }, { on := 24, ground := Go.Ground.phase }], guard := none }) rfl (fun K' hK' => ?_) AllReadyH.nil
    have n0 := c24 0 _ rfl
    have n1 := c24 1 _ rfl
    have n2 := c24 2 _ rfl
    go_simp
    have hVN : V ≠ N := by omega
    clear hHeld
    refine hK'.out _ _ (cV.blk ((far_set hVN).trans ((far_set hVN).trans (far_set hVN)))) (fun hHeld => ?_)
    clear hK' K'
    try simp only [Act.put, List.setIfInBounds_toArray, List.set_cons_zero, List.set_cons_succ]
    refine wpAnyH_done (by kernel_rfl) ?_ _
    go_wp2
    go_meet
    case rel => exact ⟨N, rfl, hideIt (leafN c3 c14 c20 c22 c24 cV (byd.trans (bz.mono hyd)) ⟨xP1, xP2, xP3, xP4, hVN, by omega⟩)⟩
end Go.Proofs.Qxb6500880aGreat
