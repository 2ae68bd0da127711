import Derived.Deep.CutBlock
import Derived.OwnWalk
import Derived.Maps.AppendAt
import Derived.Maps.OwnSet
import Derived.Maps.OwnOps
import Derived.Laws.ResultCell
import Derived.Laws.AppendOwnNone
import Derived.Test.Qxb6500880aGreatLhA
set_option linter.unusedVariables false
set_option linter.unusedSimpArgs false
namespace Go.Proofs.Qxb6500880aGreat
open Go.RowKit

set_option maxRecDepth 20000 in
set_option maxHeartbeats 40000000 in
def pkgB : Part (pkgA.need) := by
  apply Part.mk
  case thus =>
  intro key
  intro w p c zA0 u6 u44 u45 u46 u47 u48 u49 u50 u51 u52 u53 u54 u55 u56 u57 u58 u59 u60 i y HS hn zA9 zA10 gk u2 u7 u8 u9 u10 u11 u12 u13 u14 u15 u16 u17 u18 u19 u20 u21 u23 u25 u26 u27 u28 u29 u30 u31 u33 u62 u63 u64 u65 u66 u67 u68 u69 u70 u71 u72 u73 u74 u75 u76 u77 u78 u79 u80 u81 u82 u83 u84 u85 u86 u87 u88 u89 u90 u91 u92 u93 u94 u95 u96 u97 u98 u99 u100 u101 u102 u103 u104 u105 u106 u107 u108 u109 u110 u111 u112 u113 u114 u115 u116 u117 u118 u119 u120 u121 u122 u123 u124 u125 u126 u127 u128 u129 u130 u131 u132 u133 u134 u135 u136 u137 u138 u139 u140 u141 u142 u143 u144 u145 u146 u147 u148 u149 u150 u151 u152 u153 u154 u155 u156 u157 u158 u159 u160 u161 u162 u163 u164 u165 u166 u167 u168 u169 u170 u171 u172 u173 u174 u175 u176 u177 u178 u179 u180 u181 u182 u183 u184 u185 u186 u187 u188 u189 u190 u191 u192 u193 u194 u195 u196 u197 u198 u199 u200 u201 u202 u203 u204 u205 u206 u207 u208 u209 u210 u211 u212 u213 u214 u215 u216 u217 u218 u219 u220 u221 u222 u223 u224 u225 u226 u227 u228 u229 u230 u231 u232 u233 u234 u235 u236 u237 u238 u239 u240 u241 u242 u243 u244 u245 u246 u247 u248 u249 u250 u251 u252 u253 u254 u255 u256 u257 u258 u259 u260 u261 u262 u263 u264 u265 u266 u267 u268 u269 u270 u271 u272 u273 u274 u275 u276 u277 u278 u279 u280 zA11 zA12 zA13 zA14 k hk hkn k0 k1 wk HB zA15 zA16 zA17 zA18 w1 B hB H1
  obtain ⟨i4, hi4, hy0, hy1, hy2⟩ := info_parts info34
  go_wp2_with fail
  go_loopg [68, 9] 64 (fun gg v v9 wr => ∃ (i : Nat) (av : Nat → Value), i + gg = 64 ∧ v = .int .i64 (i : Int) ∧ DbZ wr w1 B v9 i av)
  case atStart => exact ⟨0, fun _ => .slice none 0 0, by omega, rfl, ⟨own_nil _ _ _ _, fun i hi => by omega, fun i q hi => by omega, Below.refl _ _⟩⟩
  case round =>
  obtain ⟨i, av, hi, rfl, Z⟩ := hrel
  by_cases hin : i < 64
  · skip
    have i0 : (0 : Int) ≤ i := by omega
    have i1 : (i : Int) < 64 := by omega
    have hnum : Calls Tryz.prog 5 #[.int .i64 (i : Int)] wr fun e w' => e = .returned (.agg #[.int .u8 1, .int .i64 0, .int .i64 (i : Int), .string ByteArray.empty]) ∧ Below wr.heap.size wr w' := num_any (w := wr) (x := i) (by omega)
    obtain ⟨pv, cv, rfl⟩ := own_shape Z.own
    have HZ := hideIt Z
    clear Z
    go_wp2_with fail
    refine hnum.mono ?_
    rintro e w2 ⟨rfl, b2⟩
    have hBs : B + 1 ≤ wr.heap.size := by have := HZ.out.bl.size; have := H1.out.2.2; omega
    have Z2 := HZ.out.below b2 hBs
    have HO := hideIt Z2.own
    have HZ2 := hideIt Z2
    have hB2 : B + 1 ≤ w2.heap.size := by have := b2.size; omega
    clear HZ b2 hnum Z2
    go_wp2_with (first | (at_builtin; refine wpList_append_own_at _ rfl (.tmp 71) (.tmp 77) 40 rfl (B + 1) 34 i4 (.agg #[.string ByteArray.empty, .slice none 0 0]) 2 40 Tryz.underlying40 hi4 hy0 hy1 hy2 rfl (by decide) (.slice pv i cv) i (dbL (fun _ => 3) av i) rfl ((HO.out.alloc _).alloc _) ⟨w2.heap.size + 1, 0, none⟩ 1 1 [.string (nmS 3), .slice (some ⟨w2.heap.size, 0, none⟩) 1 1] rfl rfl (new_at2 _ _ _ _ _) (by simp [Value.oneCell']) (by unfold maxLen; omega) (by omega) (by simp <;> omega) ?_) | go_in)
    intro v' w5 hown' hgrow hiff hblk
    obtain ⟨p', c', rfl⟩ := own_shape hown'
    have HX := hideIt (And.intro hown' (And.intro hgrow hblk))
    clear hown' hgrow hiff hblk
    go_wp2
    go_roundg (64 - (i + 1))
    case measure => omega
    case rel =>
      obtain ⟨hown', hgrow, hblk⟩ := HX.out
      have Z2 := HZ2.out
      obtain ⟨W5, e5, hs5, hv5, hn5⟩ := fact_frame (w2 := w2) (n4 := w2.heap.size + 1 + 1) (fun q hq => (one_alloc (w2.alloc _) _).block q (by simp; omega)) (then_ (one_alloc w2 _) (one_alloc _ _)) ⟨by omega, by simp⟩ hgrow hblk (fun q hq => (Z2.own.lt q hq).2)
      refine ⟨i + 1, updA av i (.slice (some ⟨w2.heap.size, 0, none⟩) 1 1), by omega, by go_num, Z2.next hB2 hown' (arg_new e5 hs5 (fun j hj => ?_)) hv5 (fun q hq => ?_) W5⟩
      · have : j = 0 := by omega
        subst this
        exact ⟨rfl, rfl, rfl, rfl⟩
      · have e : w2.heap.size = q := Option.some.inj hq
        rw [← e]
        exact ⟨Nat.le_refl _, hn5⟩
  have ei : i = 64 := by omega
  subst ei
  clear hi hin
  obtain ⟨wa, hwa⟩ : ∃ wa, wa = wr := ⟨_, rfl⟩
  subst hwa
  obtain ⟨D1, bA, hs1⟩ := H1.out
  have hBa : B + 1 ≤ wa.heap.size := by have := Z.bl.size; omega
  have Da : DiceAt wa B := D1.blk (Z.bl.block B (by omega))
  have b3 := one_alloc wa (.cells #[.slice none 0 0, .slice none 0 0, .slice none 0 0] 42)
  have CS : ChS (wa.alloc (.cells #[.slice none 0 0, .slice none 0 0, .slice none 0 0] 42)) (wa.alloc (.cells #[.slice none 0 0, .slice none 0 0, .slice none 0 0] 42)) B wa.heap.size 0 (fun _ => 0) := ⟨Da.below b3, fun c hc => by omega, fun c _ hc => by
    rw [new_cell rfl]
    rcases (by omega : c = 0 ∨ c = 1 ∨ c = 2) with h | h | h <;> (subst h; rfl), fun o => new_frz rfl _ _ _, Ws.of_below (Below.refl _ _)⟩
  have hs3 : (wa.alloc (.cells #[.slice none 0 0, .slice none 0 0, .slice none 0 0] 42)).heap.size = wa.heap.size + 1 := by simp
  have bka : Below B wk wa := bA.trans (Z.bl.mono (by omega))
  have H3 := hideIt (And.intro Z (And.intro CS (And.intro b3 (And.intro hs3 bka))))
  clear Z D1 bA hs1 Da b3 CS hs3 bka H1
  go_upto_region 21 with fail
  generalize wa.alloc (.cells #[.slice none 0 0, .slice none 0 0, .slice none 0 0] 42) = w3 at *
  generalize hG : wa.heap.size = G at *
  have hBG : B < G := by omega
  rename_i zB0 zB1 zB2 zB3 zB4 zB5 zB6 zB7 zB8 zB9 zB10 zB11 zB12 zB13 zB14 zB15 zB16 zB17 zB18 zB19 zB20 zB21 zB22 zB23 zB24
  clear zB1 zB2 zB3 zB4 zB5 zB6 zB7 zB8 zB9 zB10 zB11 zB12 zB13 zB14 gk zB15 zB16 zB17 zB18 zB19 zB20
  revert w p c zA0 u6 u44 u45 u46 u47 u48 u49 u50 u51 u52 u53 u54 u55 u56 u57 u58 u59 u60 i y HS hn zA9 zA10 zB0 u2 u7 u8 u11 u12 u13 u14 u15 u16 u17 u18 u19 u20 u21 u23 u25 u26 u27 u28 u29 u30 u31 u33 u62 u63 u64 u65 u66 u67 u68 u80 u81 u82 u83 u84 u85 u86 u87 u88 u89 u90 u91 u92 u93 u94 u95 u96 u97 u98 u99 u100 u101 u102 u103 u104 u105 u106 u107 u108 u109 u110 u111 u112 u113 u114 u115 u116 u117 u118 u119 u120 u121 u122 u123 u124 u125 u126 u127 u128 u129 u130 u131 u132 u133 u134 u135 u136 u137 u138 u139 u140 u141 u142 u143 u144 u145 u146 u147 u148 u149 u150 u151 u152 u153 u154 u155 u156 u157 u158 u159 u160 u161 u162 u163 u164 u165 u166 u167 u168 u169 u170 u171 u172 u173 u174 u175 u176 u177 u178 u179 u180 u181 u182 u183 u184 u185 u186 u187 u188 u189 u190 u191 u192 u193 u194 u195 u196 u197 u198 u199 u200 u201 u202 u203 u204 u205 u206 u207 u208 u209 u210 u211 u212 u213 u214 u215 u216 u217 u218 u219 u220 u221 u222 u223 u224 u225 u226 u227 u228 u229 u230 u231 u232 u233 u234 u235 u236 u237 u238 u239 u240 u241 u242 u243 u244 u245 u246 u247 u248 u249 u250 u251 u252 u253 u254 u255 u256 u257 u258 u259 u260 u261 u262 u263 u264 u265 u266 u267 u268 u269 u270 u271 u272 u273 u274 u275 u276 u277 u278 u279 u280 zA11 zA12 zA13 zA14 k hk hkn k0 k1 wk HB zA15 zA16 w1 B hB i4 hi4 hy0 hy1 hy2 u9 u10 u69 u70 u71 u72 u73 u74 u75 u76 u77 u78 u79 av wa zB21 zB22 zB23 zB24 w3 G hG hBa H3 hBG
  exact @key.out
end Go.Proofs.Qxb6500880aGreat
