import Derived.Deep.CutBlock
import Derived.OwnWalk
import Derived.Maps.AppendAt
import Derived.Maps.OwnSet
import Derived.Maps.OwnOps
import Derived.Laws.ResultCell
import Derived.Laws.AppendOwnNone
import Derived.Test.Qxb6500880aGreatLk
set_option linter.unusedVariables false
set_option linter.unusedSimpArgs false
namespace Go.Proofs.Qxb6500880aGreat
open Go.RowKit

/-- A part of the walk, proved elsewhere. -/
structure Key (G : Prop) : Prop where
  out : G
/-- A statement that is cut: what is still to be shown, and that it is enough. -/
structure Part (L : Prop) where
  need : Prop
  thus : Key need → L
/-- A statement that is cut in three. -/
structure Part2 (L : Prop) where
  need : Prop
  need2 : Prop
  thus : Key need → Key need2 → L
set_option maxRecDepth 20000 in
set_option maxHeartbeats 40000000 in
def pkgA : Part (∀ (w : World) (p : Option Addr) (n c : Nat) (S : ScrIn w p n),
    Calls Tryz.prog 3 #[.slice p n c] w fun e w' => e = .returned (.bool true) ∧ Below w.heap.size w w') := by
  apply Part.mk
  case thus =>
  intro key
  intro w p n c S
  have hsm := small_any (c := c) S
  have HS := hideIt S
  clear S
  go_enter Tryz.func3, Tryz.ntmps3
  go_wp2_with fail
  refine hsm.mono ?_
  rintro e w1 ⟨b, rfl, ew, hb⟩
  replace ew := ew.symm
  subst ew
  clear hsm
  cases b with
  | false =>
    go_wp2
    go_ret
    exact ⟨rfl, Below.refl _ _⟩
  | true =>
  have hn := hb rfl
  clear hb
  go_wp2_with fail
  go_loopg [42, 4] n (fun gg v v4 wr => ∃ (i : Nat) (y : Int), i + gg = n ∧ v = .int .i64 (i : Int) ∧ v4 = .int .u64 y ∧ Below w.heap.size w wr)
  case atStart => exact ⟨0, _, by omega, rfl, rfl, Below.refl _ _⟩
  case round =>
  obtain ⟨i, y, hi, rfl, rfl, bw⟩ := hrel
  by_cases hin : i < n
  · skip
    have i0 : (0 : Int) ≤ i := by omega
    have i1 : (i : Int) < (n : Int) := by omega
    obtain ⟨g, off, rfl, hO⟩ : ∃ g off, p = some ⟨g, off, none⟩ ∧ OpIn w g (off + i * 9) := by
      rcases HS.out with h | ⟨g, off, e, h⟩
      · omega
      · exact ⟨g, off, e, h i hin⟩
    obtain ⟨x0, c0⟩ := hO.k
    obtain ⟨s1, c1⟩ := hO.s
    obtain ⟨p2, n2, k2, c2, T2⟩ := hO.t
    obtain ⟨x3, c3⟩ := hO.c3
    obtain ⟨x4, c4⟩ := hO.c4
    obtain ⟨x5, c5⟩ := hO.c5
    obtain ⟨s6, c6⟩ := hO.s6
    obtain ⟨p7, n7, k7, c7, T7⟩ := hO.t7
    obtain ⟨x8, c8⟩ := hO.c8
    have d0 := cell_later bw c0
    have d1 := cell_later bw c1
    have d2 := cell_later bw c2
    have d3 := cell_later bw c3
    have d4 := cell_later bw c4
    have d5 := cell_later bw c5
    have d6 := cell_later bw c6
    have d7 := cell_later bw c7
    have d8 := cell_later bw c8
    have HB := hideIt bw
    clear hO T2 T7 c0 c1 c2 c3 c4 c5 c6 c7 c8 bw
    go_wp2
    go_roundg (n - (i + 1))
    case measure => omega
    case rel => exact ⟨i + 1, _, by omega, by go_num, rfl, then_ HB.out (one_alloc _ _)⟩
  have ei : i = n := by omega
  subst ei
  clear hi hin
  have HB := hideIt bw
  clear bw
  obtain ⟨wm, hwm⟩ : ∃ wm, wm = wr := ⟨_, rfl⟩
  subst hwm
  go_wp2_with fail
  go_loopg [61] 4 (fun gg v wr => ∃ k : Nat, k + gg = 4 ∧ v = .int .i64 (k : Int) ∧ Below w.heap.size w wr)
  case atStart => exact ⟨0, by omega, rfl, HB.out⟩
  case round =>
  obtain ⟨k, hk, rfl, bk⟩ := hrel
  by_cases hkn : ¬ k < 4
  · have k1 : ¬ ((k : Int) < 4) := by omega
    go_wp2
    go_ret
    exact ⟨rfl, bk⟩
  have k0 : (0 : Int) ≤ k := by omega
  have k1 : (k : Int) < 4 := by omega
  clear HB
  have HB := hideIt bk
  clear bk
  obtain ⟨wk, hwk⟩ : ∃ wk, wk = wr := ⟨_, rfl⟩
  subst hwk
  go_upto_region 14 with fail
  have bA := one_alloc wk (.cells #[.int .u64 (IntKind.u64.wrap (y + (k : Int)))] 39)
  have D1 : DiceAt (wk.alloc (.cells #[.int .u64 (IntKind.u64.wrap (y + (k : Int)))] 39)) wk.heap.size := ⟨⟨_, new_cell rfl _ _ 0⟩, fun o => new_frz rfl _ _ _⟩
  have hs1 : (wk.alloc (.cells #[.int .u64 (IntKind.u64.wrap (y + (k : Int)))] 39)).heap.size = wk.heap.size + 1 := by simp
  have H1 := hideIt (And.intro D1 (And.intro bA hs1))
  clear D1 bA hs1
  generalize wk.alloc (.cells #[.int .u64 (IntKind.u64.wrap (y + (k : Int)))] 39) = w1 at *
  generalize hB : wk.heap.size = B at *
  rename_i zA0 zA1 zA2 zA3 zA4 zA5 zA6 zA7 zA8 zA9 zA10 zA11 zA12 zA13 zA14 zA15 zA16 zA17 zA18
  clear zA1 zA2 u43 zA3 zA4 zA5 zA6 wm zA7 zA8
  revert w p c zA0 u6 u44 u45 u46 u47 u48 u49 u50 u51 u52 u53 u54 u55 u56 u57 u58 u59 u60 i y HS hn zA9 zA10 gk u2 u7 u8 u9 u10 u11 u12 u13 u14 u15 u16 u17 u18 u19 u20 u21 u23 u25 u26 u27 u28 u29 u30 u31 u33 u62 u63 u64 u65 u66 u67 u68 u69 u70 u71 u72 u73 u74 u75 u76 u77 u78 u79 u80 u81 u82 u83 u84 u85 u86 u87 u88 u89 u90 u91 u92 u93 u94 u95 u96 u97 u98 u99 u100 u101 u102 u103 u104 u105 u106 u107 u108 u109 u110 u111 u112 u113 u114 u115 u116 u117 u118 u119 u120 u121 u122 u123 u124 u125 u126 u127 u128 u129 u130 u131 u132 u133 u134 u135 u136 u137 u138 u139 u140 u141 u142 u143 u144 u145 u146 u147 u148 u149 u150 u151 u152 u153 u154 u155 u156 u157 u158 u159 u160 u161 u162 u163 u164 u165 u166 u167 u168 u169 u170 u171 u172 u173 u174 u175 u176 u177 u178 u179 u180 u181 u182 u183 u184 u185 u186 u187 u188 u189 u190 u191 u192 u193 u194 u195 u196 u197 u198 u199 u200 u201 u202 u203 u204 u205 u206 u207 u208 u209 u210 u211 u212 u213 u214 u215 u216 u217 u218 u219 u220 u221 u222 u223 u224 u225 u226 u227 u228 u229 u230 u231 u232 u233 u234 u235 u236 u237 u238 u239 u240 u241 u242 u243 u244 u245 u246 u247 u248 u249 u250 u251 u252 u253 u254 u255 u256 u257 u258 u259 u260 u261 u262 u263 u264 u265 u266 u267 u268 u269 u270 u271 u272 u273 u274 u275 u276 u277 u278 u279 u280 zA11 zA12 zA13 zA14 k hk hkn k0 k1 wk HB zA15 zA16 zA17 zA18 w1 B hB H1
  exact @key.out
end Go.Proofs.Qxb6500880aGreat
