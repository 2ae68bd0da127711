import Derived.Deep.CutBlock
import Derived.OwnWalk
import Derived.Maps.AppendAt
import Derived.Maps.OwnSet
import Derived.Maps.OwnOps
import Derived.Laws.ResultCell
import Derived.Lib.AppendZerosOnto
import Derived.Test.Qxb6500880aGreatPl
set_option linter.unusedVariables false
set_option linter.unusedSimpArgs false
namespace Go.Proofs.Qxb6500880aGreat
open Go.RowKit

set_option maxRecDepth 20000 in
set_option maxHeartbeats 8000000 in
theorem run_any {w : World} {Q : RP} {x : RX} {p : RunP} {T0 B : Nat} (X : RAt w Q x) (S : RunS Q p) (I : RI p T0 B x.c x.s x (fun _ => False)) (h0 : ∃ a, x.cu 0 = .int .i64 a) (h1 : ∃ a, x.cu 1 = .int .i64 a) (h2 : ∃ a, x.cu 2 = .int .i64 a) (hTB : T0 + 10 ≤ B) (hB : B ≤ 100000) :
    Calls Tryz.prog 50 #[.pointer (some ⟨Q.E, 0, none⟩), .pointer (some ⟨p.P, 0, none⟩)] w fun e w' => e = .returned (.bool true) ∧ RunEnd w' Q p T0 B x.c x.s := by
  obtain ⟨sP, sgs, sRB, sgj, seb, scb, sg0, sg1, sgk, sIX, sgc, sgh, sgo, sgq⟩ := S.S
  have p2 := X.cell sP S.P2
  have p3 := X.cell sP S.P3
  have hR := S.eR.2.1
  have hC := S.cR.2.1
  have HS := hideIt S
  have HI := hideIt (And.intro I (And.intro h0 (And.intro h1 h2)))
  have HX := hideIt X
  clear X S I h0 h1 h2
  go_enter Tryz.func50, Tryz.ntmps50
  go_wp2_with fail
  go_loopg [17] 0 (fun gg v wr => v = .int .i64 0 ∧ wr = w)
  case atStart => exact ⟨rfl, rfl⟩
  case round =>
  obtain ⟨rfl, ew⟩ := hrel
  replace ew := ew.symm
  subst ew
  go_wp2_with fail
  go_loopg [31] 2 (fun gg v wr => ∃ i : Nat, i + gg = 2 ∧ v = .int .i64 (i : Int) ∧ RAt wr Q x)
  case atStart => exact ⟨0, by omega, rfl, HX.out⟩
  case round =>
  clear p2 p3
  obtain ⟨i, hi, rfl, Y⟩ := hrel
  by_cases hin : i < 2
  · have i0 : (0 : Int) ≤ i := by omega
    have i1 : (i : Int) < 2 := by omega
    have y1 := Y.cell sP HS.out.P3
    obtain ⟨bi, nmi, si, HR, y2, y3, y4, hc0⟩ : ∃ bi nmi si, RelAt wr.drew bi nmi si ∧ wr.cell? ⟨p.gs, i * 8, none⟩ = some (.pointer (some ⟨p.gj, i * 3, none⟩)) ∧ wr.cell? ⟨p.gj, i * 3, none⟩ = some (.pointer (some ⟨bi, 0, none⟩)) ∧ wr.cell? ⟨p.gs, i * 8 + 2, none⟩ = some (.int .u8 0) ∧ 0 < si.cur := by
      rcases (by omega : i = 0 ∨ i = 1) with e | e
      · subst e
        exact ⟨_, _, _, Y.drew.rel seb HS.out.re, Y.cell sgs HS.out.s0, Y.cell sgj HS.out.j0, Y.cell sgs HS.out.s2, by rw [HS.out.eR.2.2]; exact HS.out.eR.1⟩
      · subst e
        exact ⟨_, _, _, Y.drew.rel scb HS.out.rc, Y.cell sgs HS.out.s8, Y.cell sgj HS.out.j3, Y.cell sgs HS.out.s10, by rw [HS.out.cR.2.2]; exact HS.out.cR.1⟩
    have hbd := bounds_any HR
    obtain ⟨cu, hcu⟩ : ∃ cu, si.cur = cu := ⟨_, rfl⟩
    rw [hcu] at hbd hc0
    have hc1 : ¬ ((0 : Int) = (cu : Int)) := by omega
    have HB := hideIt Y
    clear Y HR hcu hc0
    go_upto_region 10 with fail
    refine wp_region_held_drew (S := (fun w' => w'.cell? ⟨p.P, 3, none⟩ = some (.slice (some ⟨p.gs, 0, none⟩) 2 p.cs) ∧ w'.cell? ⟨p.gs, i * 8, none⟩ = some (.pointer (some ⟨p.gj, i * 3, none⟩)) ∧ w'.cell? ⟨p.gj, i * 3, none⟩ = some (.pointer (some ⟨bi, 0, none⟩)) ∧ w'.cell? ⟨p.gs, i * 8 + 2, none⟩ = some (.int .u8 0))) (by kernel_rfl) ⟨y1, y2, y3, y4⟩ (fun hHeld => ?_)
    refine wpAnyH_take (i := 0) (oi := { dst := some 35, op := Go.Op.move (Go.Operand.tmp 1), type := 166, pos := _, after := #[], guard := none }) (v := ?vv40001) rfl (by kernel_rfl) (by kernel_rfl) (by kernel_rfl) (fun _ _ _ h => h) (Or.inl ⟨by rfl, ?hy40001⟩) (by assumption) ?tk40001
    case hy40001 => (intro w hSw; (try dsimp only at hSw); go_simp; (try with_reducible rfl))
    try simp only [Act.put, List.setIfInBounds_toArray, List.set_cons_zero, List.set_cons_succ]
    refine wpAnyH_take (i := 1) (oi := { dst := some 36, op := Go.Op.nilCheck (Go.Operand.tmp 35), type := 0, pos := _, after := #[{ on := 0, ground := Go.Ground.data }], guard := none }) (v := ?vv40002) rfl (by kernel_rfl) (by kernel_rfl) (by kernel_rfl) (fun _ _ _ h => h) (Or.inl ⟨by rfl, ?hy40002⟩) (by assumption) ?tk40002
    case hy40002 => (intro w hSw; (try dsimp only at hSw); go_simp; (try with_reducible rfl))
    try simp only [Act.put, List.setIfInBounds_toArray, List.set_cons_zero, List.set_cons_succ]
    refine wpAnyH_take (i := 2) (oi := { dst := some 37, op := Go.Op.fieldAddr 182 (Go.Operand.tmp 36) 3, type := 0, pos := _, after := #[{ on := 1, ground := Go.Ground.data }], guard := none }) (v := ?vv40003) rfl (by kernel_rfl) (by kernel_rfl) (by kernel_rfl) (fun _ _ _ h => h) (Or.inl ⟨by rfl, ?hy40003⟩) (by assumption) ?tk40003
    case hy40003 => (intro w hSw; (try dsimp only at hSw); go_simp; (try with_reducible rfl))
    try simp only [Act.put, List.setIfInBounds_toArray, List.set_cons_zero, List.set_cons_succ]
    refine wpAnyH_take (i := 3) (oi := { dst := some 38, op := Go.Op.load 180 (Go.Operand.tmp 37), type := 180, pos := _, after := #[{ on := 2, ground := Go.Ground.data }], guard := none }) (v := ?vv40004) rfl (by kernel_rfl) (by kernel_rfl) (by kernel_rfl) (fun _ _ _ h => h) (Or.inl ⟨by rfl, ?hy40004⟩) (by assumption) ?tk40004
    case hy40004 => (intro w hSw; (try dsimp only at hSw); go_simp; (try with_reducible rfl))
    try simp only [Act.put, List.setIfInBounds_toArray, List.set_cons_zero, List.set_cons_succ]
    refine wpAnyH_take (i := 4) (oi := { dst := some 39, op := Go.Op.move (Go.Operand.tmp 7), type := 3, pos := _, after := #[], guard := none }) (v := ?vv40005) rfl (by kernel_rfl) (by kernel_rfl) (by kernel_rfl) (fun _ _ _ h => h) (Or.inl ⟨by rfl, ?hy40005⟩) (by assumption) ?tk40005
    case hy40005 => (intro w hSw; (try dsimp only at hSw); go_simp; (try with_reducible rfl))
    try simp only [Act.put, List.setIfInBounds_toArray, List.set_cons_zero, List.set_cons_succ]
    refine wpAnyH_take (i := 5) (oi := { dst := some 40, op := Go.Op.indexAddr 180 (Go.Operand.tmp 38) (Go.Operand.tmp 39), type := 0, pos := _, after := #[{ on := 3, ground := Go.Ground.data }, { on := 4, ground := Go.Ground.data }], guard := none }) (v := ?vv40006) rfl (by kernel_rfl) (by kernel_rfl) (by kernel_rfl) (fun _ _ _ h => h) (Or.inl ⟨by rfl, ?hy40006⟩) (by assumption) ?tk40006
    case hy40006 => (intro w hSw; (try dsimp only at hSw); go_simp; (try with_reducible rfl))
    try simp only [Act.put, List.setIfInBounds_toArray, List.set_cons_zero, List.set_cons_succ]
    refine wpAnyH_take (i := 6) (oi := { dst := some 41, op := Go.Op.fieldAddr 191 (Go.Operand.tmp 40) 0, type := 0, pos := _, after := #[{ on := 5, ground := Go.Ground.data }], guard := none }) (v := ?vv40007) rfl (by kernel_rfl) (by kernel_rfl) (by kernel_rfl) (fun _ _ _ h => h) (Or.inl ⟨by rfl, ?hy40007⟩) (by assumption) ?tk40007
    case hy40007 => (intro w hSw; (try dsimp only at hSw); go_simp; (try with_reducible rfl))
    try simp only [Act.put, List.setIfInBounds_toArray, List.set_cons_zero, List.set_cons_succ]
    refine wpAnyH_take (i := 7) (oi := { dst := some 42, op := Go.Op.load 185 (Go.Operand.tmp 41), type := 185, pos := _, after := #[{ on := 6, ground := Go.Ground.data }], guard := none }) (v := ?vv40008) rfl (by kernel_rfl) (by kernel_rfl) (by kernel_rfl) (fun _ _ _ h => h) (Or.inl ⟨by rfl, ?hy40008⟩) (by assumption) ?tk40008
    case hy40008 => (intro w hSw; (try dsimp only at hSw); go_simp; (try with_reducible rfl))
    try simp only [Act.put, List.setIfInBounds_toArray, List.set_cons_zero, List.set_cons_succ]
    refine wpAnyH_take (i := 8) (oi := { dst := some 43, op := Go.Op.nilCheck (Go.Operand.tmp 42), type := 0, pos := _, after := #[{ on := 7, ground := Go.Ground.data }], guard := none }) (v := ?vv40009) rfl (by kernel_rfl) (by kernel_rfl) (by kernel_rfl) (fun _ _ _ h => h) (Or.inl ⟨by rfl, ?hy40009⟩) (by assumption) ?tk40009
    case hy40009 => (intro w hSw; (try dsimp only at hSw); go_simp; (try with_reducible rfl))
    try simp only [Act.put, List.setIfInBounds_toArray, List.set_cons_zero, List.set_cons_succ]
    refine wpAnyH_take (i := 9) (oi := { dst := some 44, op := Go.Op.fieldAddr 102 (Go.Operand.tmp 43) 0, type := 0, pos := _, after := #[{ on := 8, ground := Go.Ground.data }], guard := none }) (v := ?vv40010) rfl (by kernel_rfl) (by kernel_rfl) (by kernel_rfl) (fun _ _ _ h => h) (Or.inl ⟨by rfl, ?hy40010⟩) (by assumption) ?tk40010
    case hy40010 => (intro w hSw; (try dsimp only at hSw); go_simp; (try with_reducible rfl))
    try simp only [Act.put, List.setIfInBounds_toArray, List.set_cons_zero, List.set_cons_succ]
    refine wpAnyH_take (i := 10) (oi := { dst := some 45, op := Go.Op.load 99 (Go.Operand.tmp 44), type := 99, pos := _, after := #[{ on := 9, ground := Go.Ground.data }], guard := none }) (v := ?vv40011) rfl (by kernel_rfl) (by kernel_rfl) (by kernel_rfl) (fun _ _ _ h => h) (Or.inl ⟨by rfl, ?hy40011⟩) (by assumption) ?tk40011
    case hy40011 => (intro w hSw; (try dsimp only at hSw); go_simp; (try with_reducible rfl))
    try simp only [Act.put, List.setIfInBounds_toArray, List.set_cons_zero, List.set_cons_succ]
    refine wpAnyH_take (i := 11) (oi := { dst := some 46, op := Go.Op.move (Go.Operand.tmp 1), type := 166, pos := _, after := #[], guard := none }) (v := ?vv40012) rfl (by kernel_rfl) (by kernel_rfl) (by kernel_rfl) (fun _ _ _ h => h) (Or.inl ⟨by rfl, ?hy40012⟩) (by assumption) ?tk40012
    case hy40012 => (intro w hSw; (try dsimp only at hSw); go_simp; (try with_reducible rfl))
    try simp only [Act.put, List.setIfInBounds_toArray, List.set_cons_zero, List.set_cons_succ]
    refine wpAnyH_take (i := 12) (oi := { dst := some 47, op := Go.Op.nilCheck (Go.Operand.tmp 46), type := 0, pos := _, after := #[{ on := 11, ground := Go.Ground.data }], guard := none }) (v := ?vv40013) rfl (by kernel_rfl) (by kernel_rfl) (by kernel_rfl) (fun _ _ _ h => h) (Or.inl ⟨by rfl, ?hy40013⟩) (by assumption) ?tk40013
    case hy40013 => (intro w hSw; (try dsimp only at hSw); go_simp; (try with_reducible rfl))
    try simp only [Act.put, List.setIfInBounds_toArray, List.set_cons_zero, List.set_cons_succ]
    refine wpAnyH_take (i := 13) (oi := { dst := some 48, op := Go.Op.fieldAddr 182 (Go.Operand.tmp 47) 3, type := 0, pos := _, after := #[{ on := 12, ground := Go.Ground.data }], guard := none }) (v := ?vv40014) rfl (by kernel_rfl) (by kernel_rfl) (by kernel_rfl) (fun _ _ _ h => h) (Or.inl ⟨by rfl, ?hy40014⟩) (by assumption) ?tk40014
    case hy40014 => (intro w hSw; (try dsimp only at hSw); go_simp; (try with_reducible rfl))
    try simp only [Act.put, List.setIfInBounds_toArray, List.set_cons_zero, List.set_cons_succ]
    refine wpAnyH_take (i := 14) (oi := { dst := some 49, op := Go.Op.load 180 (Go.Operand.tmp 48), type := 180, pos := _, after := #[{ on := 13, ground := Go.Ground.data }], guard := none }) (v := ?vv40015) rfl (by kernel_rfl) (by kernel_rfl) (by kernel_rfl) (fun _ _ _ h => h) (Or.inl ⟨by rfl, ?hy40015⟩) (by assumption) ?tk40015
    case hy40015 => (intro w hSw; (try dsimp only at hSw); go_simp; (try with_reducible rfl))
    try simp only [Act.put, List.setIfInBounds_toArray, List.set_cons_zero, List.set_cons_succ]
    refine wpAnyH_take (i := 15) (oi := { dst := some 50, op := Go.Op.move (Go.Operand.tmp 7), type := 3, pos := _, after := #[], guard := none }) (v := ?vv40016) rfl (by kernel_rfl) (by kernel_rfl) (by kernel_rfl) (fun _ _ _ h => h) (Or.inl ⟨by rfl, ?hy40016⟩) (by assumption) ?tk40016
    case hy40016 => (intro w hSw; (try dsimp only at hSw); go_simp; (try with_reducible rfl))
    try simp only [Act.put, List.setIfInBounds_toArray, List.set_cons_zero, List.set_cons_succ]
    refine wpAnyH_take (i := 16) (oi := { dst := some 51, op := Go.Op.indexAddr 180 (Go.Operand.tmp 49) (Go.Operand.tmp 50), type := 0, pos := _, after := #[{ on := 14, ground := Go.Ground.data }, { on := 15, ground := Go.Ground.data }], guard := none }) (v := ?vv40017) rfl (by kernel_rfl) (by kernel_rfl) (by kernel_rfl) (fun _ _ _ h => h) (Or.inl ⟨by rfl, ?hy40017⟩) (by assumption) ?tk40017
    case hy40017 => (intro w hSw; (try dsimp only at hSw); go_simp; (try with_reducible rfl))
    try simp only [Act.put, List.setIfInBounds_toArray, List.set_cons_zero, List.set_cons_succ]
    refine wpAnyH_take (i := 17) (oi := { dst := some 52, op := Go.Op.fieldAddr 191 (Go.Operand.tmp 51) 2, type := 0, pos := _, after := #[{ on := 16, ground := Go.Ground.data }], guard := none }) (v := ?vv40018) rfl (by kernel_rfl) (by kernel_rfl) (by kernel_rfl) (fun _ _ _ h => h) (Or.inl ⟨by rfl, ?hy40018⟩) (by assumption) ?tk40018
    case hy40018 => (intro w hSw; (try dsimp only at hSw); go_simp; (try with_reducible rfl))
    try simp only [Act.put, List.setIfInBounds_toArray, List.set_cons_zero, List.set_cons_succ]
    refine wpAnyH_take (i := 18) (oi := { dst := some 53, op := Go.Op.load 186 (Go.Operand.tmp 52), type := 186, pos := _, after := #[{ on := 17, ground := Go.Ground.data }], guard := none }) (v := ?vv40019) rfl (by kernel_rfl) (by kernel_rfl) (by kernel_rfl) (fun _ _ _ h => h) (Or.inl ⟨by rfl, ?hy40019⟩) (by assumption) ?tk40019
    case hy40019 => (intro w hSw; (try dsimp only at hSw); go_simp; (try with_reducible rfl))
    try simp only [Act.put, List.setIfInBounds_toArray, List.set_cons_zero, List.set_cons_succ]
    refine wpAnyH_ready (rs := [19]) (by kernel_rfl) (by simp) ?_
    refine AllReadyH.cons (o := { dst := some 54, op := Go.Op.call { callee := Go.Callee.value (Go.Operand.func 64), args := #[Go.Operand.tmp 45, Go.Operand.tmp 53], argTypes := #[99, 186] }, type := 197, pos := _, after := #[{ on := 10, ground := Go.Ground.data }, { on := 18, ground := Go.Ground.data }], guard := none }) rfl (fun K' hK' => ?_) AllReadyH.nil
    go_simp
    go_at_call 64
    refine hbd.mono ?_
    rintro e w5 ⟨rfl, rfl⟩
    clear hHeld
    refine hK'.out _ _ ⟨y1, y2, y3, y4⟩ (fun hHeld => ?_)
    clear hK' K'
    try simp only [Act.put, List.setIfInBounds_toArray, List.set_cons_zero, List.set_cons_succ]
    refine wpAnyH_take (i := 20) (oi := { dst := some 34, op := Go.Op.move (Go.Operand.tmp 54), type := 197, pos := _, after := #[{ on := 19, ground := Go.Ground.data }], guard := none }) (v := ?vv40020) rfl (by kernel_rfl) (by kernel_rfl) (by kernel_rfl) (fun _ _ _ h => h) (Or.inl ⟨by rfl, ?hy40020⟩) (by assumption) ?tk40020
    case hy40020 => (intro w hSw; (try dsimp only at hSw); go_simp; (try with_reducible rfl))
    try simp only [Act.put, List.setIfInBounds_toArray, List.set_cons_zero, List.set_cons_succ]
    refine wpAnyH_take (i := 21) (oi := { dst := some 55, op := Go.Op.extract (Go.Operand.tmp 34) 0, type := 3, pos := _, after := #[{ on := 20, ground := Go.Ground.data }], guard := none }) (v := ?vv40021) rfl (by kernel_rfl) (by kernel_rfl) (by kernel_rfl) (fun _ _ _ h => h) (Or.inl ⟨by rfl, ?hy40021⟩) (by assumption) ?tk40021
    case hy40021 => (intro w hSw; (try dsimp only at hSw); go_simp; (try with_reducible rfl))
    try simp only [Act.put, List.setIfInBounds_toArray, List.set_cons_zero, List.set_cons_succ]
    refine wpAnyH_take (i := 22) (oi := { dst := some 56, op := Go.Op.extract (Go.Operand.tmp 34) 1, type := 3, pos := _, after := #[{ on := 20, ground := Go.Ground.data }, { on := 23, ground := Go.Ground.gcOnly Go.Departure.lateStores }], guard := none }) (v := ?vv40022) rfl (by kernel_rfl) (by kernel_rfl) (by kernel_rfl) (fun _ _ _ h => h) (Or.inl ⟨by rfl, ?hy40022⟩) (by assumption) ?tk40022
    case hy40022 => (intro w hSw; (try dsimp only at hSw); go_simp; (try with_reducible rfl))
    try simp only [Act.put, List.setIfInBounds_toArray, List.set_cons_zero, List.set_cons_succ]
    refine wpAnyH_take (i := 23) (oi := { dst := some 8, op := Go.Op.assign (Go.Operand.tmp 55), type := 3, pos := _, after := #[{ on := 21, ground := Go.Ground.data }, { on := 19, ground := Go.Ground.chain }, { on := 0, ground := Go.Ground.phase }, { on := 1, ground := Go.Ground.phase }, { on := 2, ground := Go.Ground.phase }, { on := 3, ground := Go.Ground.phase }, { on := 4, ground := Go.Ground.phase }, { on := 5, ground := Go.Ground.phase }, { on := 6, ground := Go.Ground.phase }, { on := 7, ground := Go.Ground.phase }, { on := 8, ground := Go.Ground.phase }, { on := 9, ground := Go.Ground.phase }, { on := 10, ground := Go.Ground.phase }, { on := 11, ground := Go.Ground.phase }, { on := 12, ground := Go.Ground.phase }, { on := 13, ground := Go.Ground.phase }, { on := 14, ground := Go.Ground.phase }, { on := 15, ground := Go.Ground.phase }, { on := 16, ground := Go.Ground.phase }, { on := 17, ground := Go.Ground.phase }, { on := 18, ground := Go.Ground.phase }, { on := 19, ground := Go.Ground.phase }, { on := 20, ground := Go.Ground.phase }, { on := 21, ground := Go.Ground.phase }, { on := 22, ground := Go.Ground.textOnly Go.Departure.lateStores }], guard := none }) (v := ?vv40023) rfl (by kernel_rfl) (by kernel_rfl) (by kernel_rfl) (fun _ _ _ h => h) (Or.inl ⟨by rfl, ?hy40023⟩) (by assumption) ?tk40023
    case hy40023 => (intro w hSw; (try dsimp only at hSw); go_simp; (try with_reducible rfl))
    try simp only [Act.put, List.setIfInBounds_toArray, List.set_cons_zero, List.set_cons_succ]
    refine wpAnyH_take (i := 24) (oi := { dst := some 9, op := Go.Op.assign (Go.Operand.tmp 56), type := 3, pos := _, after := #[{ on := 22, ground := Go.Ground.data }, { on := 23, ground := Go.Ground.chain }, { on := 0, ground := Go.Ground.phase }, { on := 1, ground := Go.Ground.phase }, { on := 2, ground := Go.Ground.phase }, { on := 3, ground := Go.Ground.phase }, { on := 4, ground := Go.Ground.phase }, { on := 5, ground := Go.Ground.phase }, { on := 6, ground := Go.Ground.phase }, { on := 7, ground := Go.Ground.phase }, { on := 8, ground := Go.Ground.phase }, { on := 9, ground := Go.Ground.phase }, { on := 10, ground := Go.Ground.phase }, { on := 11, ground := Go.Ground.phase }, { on := 12, ground := Go.Ground.phase }, { on := 13, ground := Go.Ground.phase }, { on := 14, ground := Go.Ground.phase }, { on := 15, ground := Go.Ground.phase }, { on := 16, ground := Go.Ground.phase }, { on := 17, ground := Go.Ground.phase }, { on := 18, ground := Go.Ground.phase }, { on := 19, ground := Go.Ground.phase }, { on := 20, ground := Go.Ground.phase }, { on := 21, ground := Go.Ground.phase }, { on := 22, ground := Go.Ground.phase }, { on := 23, ground := Go.Ground.phase }], guard := none }) (v := ?vv40024) rfl (by kernel_rfl) (by kernel_rfl) (by kernel_rfl) (fun _ _ _ h => h) (Or.inl ⟨by rfl, ?hy40024⟩) (by assumption) ?tk40024
    case hy40024 => (intro w hSw; (try dsimp only at hSw); go_simp; (try with_reducible rfl))
    try simp only [Act.put, List.setIfInBounds_toArray, List.set_cons_zero, List.set_cons_succ]
    refine wpAnyH_done (by kernel_rfl) ?_ _
    clear hHeld
    generalize hww : wr.drew.drew = wz
    have HW := hideIt hww
    clear hww
    go_wp2
    go_roundg (2 - (i + 1))
    case measure => omega
    case rel => exact ⟨i + 1, by omega, by go_num, by rw [← HW.out]; exact HB.out.drew.drew⟩
  have i1 : ¬ ((i : Int) < 2) := by omega
  clear hin hi
  have y1 := Y.cell sP HS.out.P3
  have y2 := Y.e.get Y.c22 (by omega)
  have hop := open0_any Y.drew HS.out HI.out.1.u5 HI.out.2.1 HI.out.2.2.1 HI.out.2.2.2
  clear Y
  go_upto_region 18 with fail
  refine wp_region_l (l := 11) (S := (fun w' => w'.cell? ⟨p.P, 3, none⟩ = some (.slice (some ⟨p.gs, 0, none⟩) 2 p.cs) ∧ w'.cell? ⟨Q.E, 22, none⟩ = some (.slice (some ⟨Q.GC, 0, none⟩) 2 2))) (by kernel_rfl) ⟨y1, y2⟩ (fun hHeld => ?_)
  refine AnyL.take2 (i := 0) (oi := { dst := some 72, op := Go.Op.move (Go.Operand.tmp 0), type := 58, pos := _, after := #[], guard := none }) (v := ?vv40025) (by kernel_rfl) (by kernel_rfl) rfl (by kernel_rfl) (by kernel_rfl) (by kernel_rfl) (fun _ _ _ h => h) (Or.inl ⟨by rfl, ?hy40025⟩) (by assumption) ?tk40025
  case hy40025 => (intro w hSw; (try dsimp only at hSw); go_simp; (try with_reducible rfl))
  try simp only [Act.put, List.setIfInBounds_toArray, List.set_cons_zero, List.set_cons_succ]
  refine AnyL.take2 (i := 1) (oi := { dst := some 73, op := Go.Op.move (Go.Operand.tmp 1), type := 166, pos := _, after := #[], guard := none }) (v := ?vv40026) (by kernel_rfl) (by kernel_rfl) rfl (by kernel_rfl) (by kernel_rfl) (by kernel_rfl) (fun _ _ _ h => h) (Or.inl ⟨by rfl, ?hy40026⟩) (by assumption) ?tk40026
  case hy40026 => (intro w hSw; (try dsimp only at hSw); go_simp; (try with_reducible rfl))
  try simp only [Act.put, List.setIfInBounds_toArray, List.set_cons_zero, List.set_cons_succ]
  refine AnyL.take2 (i := 2) (oi := { dst := some 74, op := Go.Op.nilCheck (Go.Operand.tmp 73), type := 0, pos := _, after := #[{ on := 1, ground := Go.Ground.data }], guard := none }) (v := ?vv40027) (by kernel_rfl) (by kernel_rfl) rfl (by kernel_rfl) (by kernel_rfl) (by kernel_rfl) (fun _ _ _ h => h) (Or.inl ⟨by rfl, ?hy40027⟩) (by assumption) ?tk40027
  case hy40027 => (intro w hSw; (try dsimp only at hSw); go_simp; (try with_reducible rfl))
  try simp only [Act.put, List.setIfInBounds_toArray, List.set_cons_zero, List.set_cons_succ]
  refine AnyL.take2 (i := 3) (oi := { dst := some 75, op := Go.Op.fieldAddr 182 (Go.Operand.tmp 74) 3, type := 0, pos := _, after := #[{ on := 2, ground := Go.Ground.data }], guard := none }) (v := ?vv40028) (by kernel_rfl) (by kernel_rfl) rfl (by kernel_rfl) (by kernel_rfl) (by kernel_rfl) (fun _ _ _ h => h) (Or.inl ⟨by rfl, ?hy40028⟩) (by assumption) ?tk40028
  case hy40028 => (intro w hSw; (try dsimp only at hSw); go_simp; (try with_reducible rfl))
  try simp only [Act.put, List.setIfInBounds_toArray, List.set_cons_zero, List.set_cons_succ]
  refine AnyL.take2 (i := 4) (oi := { dst := some 76, op := Go.Op.load 180 (Go.Operand.tmp 75), type := 180, pos := _, after := #[{ on := 3, ground := Go.Ground.data }], guard := none }) (v := ?vv40029) (by kernel_rfl) (by kernel_rfl) rfl (by kernel_rfl) (by kernel_rfl) (by kernel_rfl) (fun _ _ _ h => h) (Or.inl ⟨by rfl, ?hy40029⟩) (by assumption) ?tk40029
  case hy40029 => (intro w hSw; (try dsimp only at hSw); go_simp; (try with_reducible rfl))
  try simp only [Act.put, List.setIfInBounds_toArray, List.set_cons_zero, List.set_cons_succ]
  refine AnyL.take2 (i := 5) (oi := { dst := some 77, op := Go.Op.indexAddr 180 (Go.Operand.tmp 76) (Go.Operand.const (Go.Value.int Go.IntKind.i64 0)), type := 0, pos := _, after := #[{ on := 4, ground := Go.Ground.data }], guard := none }) (v := ?vv40030) (by kernel_rfl) (by kernel_rfl) rfl (by kernel_rfl) (by kernel_rfl) (by kernel_rfl) (fun _ _ _ h => h) (Or.inl ⟨by rfl, ?hy40030⟩) (by assumption) ?tk40030
  case hy40030 => (intro w hSw; (try dsimp only at hSw); go_simp; (try with_reducible rfl))
  try simp only [Act.put, List.setIfInBounds_toArray, List.set_cons_zero, List.set_cons_succ]
  refine AnyL.take2 (i := 6) (oi := { dst := some 78, op := Go.Op.move (Go.Operand.tmp 0), type := 58, pos := _, after := #[], guard := none }) (v := ?vv40031) (by kernel_rfl) (by kernel_rfl) rfl (by kernel_rfl) (by kernel_rfl) (by kernel_rfl) (fun _ _ _ h => h) (Or.inl ⟨by rfl, ?hy40031⟩) (by assumption) ?tk40031
  case hy40031 => (intro w hSw; (try dsimp only at hSw); go_simp; (try with_reducible rfl))
  try simp only [Act.put, List.setIfInBounds_toArray, List.set_cons_zero, List.set_cons_succ]
  refine AnyL.take2 (i := 7) (oi := { dst := some 79, op := Go.Op.nilCheck (Go.Operand.tmp 78), type := 0, pos := _, after := #[{ on := 6, ground := Go.Ground.data }], guard := none }) (v := ?vv40032) (by kernel_rfl) (by kernel_rfl) rfl (by kernel_rfl) (by kernel_rfl) (by kernel_rfl) (fun _ _ _ h => h) (Or.inl ⟨by rfl, ?hy40032⟩) (by assumption) ?tk40032
  case hy40032 => (intro w hSw; (try dsimp only at hSw); go_simp; (try with_reducible rfl))
  try simp only [Act.put, List.setIfInBounds_toArray, List.set_cons_zero, List.set_cons_succ]
  refine AnyL.take2 (i := 8) (oi := { dst := some 80, op := Go.Op.fieldAddr 86 (Go.Operand.tmp 79) 12, type := 0, pos := _, after := #[{ on := 7, ground := Go.Ground.data }], guard := none }) (v := ?vv40033) (by kernel_rfl) (by kernel_rfl) rfl (by kernel_rfl) (by kernel_rfl) (by kernel_rfl) (fun _ _ _ h => h) (Or.inl ⟨by rfl, ?hy40033⟩) (by assumption) ?tk40033
  case hy40033 => (intro w hSw; (try dsimp only at hSw); go_simp; (try with_reducible rfl))
  try simp only [Act.put, List.setIfInBounds_toArray, List.set_cons_zero, List.set_cons_succ]
  refine AnyL.take2 (i := 9) (oi := { dst := some 81, op := Go.Op.load 84 (Go.Operand.tmp 80), type := 84, pos := _, after := #[{ on := 8, ground := Go.Ground.data }], guard := none }) (v := ?vv40034) (by kernel_rfl) (by kernel_rfl) rfl (by kernel_rfl) (by kernel_rfl) (by kernel_rfl) (fun _ _ _ h => h) (Or.inl ⟨by rfl, ?hy40034⟩) (by assumption) ?tk40034
  case hy40034 => (intro w hSw; (try dsimp only at hSw); go_simp; (try with_reducible rfl))
  try simp only [Act.put, List.setIfInBounds_toArray, List.set_cons_zero, List.set_cons_succ]
  refine AnyL.take2 (i := 10) (oi := { dst := some 82, op := Go.Op.indexAddr 84 (Go.Operand.tmp 81) (Go.Operand.const (Go.Value.int Go.IntKind.i64 0)), type := 0, pos := _, after := #[{ on := 9, ground := Go.Ground.data }], guard := none }) (v := ?vv40035) (by kernel_rfl) (by kernel_rfl) rfl (by kernel_rfl) (by kernel_rfl) (by kernel_rfl) (fun _ _ _ h => h) (Or.inl ⟨by rfl, ?hy40035⟩) (by assumption) ?tk40035
  case hy40035 => (intro w hSw; (try dsimp only at hSw); go_simp; (try with_reducible rfl))
  try simp only [Act.put, List.setIfInBounds_toArray, List.set_cons_zero, List.set_cons_succ]
  refine AnyL.last (o := { dst := some 83, op := Go.Op.call { callee := Go.Callee.value (Go.Operand.func 66), args := #[Go.Operand.tmp 72, Go.Operand.tmp 77, Go.Operand.tmp 82], argTypes := #[58, 200, 201] }, type := 0, pos := _, after := #[{ on := 0, ground := Go.Ground.data }, { on := 5, ground := Go.Ground.data }, { on := 10, ground := Go.Ground.data }], guard := none }) (by kernel_rfl) rfl (by kernel_rfl) (fun K' hK' => ?_)
  go_simp
  go_at_call 66
  refine hop.mono ?_
  rintro e w5 ⟨rfl, h5⟩
  have HX5 := hideIt h5
  clear h5 hop
  clear hHeld
  refine hK'.out _ _ ?_
  clear hK' K'
  try simp only [Act.put, List.setIfInBounds_toArray, List.set_cons_zero, List.set_cons_succ]
  go_wp2_with fail
  go_loopg [11] (p.se.rows * 10 + 1) (fun gg v11 wr => (∃ (i : Nat) (y : RX), i ≤ p.se.rows ∧ v11 = .int .i64 0 ∧ gg = (p.se.rows - i) * 10 + 1 ∧ LA wr Q p T0 B x.c x.s i y) ∨ (∃ (i m : Nat) (y : RX), i < p.se.rows ∧ m ≤ p.sc.rows ∧ v11 = .int .i64 1 ∧ gg = (p.se.rows - i - 1) * 10 + m + 2 ∧ LB wr Q p T0 B x.c x.s i m y) ∨ (v11 = .int .i64 (-1) ∧ gg = 0 ∧ RunEnd wr Q p T0 B x.c x.s))
  case atStart =>
    obtain ⟨x', X', e1, e2, e3, e4, e5, e6, e7, e8, e9, e10⟩ := HX5.out
    obtain ⟨I, h0, h1, h2⟩ := HI.out
    refine .inl ⟨0, x', Nat.zero_le _, rfl, by omega, X', ?_, e8, e9⟩
    have I' : RI p T0 B x.c x.s x' (fun _ => False) := by
      refine ⟨?_, ?_, ?_, ?_, ?_, ?_, ?_, ?_, ?_, ?_, ?_, ?_, ?_, ?_, ?_⟩
      · rw [e4]; exact I.A
      · rw [e4]; exact I.mks
      · rw [e1]; exact I.cb
      · rw [e1, e4]; exact I.c16
      · rw [e1]; exact I.c18
      · rw [e1]; exact I.c19
      · rw [e1]; exact I.cc
      · rw [e6, e4]; exact I.pr
      · rw [e10 4 (by omega) (by omega) (by omega)]; exact I.u4
      · rw [e10 5 (by omega) (by omega) (by omega)]; exact I.u5
      · rw [e10 6 (by omega) (by omega) (by omega)]; exact I.u6
      · rw [e10 7 (by omega) (by omega) (by omega)]; exact I.u7
      · rw [e10 9 (by omega) (by omega) (by omega)]; exact I.u9
      · rw [e10 10 (by omega) (by omega) (by omega)]; exact I.u10
      · rw [e5, e4]; exact I.k
    exact I'.congr (fun r _ => ⟨fun z => z.elim, fun ⟨i', h, _⟩ => by omega⟩)
  case round =>
  clear HX5 y1 y2
  rcases hrel with ⟨i, y, hi, rfl, hg, L⟩ | ⟨i, m, y, hi, hm, rfl, hg, L⟩ | ⟨rfl, hg, L⟩
  · by_cases hin : i < p.se.rows
    · have y1 := L.x.cell sP HS.out.P3
      have y2 := L.x.e.get L.x.c22 (by omega)
      have had := adv0_some L.x.drew HS.out L.ri.c19 L.ri.u4 L.u1 L.u2 hin
      have HL := hideIt L
      have HG := hideIt hg
      clear L hg
      go_upto_region 20 with fail
      refine wp_region_held_drew (S := (fun w' => w'.cell? ⟨p.P, 3, none⟩ = some (.slice (some ⟨p.gs, 0, none⟩) 2 p.cs) ∧ w'.cell? ⟨Q.E, 22, none⟩ = some (.slice (some ⟨Q.GC, 0, none⟩) 2 2))) (by kernel_rfl) ⟨y1, y2⟩ (fun hHeld => ?_)
      refine wpAnyH_take (i := 0) (oi := { dst := some 86, op := Go.Op.move (Go.Operand.tmp 0), type := 58, pos := _, after := #[], guard := none }) (v := ?vv40105) rfl (by kernel_rfl) (by kernel_rfl) (by kernel_rfl) (fun _ _ _ h => h) (Or.inl ⟨by rfl, ?hy40105⟩) (by assumption) ?tk40105
      case hy40105 => (intro w hSw; (try dsimp only at hSw); go_simp; (try with_reducible rfl))
      try simp only [Act.put, List.setIfInBounds_toArray, List.set_cons_zero, List.set_cons_succ]
      refine wpAnyH_take (i := 1) (oi := { dst := some 87, op := Go.Op.move (Go.Operand.tmp 1), type := 166, pos := _, after := #[], guard := none }) (v := ?vv40106) rfl (by kernel_rfl) (by kernel_rfl) (by kernel_rfl) (fun _ _ _ h => h) (Or.inl ⟨by rfl, ?hy40106⟩) (by assumption) ?tk40106
      case hy40106 => (intro w hSw; (try dsimp only at hSw); go_simp; (try with_reducible rfl))
      try simp only [Act.put, List.setIfInBounds_toArray, List.set_cons_zero, List.set_cons_succ]
      refine wpAnyH_take (i := 2) (oi := { dst := some 88, op := Go.Op.nilCheck (Go.Operand.tmp 87), type := 0, pos := _, after := #[{ on := 1, ground := Go.Ground.data }], guard := none }) (v := ?vv40107) rfl (by kernel_rfl) (by kernel_rfl) (by kernel_rfl) (fun _ _ _ h => h) (Or.inl ⟨by rfl, ?hy40107⟩) (by assumption) ?tk40107
      case hy40107 => (intro w hSw; (try dsimp only at hSw); go_simp; (try with_reducible rfl))
      try simp only [Act.put, List.setIfInBounds_toArray, List.set_cons_zero, List.set_cons_succ]
      refine wpAnyH_take (i := 3) (oi := { dst := some 89, op := Go.Op.fieldAddr 182 (Go.Operand.tmp 88) 3, type := 0, pos := _, after := #[{ on := 2, ground := Go.Ground.data }], guard := none }) (v := ?vv40108) rfl (by kernel_rfl) (by kernel_rfl) (by kernel_rfl) (fun _ _ _ h => h) (Or.inl ⟨by rfl, ?hy40108⟩) (by assumption) ?tk40108
      case hy40108 => (intro w hSw; (try dsimp only at hSw); go_simp; (try with_reducible rfl))
      try simp only [Act.put, List.setIfInBounds_toArray, List.set_cons_zero, List.set_cons_succ]
      refine wpAnyH_take (i := 4) (oi := { dst := some 90, op := Go.Op.load 180 (Go.Operand.tmp 89), type := 180, pos := _, after := #[{ on := 3, ground := Go.Ground.data }], guard := none }) (v := ?vv40109) rfl (by kernel_rfl) (by kernel_rfl) (by kernel_rfl) (fun _ _ _ h => h) (Or.inl ⟨by rfl, ?hy40109⟩) (by assumption) ?tk40109
      case hy40109 => (intro w hSw; (try dsimp only at hSw); go_simp; (try with_reducible rfl))
      try simp only [Act.put, List.setIfInBounds_toArray, List.set_cons_zero, List.set_cons_succ]
      refine wpAnyH_take (i := 5) (oi := { dst := some 91, op := Go.Op.move (Go.Operand.tmp 11), type := 3, pos := _, after := #[], guard := none }) (v := ?vv40110) rfl (by kernel_rfl) (by kernel_rfl) (by kernel_rfl) (fun _ _ _ h => h) (Or.inl ⟨by rfl, ?hy40110⟩) (by assumption) ?tk40110
      case hy40110 => (intro w hSw; (try dsimp only at hSw); go_simp; (try with_reducible rfl))
      try simp only [Act.put, List.setIfInBounds_toArray, List.set_cons_zero, List.set_cons_succ]
      refine wpAnyH_take (i := 6) (oi := { dst := some 92, op := Go.Op.indexAddr 180 (Go.Operand.tmp 90) (Go.Operand.tmp 91), type := 0, pos := _, after := #[{ on := 4, ground := Go.Ground.data }, { on := 5, ground := Go.Ground.data }], guard := none }) (v := ?vv40111) rfl (by kernel_rfl) (by kernel_rfl) (by kernel_rfl) (fun _ _ _ h => h) (Or.inl ⟨by rfl, ?hy40111⟩) (by assumption) ?tk40111
      case hy40111 => (intro w hSw; (try dsimp only at hSw); go_simp; (try with_reducible rfl))
      try simp only [Act.put, List.setIfInBounds_toArray, List.set_cons_zero, List.set_cons_succ]
      refine wpAnyH_take (i := 7) (oi := { dst := some 93, op := Go.Op.move (Go.Operand.tmp 0), type := 58, pos := _, after := #[], guard := none }) (v := ?vv40112) rfl (by kernel_rfl) (by kernel_rfl) (by kernel_rfl) (fun _ _ _ h => h) (Or.inl ⟨by rfl, ?hy40112⟩) (by assumption) ?tk40112
      case hy40112 => (intro w hSw; (try dsimp only at hSw); go_simp; (try with_reducible rfl))
      try simp only [Act.put, List.setIfInBounds_toArray, List.set_cons_zero, List.set_cons_succ]
      refine wpAnyH_take (i := 8) (oi := { dst := some 94, op := Go.Op.nilCheck (Go.Operand.tmp 93), type := 0, pos := _, after := #[{ on := 7, ground := Go.Ground.data }], guard := none }) (v := ?vv40113) rfl (by kernel_rfl) (by kernel_rfl) (by kernel_rfl) (fun _ _ _ h => h) (Or.inl ⟨by rfl, ?hy40113⟩) (by assumption) ?tk40113
      case hy40113 => (intro w hSw; (try dsimp only at hSw); go_simp; (try with_reducible rfl))
      try simp only [Act.put, List.setIfInBounds_toArray, List.set_cons_zero, List.set_cons_succ]
      refine wpAnyH_take (i := 9) (oi := { dst := some 95, op := Go.Op.fieldAddr 86 (Go.Operand.tmp 94) 12, type := 0, pos := _, after := #[{ on := 8, ground := Go.Ground.data }], guard := none }) (v := ?vv40114) rfl (by kernel_rfl) (by kernel_rfl) (by kernel_rfl) (fun _ _ _ h => h) (Or.inl ⟨by rfl, ?hy40114⟩) (by assumption) ?tk40114
      case hy40114 => (intro w hSw; (try dsimp only at hSw); go_simp; (try with_reducible rfl))
      try simp only [Act.put, List.setIfInBounds_toArray, List.set_cons_zero, List.set_cons_succ]
      refine wpAnyH_take (i := 10) (oi := { dst := some 96, op := Go.Op.load 84 (Go.Operand.tmp 95), type := 84, pos := _, after := #[{ on := 9, ground := Go.Ground.data }], guard := none }) (v := ?vv40115) rfl (by kernel_rfl) (by kernel_rfl) (by kernel_rfl) (fun _ _ _ h => h) (Or.inl ⟨by rfl, ?hy40115⟩) (by assumption) ?tk40115
      case hy40115 => (intro w hSw; (try dsimp only at hSw); go_simp; (try with_reducible rfl))
      try simp only [Act.put, List.setIfInBounds_toArray, List.set_cons_zero, List.set_cons_succ]
      refine wpAnyH_take (i := 11) (oi := { dst := some 97, op := Go.Op.move (Go.Operand.tmp 11), type := 3, pos := _, after := #[], guard := none }) (v := ?vv40116) rfl (by kernel_rfl) (by kernel_rfl) (by kernel_rfl) (fun _ _ _ h => h) (Or.inl ⟨by rfl, ?hy40116⟩) (by assumption) ?tk40116
      case hy40116 => (intro w hSw; (try dsimp only at hSw); go_simp; (try with_reducible rfl))
      try simp only [Act.put, List.setIfInBounds_toArray, List.set_cons_zero, List.set_cons_succ]
      refine wpAnyH_take (i := 12) (oi := { dst := some 98, op := Go.Op.indexAddr 84 (Go.Operand.tmp 96) (Go.Operand.tmp 97), type := 0, pos := _, after := #[{ on := 10, ground := Go.Ground.data }, { on := 11, ground := Go.Ground.data }], guard := none }) (v := ?vv40117) rfl (by kernel_rfl) (by kernel_rfl) (by kernel_rfl) (fun _ _ _ h => h) (Or.inl ⟨by rfl, ?hy40117⟩) (by assumption) ?tk40117
      case hy40117 => (intro w hSw; (try dsimp only at hSw); go_simp; (try with_reducible rfl))
      try simp only [Act.put, List.setIfInBounds_toArray, List.set_cons_zero, List.set_cons_succ]
      refine wpAnyH_ready (rs := [13]) (by kernel_rfl) (by simp) ?_
      refine AllReadyH.cons (o := { dst := some 99, op := Go.Op.call { callee := Go.Callee.value (Go.Operand.func 67), args := #[Go.Operand.tmp 86, Go.Operand.tmp 92, Go.Operand.tmp 98], argTypes := #[58, 200, 201] }, type := 4, pos := _, after := #[{ on := 0, ground := Go.Ground.data }, { on := 6, ground := Go.Ground.data }, { on := 12, ground := Go.Ground.data }], guard := none }) rfl (fun K' hK' => ?_) AllReadyH.nil
      go_simp
      go_at_call 67
      refine had.mono ?_
      rintro e w5 ⟨rfl, y5, Y5, h5⟩
      have x1 : w5.cell? ⟨p.P, 3, none⟩ = some (.slice (some ⟨p.gs, 0, none⟩) 2 p.cs) := Y5.cell sP HS.out.P3
      have x2 : w5.cell? ⟨Q.E, 22, none⟩ = some (.slice (some ⟨Q.GC, 0, none⟩) 2 2) := Y5.e.get Y5.c22 (by omega)
      have HX5 := hideIt (And.intro Y5 h5)
      clear Y5 h5 had
      clear hHeld
      refine hK'.out _ _ ⟨x1, x2⟩ (fun hHeld => ?_)
      clear hK' K'
      try simp only [Act.put, List.setIfInBounds_toArray, List.set_cons_zero, List.set_cons_succ]
      refine wpAnyH_take (i := 14) (oi := { dst := some 100, op := Go.Op.unOp Go.UnOp.not 4 (Go.Operand.tmp 99), type := 4, pos := _, after := #[{ on := 13, ground := Go.Ground.data }], guard := none }) (v := ?vv40118) rfl (by kernel_rfl) (by kernel_rfl) (by kernel_rfl) (fun _ _ _ h => h) (Or.inl ⟨by rfl, ?hy40118⟩) (by assumption) ?tk40118
      case hy40118 => (intro w hSw; (try dsimp only at hSw); go_simp; (try with_reducible rfl))
      try simp only [Act.put, List.setIfInBounds_toArray, List.set_cons_zero, List.set_cons_succ]
      refine wpAnyH_done (by kernel_rfl) ?_ _
      clear hHeld x1 x2 y1 y2
      obtain ⟨Y5, N, h19, h4, h2, hr⟩ := HX5.out
      have L := HL.out
      have I5 := L.ri.adv0 N h19 h4
      have hrr : y5.r p.fs < 64 ∧ y5.r p.sn < 64 := by
        have e0 := hr 0 (by omega)
        have e1 := hr 1 (by omega)
        have v0 := krE_lt HS.out hin 0 (by omega)
        have v1 := krE_lt HS.out hin 1 (by omega)
        have q0 : p.cf 0 = p.fs := rfl
        have q1 : p.cf 1 = p.sn := rfl
        rw [q0] at e0
        rw [q1] at e1
        rw [e0, e1]
        exact ⟨v0, v1⟩
      have hop := open1_any Y5.drew HS.out I5.u6 I5.u7 I5.u9 hrr
      have y1 := Y5.cell sP HS.out.P3
      have y2 := Y5.e.get Y5.c22 (by omega)
      have HI5 := hideIt (And.intro I5 (And.intro N (And.intro h2 hr)))
      have HX6 := HX5
      clear Y5 N h19 h4 h2 hr L I5 hrr HX5
      go_upto_region 24 with fail
      refine wp_region_l (l := 13) (S := (fun w' => w'.cell? ⟨p.P, 3, none⟩ = some (.slice (some ⟨p.gs, 0, none⟩) 2 p.cs) ∧ w'.cell? ⟨Q.E, 22, none⟩ = some (.slice (some ⟨Q.GC, 0, none⟩) 2 2))) (by kernel_rfl) ⟨y1, y2⟩ (fun hHeld => ?_)
      refine AnyL.take2 (i := 0) (oi := { dst := some 108, op := Go.Op.move (Go.Operand.tmp 0), type := 58, pos := _, after := #[], guard := none }) (v := ?vv40036) (by kernel_rfl) (by kernel_rfl) rfl (by kernel_rfl) (by kernel_rfl) (by kernel_rfl) (fun _ _ _ h => h) (Or.inl ⟨by rfl, ?hy40036⟩) (by assumption) ?tk40036
      case hy40036 => (intro w hSw; (try dsimp only at hSw); go_simp; (try with_reducible rfl))
      try simp only [Act.put, List.setIfInBounds_toArray, List.set_cons_zero, List.set_cons_succ]
      refine AnyL.take2 (i := 1) (oi := { dst := some 109, op := Go.Op.move (Go.Operand.tmp 1), type := 166, pos := _, after := #[], guard := none }) (v := ?vv40037) (by kernel_rfl) (by kernel_rfl) rfl (by kernel_rfl) (by kernel_rfl) (by kernel_rfl) (fun _ _ _ h => h) (Or.inl ⟨by rfl, ?hy40037⟩) (by assumption) ?tk40037
      case hy40037 => (intro w hSw; (try dsimp only at hSw); go_simp; (try with_reducible rfl))
      try simp only [Act.put, List.setIfInBounds_toArray, List.set_cons_zero, List.set_cons_succ]
      refine AnyL.take2 (i := 2) (oi := { dst := some 110, op := Go.Op.nilCheck (Go.Operand.tmp 109), type := 0, pos := _, after := #[{ on := 1, ground := Go.Ground.data }], guard := none }) (v := ?vv40038) (by kernel_rfl) (by kernel_rfl) rfl (by kernel_rfl) (by kernel_rfl) (by kernel_rfl) (fun _ _ _ h => h) (Or.inl ⟨by rfl, ?hy40038⟩) (by assumption) ?tk40038
      case hy40038 => (intro w hSw; (try dsimp only at hSw); go_simp; (try with_reducible rfl))
      try simp only [Act.put, List.setIfInBounds_toArray, List.set_cons_zero, List.set_cons_succ]
      refine AnyL.take2 (i := 3) (oi := { dst := some 111, op := Go.Op.fieldAddr 182 (Go.Operand.tmp 110) 3, type := 0, pos := _, after := #[{ on := 2, ground := Go.Ground.data }], guard := none }) (v := ?vv40039) (by kernel_rfl) (by kernel_rfl) rfl (by kernel_rfl) (by kernel_rfl) (by kernel_rfl) (fun _ _ _ h => h) (Or.inl ⟨by rfl, ?hy40039⟩) (by assumption) ?tk40039
      case hy40039 => (intro w hSw; (try dsimp only at hSw); go_simp; (try with_reducible rfl))
      try simp only [Act.put, List.setIfInBounds_toArray, List.set_cons_zero, List.set_cons_succ]
      refine AnyL.take2 (i := 4) (oi := { dst := some 112, op := Go.Op.load 180 (Go.Operand.tmp 111), type := 180, pos := _, after := #[{ on := 3, ground := Go.Ground.data }], guard := none }) (v := ?vv40040) (by kernel_rfl) (by kernel_rfl) rfl (by kernel_rfl) (by kernel_rfl) (by kernel_rfl) (fun _ _ _ h => h) (Or.inl ⟨by rfl, ?hy40040⟩) (by assumption) ?tk40040
      case hy40040 => (intro w hSw; (try dsimp only at hSw); go_simp; (try with_reducible rfl))
      try simp only [Act.put, List.setIfInBounds_toArray, List.set_cons_zero, List.set_cons_succ]
      refine AnyL.take2 (i := 5) (oi := { dst := some 113, op := Go.Op.move (Go.Operand.tmp 11), type := 3, pos := _, after := #[], guard := none }) (v := ?vv40041) (by kernel_rfl) (by kernel_rfl) rfl (by kernel_rfl) (by kernel_rfl) (by kernel_rfl) (fun _ _ _ h => h) (Or.inl ⟨by rfl, ?hy40041⟩) (by assumption) ?tk40041
      case hy40041 => (intro w hSw; (try dsimp only at hSw); go_simp; (try with_reducible rfl))
      try simp only [Act.put, List.setIfInBounds_toArray, List.set_cons_zero, List.set_cons_succ]
      refine AnyL.take2 (i := 6) (oi := { dst := some 114, op := Go.Op.indexAddr 180 (Go.Operand.tmp 112) (Go.Operand.tmp 113), type := 0, pos := _, after := #[{ on := 4, ground := Go.Ground.data }, { on := 5, ground := Go.Ground.data }], guard := none }) (v := ?vv40042) (by kernel_rfl) (by kernel_rfl) rfl (by kernel_rfl) (by kernel_rfl) (by kernel_rfl) (fun _ _ _ h => h) (Or.inl ⟨by rfl, ?hy40042⟩) (by assumption) ?tk40042
      case hy40042 => (intro w hSw; (try dsimp only at hSw); go_simp; (try with_reducible rfl))
      try simp only [Act.put, List.setIfInBounds_toArray, List.set_cons_zero, List.set_cons_succ]
      refine AnyL.take2 (i := 7) (oi := { dst := some 115, op := Go.Op.move (Go.Operand.tmp 0), type := 58, pos := _, after := #[], guard := none }) (v := ?vv40043) (by kernel_rfl) (by kernel_rfl) rfl (by kernel_rfl) (by kernel_rfl) (by kernel_rfl) (fun _ _ _ h => h) (Or.inl ⟨by rfl, ?hy40043⟩) (by assumption) ?tk40043
      case hy40043 => (intro w hSw; (try dsimp only at hSw); go_simp; (try with_reducible rfl))
      try simp only [Act.put, List.setIfInBounds_toArray, List.set_cons_zero, List.set_cons_succ]
      refine AnyL.take2 (i := 8) (oi := { dst := some 116, op := Go.Op.nilCheck (Go.Operand.tmp 115), type := 0, pos := _, after := #[{ on := 7, ground := Go.Ground.data }], guard := none }) (v := ?vv40044) (by kernel_rfl) (by kernel_rfl) rfl (by kernel_rfl) (by kernel_rfl) (by kernel_rfl) (fun _ _ _ h => h) (Or.inl ⟨by rfl, ?hy40044⟩) (by assumption) ?tk40044
      case hy40044 => (intro w hSw; (try dsimp only at hSw); go_simp; (try with_reducible rfl))
      try simp only [Act.put, List.setIfInBounds_toArray, List.set_cons_zero, List.set_cons_succ]
      refine AnyL.take2 (i := 9) (oi := { dst := some 117, op := Go.Op.fieldAddr 86 (Go.Operand.tmp 116) 12, type := 0, pos := _, after := #[{ on := 8, ground := Go.Ground.data }], guard := none }) (v := ?vv40045) (by kernel_rfl) (by kernel_rfl) rfl (by kernel_rfl) (by kernel_rfl) (by kernel_rfl) (fun _ _ _ h => h) (Or.inl ⟨by rfl, ?hy40045⟩) (by assumption) ?tk40045
      case hy40045 => (intro w hSw; (try dsimp only at hSw); go_simp; (try with_reducible rfl))
      try simp only [Act.put, List.setIfInBounds_toArray, List.set_cons_zero, List.set_cons_succ]
      refine AnyL.take2 (i := 10) (oi := { dst := some 118, op := Go.Op.load 84 (Go.Operand.tmp 117), type := 84, pos := _, after := #[{ on := 9, ground := Go.Ground.data }], guard := none }) (v := ?vv40046) (by kernel_rfl) (by kernel_rfl) rfl (by kernel_rfl) (by kernel_rfl) (by kernel_rfl) (fun _ _ _ h => h) (Or.inl ⟨by rfl, ?hy40046⟩) (by assumption) ?tk40046
      case hy40046 => (intro w hSw; (try dsimp only at hSw); go_simp; (try with_reducible rfl))
      try simp only [Act.put, List.setIfInBounds_toArray, List.set_cons_zero, List.set_cons_succ]
      refine AnyL.take2 (i := 11) (oi := { dst := some 119, op := Go.Op.move (Go.Operand.tmp 11), type := 3, pos := _, after := #[], guard := none }) (v := ?vv40047) (by kernel_rfl) (by kernel_rfl) rfl (by kernel_rfl) (by kernel_rfl) (by kernel_rfl) (fun _ _ _ h => h) (Or.inl ⟨by rfl, ?hy40047⟩) (by assumption) ?tk40047
      case hy40047 => (intro w hSw; (try dsimp only at hSw); go_simp; (try with_reducible rfl))
      try simp only [Act.put, List.setIfInBounds_toArray, List.set_cons_zero, List.set_cons_succ]
      refine AnyL.take2 (i := 12) (oi := { dst := some 120, op := Go.Op.indexAddr 84 (Go.Operand.tmp 118) (Go.Operand.tmp 119), type := 0, pos := _, after := #[{ on := 10, ground := Go.Ground.data }, { on := 11, ground := Go.Ground.data }], guard := none }) (v := ?vv40048) (by kernel_rfl) (by kernel_rfl) rfl (by kernel_rfl) (by kernel_rfl) (by kernel_rfl) (fun _ _ _ h => h) (Or.inl ⟨by rfl, ?hy40048⟩) (by assumption) ?tk40048
      case hy40048 => (intro w hSw; (try dsimp only at hSw); go_simp; (try with_reducible rfl))
      try simp only [Act.put, List.setIfInBounds_toArray, List.set_cons_zero, List.set_cons_succ]
      refine AnyL.last (o := { dst := some 121, op := Go.Op.call { callee := Go.Callee.value (Go.Operand.func 66), args := #[Go.Operand.tmp 108, Go.Operand.tmp 114, Go.Operand.tmp 120], argTypes := #[58, 200, 201] }, type := 0, pos := _, after := #[{ on := 0, ground := Go.Ground.data }, { on := 6, ground := Go.Ground.data }, { on := 12, ground := Go.Ground.data }], guard := none }) (by kernel_rfl) rfl (by kernel_rfl) (fun K' hK' => ?_)
      go_simp
      go_at_call 66
      refine hop.mono ?_
      rintro e w5 ⟨rfl, h5⟩
      have HX5 := hideIt h5
      clear h5 hop
      clear hHeld
      refine hK'.out _ _ ?_
      clear hK' K'
      try simp only [Act.put, List.setIfInBounds_toArray, List.set_cons_zero, List.set_cons_succ]
      go_wp2
      go_roundg ((p.se.rows - i - 1) * 10 + p.sc.rows + 2)
      case measure => have := HG.out; omega
      case rel =>
        obtain ⟨x', X', e1, e2, e3, e3', e4, e5, e6, e7, e8, e9, e10⟩ := HX5.out
        obtain ⟨I, N, h2, hr⟩ := HI5.out
        have L := HL.out
        have hkr : ∀ t, t < 2 → y5.r (p.cf t) = krE p i t := hr
        refine .inr (.inl ⟨i, p.sc.rows, x', hin, Nat.le_refl _, by go_num, rfl, X', ?_, ?_, ?_, e7, e8, ?_, e3, ?_, fun t ht => by rw [e2]; exact hkr t ht⟩)
        · have I' : RI p T0 B x.c x.s x' (FA p i) := by
            refine ⟨?_, ?_, ?_, ?_, ?_, ?_, ?_, ?_, ?_, ?_, ⟨_, e7⟩, ⟨_, e8⟩, ⟨_, e9⟩, ?_, ?_⟩
            · rw [e4]; exact I.A
            · rw [e4]; exact I.mks
            · rw [e1]; exact I.cb
            · rw [e1, e4]; exact I.c16
            · rw [e1]; exact I.c18
            · rw [e1]; exact I.c19
            · rw [e1]; exact I.cc
            · rw [e6, e4]; exact I.pr
            · rw [e10 4 (by omega) (by omega) (by omega) (by omega)]; exact I.u4
            · rw [e10 5 (by omega) (by omega) (by omega) (by omega)]; exact I.u5
            · rw [e10 10 (by omega) (by omega) (by omega) (by omega)]; exact I.u10
            · rw [e5, e4]; exact I.k
          exact I'.congr (fun r hr => FB_start p i p.sc.rows r hr)
        · rw [e10 1 (by omega) (by omega) (by omega) (by omega), N.u 1 (by omega)]; exact L.u1
        · rw [e10 2 (by omega) (by omega) (by omega) (by omega)]; exact h2
        · rw [e9, hashN_congr hkr, HS.out.ip.h _ (Nat.mod_lt _ (by omega))]
        · rw [e3']; exact symL_congr hkr
    · have e : i = p.se.rows := by omega
      subst e
      have y1 := L.x.cell sP HS.out.P3
      have y2 := L.x.e.get L.x.c22 (by omega)
      have had := adv0_none L.x.drew HS.out L.u1 L.u2
      have HL := hideIt L
      have HG := hideIt hg
      clear L hg
      go_upto_region 20 with fail
      refine wp_region_held_drew (S := (fun w' => w'.cell? ⟨p.P, 3, none⟩ = some (.slice (some ⟨p.gs, 0, none⟩) 2 p.cs) ∧ w'.cell? ⟨Q.E, 22, none⟩ = some (.slice (some ⟨Q.GC, 0, none⟩) 2 2))) (by kernel_rfl) ⟨y1, y2⟩ (fun hHeld => ?_)
      refine wpAnyH_take (i := 0) (oi := { dst := some 86, op := Go.Op.move (Go.Operand.tmp 0), type := 58, pos := _, after := #[], guard := none }) (v := ?vv40091) rfl (by kernel_rfl) (by kernel_rfl) (by kernel_rfl) (fun _ _ _ h => h) (Or.inl ⟨by rfl, ?hy40091⟩) (by assumption) ?tk40091
      case hy40091 => (intro w hSw; (try dsimp only at hSw); go_simp; (try with_reducible rfl))
      try simp only [Act.put, List.setIfInBounds_toArray, List.set_cons_zero, List.set_cons_succ]
      refine wpAnyH_take (i := 1) (oi := { dst := some 87, op := Go.Op.move (Go.Operand.tmp 1), type := 166, pos := _, after := #[], guard := none }) (v := ?vv40092) rfl (by kernel_rfl) (by kernel_rfl) (by kernel_rfl) (fun _ _ _ h => h) (Or.inl ⟨by rfl, ?hy40092⟩) (by assumption) ?tk40092
      case hy40092 => (intro w hSw; (try dsimp only at hSw); go_simp; (try with_reducible rfl))
      try simp only [Act.put, List.setIfInBounds_toArray, List.set_cons_zero, List.set_cons_succ]
      refine wpAnyH_take (i := 2) (oi := { dst := some 88, op := Go.Op.nilCheck (Go.Operand.tmp 87), type := 0, pos := _, after := #[{ on := 1, ground := Go.Ground.data }], guard := none }) (v := ?vv40093) rfl (by kernel_rfl) (by kernel_rfl) (by kernel_rfl) (fun _ _ _ h => h) (Or.inl ⟨by rfl, ?hy40093⟩) (by assumption) ?tk40093
      case hy40093 => (intro w hSw; (try dsimp only at hSw); go_simp; (try with_reducible rfl))
      try simp only [Act.put, List.setIfInBounds_toArray, List.set_cons_zero, List.set_cons_succ]
      refine wpAnyH_take (i := 3) (oi := { dst := some 89, op := Go.Op.fieldAddr 182 (Go.Operand.tmp 88) 3, type := 0, pos := _, after := #[{ on := 2, ground := Go.Ground.data }], guard := none }) (v := ?vv40094) rfl (by kernel_rfl) (by kernel_rfl) (by kernel_rfl) (fun _ _ _ h => h) (Or.inl ⟨by rfl, ?hy40094⟩) (by assumption) ?tk40094
      case hy40094 => (intro w hSw; (try dsimp only at hSw); go_simp; (try with_reducible rfl))
      try simp only [Act.put, List.setIfInBounds_toArray, List.set_cons_zero, List.set_cons_succ]
      refine wpAnyH_take (i := 4) (oi := { dst := some 90, op := Go.Op.load 180 (Go.Operand.tmp 89), type := 180, pos := _, after := #[{ on := 3, ground := Go.Ground.data }], guard := none }) (v := ?vv40095) rfl (by kernel_rfl) (by kernel_rfl) (by kernel_rfl) (fun _ _ _ h => h) (Or.inl ⟨by rfl, ?hy40095⟩) (by assumption) ?tk40095
      case hy40095 => (intro w hSw; (try dsimp only at hSw); go_simp; (try with_reducible rfl))
      try simp only [Act.put, List.setIfInBounds_toArray, List.set_cons_zero, List.set_cons_succ]
      refine wpAnyH_take (i := 5) (oi := { dst := some 91, op := Go.Op.move (Go.Operand.tmp 11), type := 3, pos := _, after := #[], guard := none }) (v := ?vv40096) rfl (by kernel_rfl) (by kernel_rfl) (by kernel_rfl) (fun _ _ _ h => h) (Or.inl ⟨by rfl, ?hy40096⟩) (by assumption) ?tk40096
      case hy40096 => (intro w hSw; (try dsimp only at hSw); go_simp; (try with_reducible rfl))
      try simp only [Act.put, List.setIfInBounds_toArray, List.set_cons_zero, List.set_cons_succ]
      refine wpAnyH_take (i := 6) (oi := { dst := some 92, op := Go.Op.indexAddr 180 (Go.Operand.tmp 90) (Go.Operand.tmp 91), type := 0, pos := _, after := #[{ on := 4, ground := Go.Ground.data }, { on := 5, ground := Go.Ground.data }], guard := none }) (v := ?vv40097) rfl (by kernel_rfl) (by kernel_rfl) (by kernel_rfl) (fun _ _ _ h => h) (Or.inl ⟨by rfl, ?hy40097⟩) (by assumption) ?tk40097
      case hy40097 => (intro w hSw; (try dsimp only at hSw); go_simp; (try with_reducible rfl))
      try simp only [Act.put, List.setIfInBounds_toArray, List.set_cons_zero, List.set_cons_succ]
      refine wpAnyH_take (i := 7) (oi := { dst := some 93, op := Go.Op.move (Go.Operand.tmp 0), type := 58, pos := _, after := #[], guard := none }) (v := ?vv40098) rfl (by kernel_rfl) (by kernel_rfl) (by kernel_rfl) (fun _ _ _ h => h) (Or.inl ⟨by rfl, ?hy40098⟩) (by assumption) ?tk40098
      case hy40098 => (intro w hSw; (try dsimp only at hSw); go_simp; (try with_reducible rfl))
      try simp only [Act.put, List.setIfInBounds_toArray, List.set_cons_zero, List.set_cons_succ]
      refine wpAnyH_take (i := 8) (oi := { dst := some 94, op := Go.Op.nilCheck (Go.Operand.tmp 93), type := 0, pos := _, after := #[{ on := 7, ground := Go.Ground.data }], guard := none }) (v := ?vv40099) rfl (by kernel_rfl) (by kernel_rfl) (by kernel_rfl) (fun _ _ _ h => h) (Or.inl ⟨by rfl, ?hy40099⟩) (by assumption) ?tk40099
      case hy40099 => (intro w hSw; (try dsimp only at hSw); go_simp; (try with_reducible rfl))
      try simp only [Act.put, List.setIfInBounds_toArray, List.set_cons_zero, List.set_cons_succ]
      refine wpAnyH_take (i := 9) (oi := { dst := some 95, op := Go.Op.fieldAddr 86 (Go.Operand.tmp 94) 12, type := 0, pos := _, after := #[{ on := 8, ground := Go.Ground.data }], guard := none }) (v := ?vv40100) rfl (by kernel_rfl) (by kernel_rfl) (by kernel_rfl) (fun _ _ _ h => h) (Or.inl ⟨by rfl, ?hy40100⟩) (by assumption) ?tk40100
      case hy40100 => (intro w hSw; (try dsimp only at hSw); go_simp; (try with_reducible rfl))
      try simp only [Act.put, List.setIfInBounds_toArray, List.set_cons_zero, List.set_cons_succ]
      refine wpAnyH_take (i := 10) (oi := { dst := some 96, op := Go.Op.load 84 (Go.Operand.tmp 95), type := 84, pos := _, after := #[{ on := 9, ground := Go.Ground.data }], guard := none }) (v := ?vv40101) rfl (by kernel_rfl) (by kernel_rfl) (by kernel_rfl) (fun _ _ _ h => h) (Or.inl ⟨by rfl, ?hy40101⟩) (by assumption) ?tk40101
      case hy40101 => (intro w hSw; (try dsimp only at hSw); go_simp; (try with_reducible rfl))
      try simp only [Act.put, List.setIfInBounds_toArray, List.set_cons_zero, List.set_cons_succ]
      refine wpAnyH_take (i := 11) (oi := { dst := some 97, op := Go.Op.move (Go.Operand.tmp 11), type := 3, pos := _, after := #[], guard := none }) (v := ?vv40102) rfl (by kernel_rfl) (by kernel_rfl) (by kernel_rfl) (fun _ _ _ h => h) (Or.inl ⟨by rfl, ?hy40102⟩) (by assumption) ?tk40102
      case hy40102 => (intro w hSw; (try dsimp only at hSw); go_simp; (try with_reducible rfl))
      try simp only [Act.put, List.setIfInBounds_toArray, List.set_cons_zero, List.set_cons_succ]
      refine wpAnyH_take (i := 12) (oi := { dst := some 98, op := Go.Op.indexAddr 84 (Go.Operand.tmp 96) (Go.Operand.tmp 97), type := 0, pos := _, after := #[{ on := 10, ground := Go.Ground.data }, { on := 11, ground := Go.Ground.data }], guard := none }) (v := ?vv40103) rfl (by kernel_rfl) (by kernel_rfl) (by kernel_rfl) (fun _ _ _ h => h) (Or.inl ⟨by rfl, ?hy40103⟩) (by assumption) ?tk40103
      case hy40103 => (intro w hSw; (try dsimp only at hSw); go_simp; (try with_reducible rfl))
      try simp only [Act.put, List.setIfInBounds_toArray, List.set_cons_zero, List.set_cons_succ]
      refine wpAnyH_ready (rs := [13]) (by kernel_rfl) (by simp) ?_
      refine AllReadyH.cons (o := { dst := some 99, op := Go.Op.call { callee := Go.Callee.value (Go.Operand.func 67), args := #[Go.Operand.tmp 86, Go.Operand.tmp 92, Go.Operand.tmp 98], argTypes := #[58, 200, 201] }, type := 4, pos := _, after := #[{ on := 0, ground := Go.Ground.data }, { on := 6, ground := Go.Ground.data }, { on := 12, ground := Go.Ground.data }], guard := none }) rfl (fun K' hK' => ?_) AllReadyH.nil
      go_simp
      go_at_call 67
      refine had.mono ?_
      rintro e w5 ⟨rfl, Y5⟩
      have x1 : w5.cell? ⟨p.P, 3, none⟩ = some (.slice (some ⟨p.gs, 0, none⟩) 2 p.cs) := Y5.cell sP HS.out.P3
      have x2 : w5.cell? ⟨Q.E, 22, none⟩ = some (.slice (some ⟨Q.GC, 0, none⟩) 2 2) := Y5.e.get Y5.c22 (by omega)
      have HX5 := hideIt Y5
      clear Y5 had
      clear hHeld
      refine hK'.out _ _ ⟨x1, x2⟩ (fun hHeld => ?_)
      clear hK' K'
      try simp only [Act.put, List.setIfInBounds_toArray, List.set_cons_zero, List.set_cons_succ]
      refine wpAnyH_take (i := 14) (oi := { dst := some 100, op := Go.Op.unOp Go.UnOp.not 4 (Go.Operand.tmp 99), type := 4, pos := _, after := #[{ on := 13, ground := Go.Ground.data }], guard := none }) (v := ?vv40104) rfl (by kernel_rfl) (by kernel_rfl) (by kernel_rfl) (fun _ _ _ h => h) (Or.inl ⟨by rfl, ?hy40104⟩) (by assumption) ?tk40104
      case hy40104 => (intro w hSw; (try dsimp only at hSw); go_simp; (try with_reducible rfl))
      try simp only [Act.put, List.setIfInBounds_toArray, List.set_cons_zero, List.set_cons_succ]
      refine wpAnyH_done (by kernel_rfl) ?_ _
      clear hHeld x1 x2 y1 y2
      go_wp2
      go_roundg 0
      case measure => have := HG.out; omega
      case rel => exact .inr (.inr ⟨by go_num, rfl, y, HX5.out, HL.out.ri⟩)
  · have y1 := L.x.cell sP HS.out.P3
    have y2 := L.x.e.get L.x.c22 (by omega)
    have had := adv1_b (w := wr.drew) ⟨L.x.drew, L.ri, L.u1, L.u2, L.u6, L.u7, L.u9, L.kn, L.kx, L.r⟩ HS.out hi hm
    have HL := hideIt L
    have HG := hideIt hg
    clear L hg
    go_upto_region 20 with fail
    refine wp_region_held_drew (S := (fun w' => w'.cell? ⟨p.P, 3, none⟩ = some (.slice (some ⟨p.gs, 0, none⟩) 2 p.cs) ∧ w'.cell? ⟨Q.E, 22, none⟩ = some (.slice (some ⟨Q.GC, 0, none⟩) 2 2))) (by kernel_rfl) ⟨y1, y2⟩ (fun hHeld => ?_)
    refine wpAnyH_take (i := 0) (oi := { dst := some 86, op := Go.Op.move (Go.Operand.tmp 0), type := 58, pos := _, after := #[], guard := none }) (v := ?vv40119) rfl (by kernel_rfl) (by kernel_rfl) (by kernel_rfl) (fun _ _ _ h => h) (Or.inl ⟨by rfl, ?hy40119⟩) (by assumption) ?tk40119
    case hy40119 => (intro w hSw; (try dsimp only at hSw); go_simp; (try with_reducible rfl))
    try simp only [Act.put, List.setIfInBounds_toArray, List.set_cons_zero, List.set_cons_succ]
    refine wpAnyH_take (i := 1) (oi := { dst := some 87, op := Go.Op.move (Go.Operand.tmp 1), type := 166, pos := _, after := #[], guard := none }) (v := ?vv40120) rfl (by kernel_rfl) (by kernel_rfl) (by kernel_rfl) (fun _ _ _ h => h) (Or.inl ⟨by rfl, ?hy40120⟩) (by assumption) ?tk40120
    case hy40120 => (intro w hSw; (try dsimp only at hSw); go_simp; (try with_reducible rfl))
    try simp only [Act.put, List.setIfInBounds_toArray, List.set_cons_zero, List.set_cons_succ]
    refine wpAnyH_take (i := 2) (oi := { dst := some 88, op := Go.Op.nilCheck (Go.Operand.tmp 87), type := 0, pos := _, after := #[{ on := 1, ground := Go.Ground.data }], guard := none }) (v := ?vv40121) rfl (by kernel_rfl) (by kernel_rfl) (by kernel_rfl) (fun _ _ _ h => h) (Or.inl ⟨by rfl, ?hy40121⟩) (by assumption) ?tk40121
    case hy40121 => (intro w hSw; (try dsimp only at hSw); go_simp; (try with_reducible rfl))
    try simp only [Act.put, List.setIfInBounds_toArray, List.set_cons_zero, List.set_cons_succ]
    refine wpAnyH_take (i := 3) (oi := { dst := some 89, op := Go.Op.fieldAddr 182 (Go.Operand.tmp 88) 3, type := 0, pos := _, after := #[{ on := 2, ground := Go.Ground.data }], guard := none }) (v := ?vv40122) rfl (by kernel_rfl) (by kernel_rfl) (by kernel_rfl) (fun _ _ _ h => h) (Or.inl ⟨by rfl, ?hy40122⟩) (by assumption) ?tk40122
    case hy40122 => (intro w hSw; (try dsimp only at hSw); go_simp; (try with_reducible rfl))
    try simp only [Act.put, List.setIfInBounds_toArray, List.set_cons_zero, List.set_cons_succ]
    refine wpAnyH_take (i := 4) (oi := { dst := some 90, op := Go.Op.load 180 (Go.Operand.tmp 89), type := 180, pos := _, after := #[{ on := 3, ground := Go.Ground.data }], guard := none }) (v := ?vv40123) rfl (by kernel_rfl) (by kernel_rfl) (by kernel_rfl) (fun _ _ _ h => h) (Or.inl ⟨by rfl, ?hy40123⟩) (by assumption) ?tk40123
    case hy40123 => (intro w hSw; (try dsimp only at hSw); go_simp; (try with_reducible rfl))
    try simp only [Act.put, List.setIfInBounds_toArray, List.set_cons_zero, List.set_cons_succ]
    refine wpAnyH_take (i := 5) (oi := { dst := some 91, op := Go.Op.move (Go.Operand.tmp 11), type := 3, pos := _, after := #[], guard := none }) (v := ?vv40124) rfl (by kernel_rfl) (by kernel_rfl) (by kernel_rfl) (fun _ _ _ h => h) (Or.inl ⟨by rfl, ?hy40124⟩) (by assumption) ?tk40124
    case hy40124 => (intro w hSw; (try dsimp only at hSw); go_simp; (try with_reducible rfl))
    try simp only [Act.put, List.setIfInBounds_toArray, List.set_cons_zero, List.set_cons_succ]
    refine wpAnyH_take (i := 6) (oi := { dst := some 92, op := Go.Op.indexAddr 180 (Go.Operand.tmp 90) (Go.Operand.tmp 91), type := 0, pos := _, after := #[{ on := 4, ground := Go.Ground.data }, { on := 5, ground := Go.Ground.data }], guard := none }) (v := ?vv40125) rfl (by kernel_rfl) (by kernel_rfl) (by kernel_rfl) (fun _ _ _ h => h) (Or.inl ⟨by rfl, ?hy40125⟩) (by assumption) ?tk40125
    case hy40125 => (intro w hSw; (try dsimp only at hSw); go_simp; (try with_reducible rfl))
    try simp only [Act.put, List.setIfInBounds_toArray, List.set_cons_zero, List.set_cons_succ]
    refine wpAnyH_take (i := 7) (oi := { dst := some 93, op := Go.Op.move (Go.Operand.tmp 0), type := 58, pos := _, after := #[], guard := none }) (v := ?vv40126) rfl (by kernel_rfl) (by kernel_rfl) (by kernel_rfl) (fun _ _ _ h => h) (Or.inl ⟨by rfl, ?hy40126⟩) (by assumption) ?tk40126
    case hy40126 => (intro w hSw; (try dsimp only at hSw); go_simp; (try with_reducible rfl))
    try simp only [Act.put, List.setIfInBounds_toArray, List.set_cons_zero, List.set_cons_succ]
    refine wpAnyH_take (i := 8) (oi := { dst := some 94, op := Go.Op.nilCheck (Go.Operand.tmp 93), type := 0, pos := _, after := #[{ on := 7, ground := Go.Ground.data }], guard := none }) (v := ?vv40127) rfl (by kernel_rfl) (by kernel_rfl) (by kernel_rfl) (fun _ _ _ h => h) (Or.inl ⟨by rfl, ?hy40127⟩) (by assumption) ?tk40127
    case hy40127 => (intro w hSw; (try dsimp only at hSw); go_simp; (try with_reducible rfl))
    try simp only [Act.put, List.setIfInBounds_toArray, List.set_cons_zero, List.set_cons_succ]
    refine wpAnyH_take (i := 9) (oi := { dst := some 95, op := Go.Op.fieldAddr 86 (Go.Operand.tmp 94) 12, type := 0, pos := _, after := #[{ on := 8, ground := Go.Ground.data }], guard := none }) (v := ?vv40128) rfl (by kernel_rfl) (by kernel_rfl) (by kernel_rfl) (fun _ _ _ h => h) (Or.inl ⟨by rfl, ?hy40128⟩) (by assumption) ?tk40128
    case hy40128 => (intro w hSw; (try dsimp only at hSw); go_simp; (try with_reducible rfl))
    try simp only [Act.put, List.setIfInBounds_toArray, List.set_cons_zero, List.set_cons_succ]
    refine wpAnyH_take (i := 10) (oi := { dst := some 96, op := Go.Op.load 84 (Go.Operand.tmp 95), type := 84, pos := _, after := #[{ on := 9, ground := Go.Ground.data }], guard := none }) (v := ?vv40129) rfl (by kernel_rfl) (by kernel_rfl) (by kernel_rfl) (fun _ _ _ h => h) (Or.inl ⟨by rfl, ?hy40129⟩) (by assumption) ?tk40129
    case hy40129 => (intro w hSw; (try dsimp only at hSw); go_simp; (try with_reducible rfl))
    try simp only [Act.put, List.setIfInBounds_toArray, List.set_cons_zero, List.set_cons_succ]
    refine wpAnyH_take (i := 11) (oi := { dst := some 97, op := Go.Op.move (Go.Operand.tmp 11), type := 3, pos := _, after := #[], guard := none }) (v := ?vv40130) rfl (by kernel_rfl) (by kernel_rfl) (by kernel_rfl) (fun _ _ _ h => h) (Or.inl ⟨by rfl, ?hy40130⟩) (by assumption) ?tk40130
    case hy40130 => (intro w hSw; (try dsimp only at hSw); go_simp; (try with_reducible rfl))
    try simp only [Act.put, List.setIfInBounds_toArray, List.set_cons_zero, List.set_cons_succ]
    refine wpAnyH_take (i := 12) (oi := { dst := some 98, op := Go.Op.indexAddr 84 (Go.Operand.tmp 96) (Go.Operand.tmp 97), type := 0, pos := _, after := #[{ on := 10, ground := Go.Ground.data }, { on := 11, ground := Go.Ground.data }], guard := none }) (v := ?vv40131) rfl (by kernel_rfl) (by kernel_rfl) (by kernel_rfl) (fun _ _ _ h => h) (Or.inl ⟨by rfl, ?hy40131⟩) (by assumption) ?tk40131
    case hy40131 => (intro w hSw; (try dsimp only at hSw); go_simp; (try with_reducible rfl))
    try simp only [Act.put, List.setIfInBounds_toArray, List.set_cons_zero, List.set_cons_succ]
    refine wpAnyH_ready (rs := [13]) (by kernel_rfl) (by simp) ?_
    refine AllReadyH.cons (o := { dst := some 99, op := Go.Op.call { callee := Go.Callee.value (Go.Operand.func 67), args := #[Go.Operand.tmp 86, Go.Operand.tmp 92, Go.Operand.tmp 98], argTypes := #[58, 200, 201] }, type := 4, pos := _, after := #[{ on := 0, ground := Go.Ground.data }, { on := 6, ground := Go.Ground.data }, { on := 12, ground := Go.Ground.data }], guard := none }) rfl (fun K' hK' => ?_) AllReadyH.nil
    go_simp
    go_at_call 67
    refine had.mono ?_
    rintro e w5 ⟨b, y5, rfl, Y5, h5⟩
    have x1 : w5.cell? ⟨p.P, 3, none⟩ = some (.slice (some ⟨p.gs, 0, none⟩) 2 p.cs) := Y5.cell sP HS.out.P3
    have x2 : w5.cell? ⟨Q.E, 22, none⟩ = some (.slice (some ⟨Q.GC, 0, none⟩) 2 2) := Y5.e.get Y5.c22 (by omega)
    have HX5 := hideIt (And.intro Y5 h5)
    clear Y5 h5 had
    clear hHeld
    refine hK'.out _ _ ⟨x1, x2⟩ (fun hHeld => ?_)
    clear hK' K'
    try simp only [Act.put, List.setIfInBounds_toArray, List.set_cons_zero, List.set_cons_succ]
    refine wpAnyH_take (i := 14) (oi := { dst := some 100, op := Go.Op.unOp Go.UnOp.not 4 (Go.Operand.tmp 99), type := 4, pos := _, after := #[{ on := 13, ground := Go.Ground.data }], guard := none }) (v := ?vv40132) rfl (by kernel_rfl) (by kernel_rfl) (by kernel_rfl) (fun _ _ _ h => h) (Or.inl ⟨by rfl, ?hy40132⟩) (by assumption) ?tk40132
    case hy40132 => (intro w hSw; (try dsimp only at hSw); go_simp; (try with_reducible rfl))
    try simp only [Act.put, List.setIfInBounds_toArray, List.set_cons_zero, List.set_cons_succ]
    refine wpAnyH_done (by kernel_rfl) ?_ _
    clear hHeld x1 x2 y1 y2
    obtain ⟨Y5, ⟨hb, L5⟩ | ⟨hb, r, hr, hmt, hno, I5, h51, h52, h56, h57, h59, h5n, h5x, h5r, h5v⟩⟩ := HX5.out
    · subst hb
      have HL5 := hideIt L5
      clear Y5 L5 HX5
      go_wp2
      go_roundg ((p.se.rows - (i + 1)) * 10 + 1)
      case measure => have := HG.out; omega
      case rel => exact .inl ⟨i + 1, y5, by omega, by go_num, rfl, HL5.out⟩
    · subst hb
      have hrows : y5.s.rows ≤ 8 := by
        have hd := Y5.re.dist
        rw [I5.A] at hd
        have := I5.k.le hd
        omega
      have hcl := conclude_any (T := T0 + y5.s.rows) (B := B) Y5 HS.out I5.c18 I5.c16 I5.cb (by omega) hB I5.u4 I5.u10 (fun t ht => by rw [h5v t ht]; exact HS.out.vC _ (by omega)) I5.A (by omega) (by rw [I5.pr]; omega)
      have HH := hideIt (And.intro hr (And.intro hmt (And.intro hno (And.intro I5 (And.intro h51 (And.intro h52 (And.intro h56 (And.intro h57 (And.intro h59 (And.intro h5n (And.intro h5x (And.intro h5r h5v))))))))))))
      clear Y5 HX5 hr hmt hno I5 h51 h52 h56 h57 h59 h5n h5x h5r h5v hrows
      go_wp2_with fail
      refine hcl.mono ?_
      rintro e w6 ⟨rfl, h6⟩
      have HX6 := hideIt h6
      clear h6 hcl
      go_wp2
      obtain ⟨hr, hmt, hno, I5, h51, h52, h56, h57, h59, h5n, h5x, h5r, h5v⟩ := HH.out
      go_roundg ((p.se.rows - i - 1) * 10 + r + 2)
      case measure => have := HG.out; omega
      case rel =>
        obtain ⟨z, b, Z, C, io5, z18, zt, zf⟩ := HX6.out
        refine .inr (.inl ⟨i, r, z, hi, by omega, by go_num, rfl, Z, (I5.conc C io5 z18 zt zf (by omega) h5v).congr (fun r' _ => FB_next hr hmt hno r'), ?_, ?_, ?_, ?_, ?_, C.kn.trans h5n, C.kx.trans h5x, fun t ht => by rw [C.r]; exact h5r t ht⟩)
        · rw [C.cu]; exact h51
        · rw [C.cu]; exact h52
        · rw [C.cu]; exact h56
        · rw [C.cu]; exact h57
        · rw [C.cu]; exact h59
  · have HL := hideIt L
    clear L
    go_wp2
    go_ret
    exact ⟨rfl, HL.out⟩
end Go.Proofs.Qxb6500880aGreat
