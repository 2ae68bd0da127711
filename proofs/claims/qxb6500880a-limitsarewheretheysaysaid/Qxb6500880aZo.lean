import Derived.Deep.CutBlock
import Derived.OwnWalk
import Derived.Maps.AppendAt
import Derived.Maps.OwnSet
import Derived.Maps.OwnOps
import Derived.Laws.ResultCell
import Derived.Test.Qxb6500880aZn
set_option linter.unusedVariables false
set_option linter.unusedSimpArgs false
namespace Go.Proofs.Qxb6500880a
open Go.RowKit

theorem Dyn.congr {w : World} {ρ : Rl} {τ : Rt} {c : Nat → Value} {cu cu' : Nat → Option Int} (h : Dyn w ρ τ c cu) (e : ∀ j, j < ρ.m → cu j = cu' j) : Dyn w ρ τ c cu' :=
  ⟨h.env, h.eng, h.r21, h.r22, fun k hk q => h.cN k hk ((e k hk).trans q), fun k hk r q => h.cO k hk r ((e k hk).trans q), h.cf⟩
/-- The cursors on the way down: at depth d. -/
def cuA (kn : Nat → Bool) (d : Nat) : Nat → Option Int := fun j => if j < d then some (doneV (kn j)) else if j = d then some 0 else none
def cuD (kn : Nat → Bool) : Nat → Option Int := fun j => some (doneV (kn j))
theorem cuA_zero (kn : Nat → Bool) (j : Nat) : updC (fun _ => none) 0 (some 0) j = cuA kn 0 j := by
  by_cases h : j = 0
  · subst h; rfl
  · simp [updC, cuA, h]
theorem cuA_next (kn : Nat → Bool) (d j : Nat) : updC (updC (cuA kn d) d (some (doneV (kn d)))) (d + 1) (some 0) j = cuA kn (d + 1) j := by
  unfold updC cuA
  by_cases h1 : j = d + 1
  · rw [if_pos h1, if_neg (by omega), if_pos h1]
  · rw [if_neg h1]
    by_cases h2 : j = d
    · rw [if_pos h2, if_pos (by omega), h2]
    · rw [if_neg h2]
      by_cases h3 : j < d
      · rw [if_pos h3, if_pos (by omega)]
      · rw [if_neg h3, if_neg h2, if_neg (by omega), if_neg h1]
theorem cuA_last (kn : Nat → Bool) (d j : Nat) (hj : j ≤ d) : updC (cuA kn d) d (some (doneV (kn d))) j = cuD kn j := by
  unfold updC cuA cuD
  by_cases h2 : j = d
  · rw [if_pos h2, h2]
  · rw [if_neg h2, if_pos (by omega)]
theorem updV_id {c : Nat → Value} {k : Nat} {v : Value} (h : c k = v) : updV c k v = c := by
  funext j
  unfold updV
  split
  · rename_i e; rw [e, h]
  · rfl
theorem updV_twice (c : Nat → Value) (k : Nat) (v v' : Value) : updV (updV c k v) k v' = updV c k v' := by
  funext j
  unfold updV
  split <;> rfl
set_option maxRecDepth 20000 in
set_option maxHeartbeats 8000000 in
theorem run_any {w : World} {ρ : Rl} {τ : Rt} {c : Nat → Value} {v B : Nat} {nmh : ByteArray} {sh : RelS} (h : Dyn w ρ τ c (fun _ => none)) (C : EnvC ρ τ) (Hh : RelAt w ρ.hb nmh sh) (hA0 : sh.A = 0) (h0 : sh.rows = 0) (hd : sh.data = .slice none 0 0) (hs : sh.slots = .slice none 0 0) (hy : sh.why = .slice none 0 0) (c0 : c 0 = .int .i64 (B : Int)) (c14 : c 14 = .slice none 0 0) (c16 : c 16 = .int .i64 1) (c18 : c 18 = .int .i64 (v : Int)) (c19 : c 19 = .int .i64 0) (c23 : c 23 = .slice none 0 0) (hv : v ≤ 1000) :
    Calls Try.prog 45 #[.pointer (some ⟨τ.E, 0, none⟩), .pointer (some ⟨τ.P, 0, none⟩)] w fun e w' => e = .returned (.bool (decide (2 ≤ B))) ∧ ∃ c' sh', Dyn w' ρ τ c' (cuD τ.kn) ∧ HbOk w' ρ.hb nmh sh' ∧ sh'.old = sh.old ∧ sh'.cur = sh.cur ∧ (∀ q, sh'.slots.ownBlock = some q → w.heap.size ≤ q) ∧ (∀ i, i ≠ 14 → i ≠ 16 → i ≠ 18 → i ≠ 19 → i ≠ 23 → c' i = c i) ∧ Ws (fun q => q = τ.GC ∨ q = τ.E ∨ q = ρ.hb) w w' := by
  have hm0 := C.m0
  have hm := C.hm
  have p2 := h.env.pl.c2
  have p3 := h.env.pl.c3
  have HQ := hideIt (And.intro h (And.intro C Hh))
  have HQ2 := hideIt (And.intro hA0 (And.intro h0 (And.intro hd (And.intro hs (And.intro hy (And.intro c0 (And.intro c14 (And.intro c16 (And.intro c18 (And.intro c19 c23))))))))))
  clear h C Hh hA0 h0 hd hs hy c0 c14 c16 c18 c19 c23
  go_enter Try.func45, Try.ntmps45
  go_wp2_with fail
  go_loopg [17] 0 (fun gg v wr => v = .int .i64 0 ∧ wr = w)
  case atStart => exact ⟨rfl, rfl⟩
  case round =>
  obtain ⟨rfl, ew⟩ := hrel
  replace ew := ew.symm
  subst ew
  go_wp2_with fail
  go_loopg [31] ρ.m (fun gg v wr => ∃ i : Nat, i + gg = ρ.m ∧ v = .int .i64 (i : Int) ∧ Below w.heap.size w wr)
  case atStart => exact ⟨0, by omega, rfl, Below.refl _ _⟩
  case round =>
  clear p2 p3
  obtain ⟨i, hi, rfl, bw⟩ := hrel
  obtain ⟨h, C, Hh⟩ := HQ.out
  have D := h.below C bw
  by_cases hin : i < ρ.m
  · have i0 : (0 : Int) ≤ i := by omega
    have i1 : (i : Int) < (ρ.m : Int) := by omega
    have y1 := D.env.pl.c3
    have y2 := (D.env.st i hin).s0
    have y3 := (D.env.ru.j i hin).1
    have y4 := (D.env.st i hin).s2
    have hbd := bounds_any (w := wr.drew) (D.drew C).env.rel
    rw [C.cu] at hbd
    have HB := hideIt bw
    clear D h C Hh bw
    go_upto_region 10 with fail
    refine wp_region_held_drew (S := (fun w' => w'.cell? ⟨τ.P, 3, none⟩ = some (.slice (some ⟨τ.gs, 0, none⟩) ρ.m τ.cs) ∧ w'.cell? ⟨τ.gs, i * 8, none⟩ = some (.pointer (some ⟨ρ.gj, i * 3, none⟩)) ∧ w'.cell? ⟨ρ.gj, i * 3, none⟩ = some (.pointer (some ⟨ρ.rb, 0, none⟩)) ∧ w'.cell? ⟨τ.gs, i * 8 + 2, none⟩ = some (.int .u8 0))) (by kernel_rfl) ⟨y1, y2, y3, y4⟩ (fun hHeld => ?_)
    refine wpAnyH_take (i := 0) (oi := { dst := some 35, op := Go.Op.move (Go.Operand.tmp 1), type := 150, pos := _, after := #[], guard := none }) (v := ?vv36001) rfl (by kernel_rfl) (by kernel_rfl) (by kernel_rfl) (fun _ _ _ h => h) (Or.inl ⟨by rfl, ?hy36001⟩) (by assumption) ?tk36001
    case hy36001 => (intro w hSw; (try dsimp only at hSw); go_simp; (try with_reducible rfl))
    try simp only [Act.put, List.setIfInBounds_toArray, List.set_cons_zero, List.set_cons_succ]
    refine wpAnyH_take (i := 1) (oi := { dst := some 36, op := Go.Op.nilCheck (Go.Operand.tmp 35), type := 0, pos := _, after := #[{ on := 0, ground := Go.Ground.data }], guard := none }) (v := ?vv36002) rfl (by kernel_rfl) (by kernel_rfl) (by kernel_rfl) (fun _ _ _ h => h) (Or.inl ⟨by rfl, ?hy36002⟩) (by assumption) ?tk36002
    case hy36002 => (intro w hSw; (try dsimp only at hSw); go_simp; (try with_reducible rfl))
    try simp only [Act.put, List.setIfInBounds_toArray, List.set_cons_zero, List.set_cons_succ]
    refine wpAnyH_take (i := 2) (oi := { dst := some 37, op := Go.Op.fieldAddr 164 (Go.Operand.tmp 36) 3, type := 0, pos := _, after := #[{ on := 1, ground := Go.Ground.data }], guard := none }) (v := ?vv36003) rfl (by kernel_rfl) (by kernel_rfl) (by kernel_rfl) (fun _ _ _ h => h) (Or.inl ⟨by rfl, ?hy36003⟩) (by assumption) ?tk36003
    case hy36003 => (intro w hSw; (try dsimp only at hSw); go_simp; (try with_reducible rfl))
    try simp only [Act.put, List.setIfInBounds_toArray, List.set_cons_zero, List.set_cons_succ]
    refine wpAnyH_take (i := 3) (oi := { dst := some 38, op := Go.Op.load 162 (Go.Operand.tmp 37), type := 162, pos := _, after := #[{ on := 2, ground := Go.Ground.data }], guard := none }) (v := ?vv36004) rfl (by kernel_rfl) (by kernel_rfl) (by kernel_rfl) (fun _ _ _ h => h) (Or.inl ⟨by rfl, ?hy36004⟩) (by assumption) ?tk36004
    case hy36004 => (intro w hSw; (try dsimp only at hSw); go_simp; (try with_reducible rfl))
    try simp only [Act.put, List.setIfInBounds_toArray, List.set_cons_zero, List.set_cons_succ]
    refine wpAnyH_take (i := 4) (oi := { dst := some 39, op := Go.Op.move (Go.Operand.tmp 7), type := 3, pos := _, after := #[], guard := none }) (v := ?vv36005) rfl (by kernel_rfl) (by kernel_rfl) (by kernel_rfl) (fun _ _ _ h => h) (Or.inl ⟨by rfl, ?hy36005⟩) (by assumption) ?tk36005
    case hy36005 => (intro w hSw; (try dsimp only at hSw); go_simp; (try with_reducible rfl))
    try simp only [Act.put, List.setIfInBounds_toArray, List.set_cons_zero, List.set_cons_succ]
    refine wpAnyH_take (i := 5) (oi := { dst := some 40, op := Go.Op.indexAddr 162 (Go.Operand.tmp 38) (Go.Operand.tmp 39), type := 0, pos := _, after := #[{ on := 3, ground := Go.Ground.data }, { on := 4, ground := Go.Ground.data }], guard := none }) (v := ?vv36006) rfl (by kernel_rfl) (by kernel_rfl) (by kernel_rfl) (fun _ _ _ h => h) (Or.inl ⟨by rfl, ?hy36006⟩) (by assumption) ?tk36006
    case hy36006 => (intro w hSw; (try dsimp only at hSw); go_simp; (try with_reducible rfl))
    try simp only [Act.put, List.setIfInBounds_toArray, List.set_cons_zero, List.set_cons_succ]
    refine wpAnyH_take (i := 6) (oi := { dst := some 41, op := Go.Op.fieldAddr 173 (Go.Operand.tmp 40) 0, type := 0, pos := _, after := #[{ on := 5, ground := Go.Ground.data }], guard := none }) (v := ?vv36007) rfl (by kernel_rfl) (by kernel_rfl) (by kernel_rfl) (fun _ _ _ h => h) (Or.inl ⟨by rfl, ?hy36007⟩) (by assumption) ?tk36007
    case hy36007 => (intro w hSw; (try dsimp only at hSw); go_simp; (try with_reducible rfl))
    try simp only [Act.put, List.setIfInBounds_toArray, List.set_cons_zero, List.set_cons_succ]
    refine wpAnyH_take (i := 7) (oi := { dst := some 42, op := Go.Op.load 167 (Go.Operand.tmp 41), type := 167, pos := _, after := #[{ on := 6, ground := Go.Ground.data }], guard := none }) (v := ?vv36008) rfl (by kernel_rfl) (by kernel_rfl) (by kernel_rfl) (fun _ _ _ h => h) (Or.inl ⟨by rfl, ?hy36008⟩) (by assumption) ?tk36008
    case hy36008 => (intro w hSw; (try dsimp only at hSw); go_simp; (try with_reducible rfl))
    try simp only [Act.put, List.setIfInBounds_toArray, List.set_cons_zero, List.set_cons_succ]
    refine wpAnyH_take (i := 8) (oi := { dst := some 43, op := Go.Op.nilCheck (Go.Operand.tmp 42), type := 0, pos := _, after := #[{ on := 7, ground := Go.Ground.data }], guard := none }) (v := ?vv36009) rfl (by kernel_rfl) (by kernel_rfl) (by kernel_rfl) (fun _ _ _ h => h) (Or.inl ⟨by rfl, ?hy36009⟩) (by assumption) ?tk36009
    case hy36009 => (intro w hSw; (try dsimp only at hSw); go_simp; (try with_reducible rfl))
    try simp only [Act.put, List.setIfInBounds_toArray, List.set_cons_zero, List.set_cons_succ]
    refine wpAnyH_take (i := 9) (oi := { dst := some 44, op := Go.Op.fieldAddr 92 (Go.Operand.tmp 43) 0, type := 0, pos := _, after := #[{ on := 8, ground := Go.Ground.data }], guard := none }) (v := ?vv36010) rfl (by kernel_rfl) (by kernel_rfl) (by kernel_rfl) (fun _ _ _ h => h) (Or.inl ⟨by rfl, ?hy36010⟩) (by assumption) ?tk36010
    case hy36010 => (intro w hSw; (try dsimp only at hSw); go_simp; (try with_reducible rfl))
    try simp only [Act.put, List.setIfInBounds_toArray, List.set_cons_zero, List.set_cons_succ]
    refine wpAnyH_take (i := 10) (oi := { dst := some 45, op := Go.Op.load 89 (Go.Operand.tmp 44), type := 89, pos := _, after := #[{ on := 9, ground := Go.Ground.data }], guard := none }) (v := ?vv36011) rfl (by kernel_rfl) (by kernel_rfl) (by kernel_rfl) (fun _ _ _ h => h) (Or.inl ⟨by rfl, ?hy36011⟩) (by assumption) ?tk36011
    case hy36011 => (intro w hSw; (try dsimp only at hSw); go_simp; (try with_reducible rfl))
    try simp only [Act.put, List.setIfInBounds_toArray, List.set_cons_zero, List.set_cons_succ]
    refine wpAnyH_take (i := 11) (oi := { dst := some 46, op := Go.Op.move (Go.Operand.tmp 1), type := 150, pos := _, after := #[], guard := none }) (v := ?vv36012) rfl (by kernel_rfl) (by kernel_rfl) (by kernel_rfl) (fun _ _ _ h => h) (Or.inl ⟨by rfl, ?hy36012⟩) (by assumption) ?tk36012
    case hy36012 => (intro w hSw; (try dsimp only at hSw); go_simp; (try with_reducible rfl))
    try simp only [Act.put, List.setIfInBounds_toArray, List.set_cons_zero, List.set_cons_succ]
    refine wpAnyH_take (i := 12) (oi := { dst := some 47, op := Go.Op.nilCheck (Go.Operand.tmp 46), type := 0, pos := _, after := #[{ on := 11, ground := Go.Ground.data }], guard := none }) (v := ?vv36013) rfl (by kernel_rfl) (by kernel_rfl) (by kernel_rfl) (fun _ _ _ h => h) (Or.inl ⟨by rfl, ?hy36013⟩) (by assumption) ?tk36013
    case hy36013 => (intro w hSw; (try dsimp only at hSw); go_simp; (try with_reducible rfl))
    try simp only [Act.put, List.setIfInBounds_toArray, List.set_cons_zero, List.set_cons_succ]
    refine wpAnyH_take (i := 13) (oi := { dst := some 48, op := Go.Op.fieldAddr 164 (Go.Operand.tmp 47) 3, type := 0, pos := _, after := #[{ on := 12, ground := Go.Ground.data }], guard := none }) (v := ?vv36014) rfl (by kernel_rfl) (by kernel_rfl) (by kernel_rfl) (fun _ _ _ h => h) (Or.inl ⟨by rfl, ?hy36014⟩) (by assumption) ?tk36014
    case hy36014 => (intro w hSw; (try dsimp only at hSw); go_simp; (try with_reducible rfl))
    try simp only [Act.put, List.setIfInBounds_toArray, List.set_cons_zero, List.set_cons_succ]
    refine wpAnyH_take (i := 14) (oi := { dst := some 49, op := Go.Op.load 162 (Go.Operand.tmp 48), type := 162, pos := _, after := #[{ on := 13, ground := Go.Ground.data }], guard := none }) (v := ?vv36015) rfl (by kernel_rfl) (by kernel_rfl) (by kernel_rfl) (fun _ _ _ h => h) (Or.inl ⟨by rfl, ?hy36015⟩) (by assumption) ?tk36015
    case hy36015 => (intro w hSw; (try dsimp only at hSw); go_simp; (try with_reducible rfl))
    try simp only [Act.put, List.setIfInBounds_toArray, List.set_cons_zero, List.set_cons_succ]
    refine wpAnyH_take (i := 15) (oi := { dst := some 50, op := Go.Op.move (Go.Operand.tmp 7), type := 3, pos := _, after := #[], guard := none }) (v := ?vv36016) rfl (by kernel_rfl) (by kernel_rfl) (by kernel_rfl) (fun _ _ _ h => h) (Or.inl ⟨by rfl, ?hy36016⟩) (by assumption) ?tk36016
    case hy36016 => (intro w hSw; (try dsimp only at hSw); go_simp; (try with_reducible rfl))
    try simp only [Act.put, List.setIfInBounds_toArray, List.set_cons_zero, List.set_cons_succ]
    refine wpAnyH_take (i := 16) (oi := { dst := some 51, op := Go.Op.indexAddr 162 (Go.Operand.tmp 49) (Go.Operand.tmp 50), type := 0, pos := _, after := #[{ on := 14, ground := Go.Ground.data }, { on := 15, ground := Go.Ground.data }], guard := none }) (v := ?vv36017) rfl (by kernel_rfl) (by kernel_rfl) (by kernel_rfl) (fun _ _ _ h => h) (Or.inl ⟨by rfl, ?hy36017⟩) (by assumption) ?tk36017
    case hy36017 => (intro w hSw; (try dsimp only at hSw); go_simp; (try with_reducible rfl))
    try simp only [Act.put, List.setIfInBounds_toArray, List.set_cons_zero, List.set_cons_succ]
    refine wpAnyH_take (i := 17) (oi := { dst := some 52, op := Go.Op.fieldAddr 173 (Go.Operand.tmp 51) 2, type := 0, pos := _, after := #[{ on := 16, ground := Go.Ground.data }], guard := none }) (v := ?vv36018) rfl (by kernel_rfl) (by kernel_rfl) (by kernel_rfl) (fun _ _ _ h => h) (Or.inl ⟨by rfl, ?hy36018⟩) (by assumption) ?tk36018
    case hy36018 => (intro w hSw; (try dsimp only at hSw); go_simp; (try with_reducible rfl))
    try simp only [Act.put, List.setIfInBounds_toArray, List.set_cons_zero, List.set_cons_succ]
    refine wpAnyH_take (i := 18) (oi := { dst := some 53, op := Go.Op.load 168 (Go.Operand.tmp 52), type := 168, pos := _, after := #[{ on := 17, ground := Go.Ground.data }], guard := none }) (v := ?vv36019) rfl (by kernel_rfl) (by kernel_rfl) (by kernel_rfl) (fun _ _ _ h => h) (Or.inl ⟨by rfl, ?hy36019⟩) (by assumption) ?tk36019
    case hy36019 => (intro w hSw; (try dsimp only at hSw); go_simp; (try with_reducible rfl))
    try simp only [Act.put, List.setIfInBounds_toArray, List.set_cons_zero, List.set_cons_succ]
    refine wpAnyH_ready (rs := [19]) (by kernel_rfl) (by simp) ?_
    refine AllReadyH.cons (o := { dst := some 54, op := Go.Op.call { callee := Go.Callee.value (Go.Operand.func 58), args := #[Go.Operand.tmp 45, Go.Operand.tmp 53], argTypes := #[89, 168] }, type := 179, pos := _, after := #[{ on := 10, ground := Go.Ground.data }, { on := 18, ground := Go.Ground.data }], guard := none }) rfl (fun K' hK' => ?_) AllReadyH.nil
    go_simp
    go_at_call 58
    refine hbd.mono ?_
    rintro e w5 ⟨rfl, rfl⟩
    clear hHeld
    refine hK'.out _ _ ⟨y1, y2, y3, y4⟩ (fun hHeld => ?_)
    clear hK' K'
    try simp only [Act.put, List.setIfInBounds_toArray, List.set_cons_zero, List.set_cons_succ]
    refine wpAnyH_take (i := 20) (oi := { dst := some 34, op := Go.Op.move (Go.Operand.tmp 54), type := 179, pos := _, after := #[{ on := 19, ground := Go.Ground.data }], guard := none }) (v := ?vv36020) rfl (by kernel_rfl) (by kernel_rfl) (by kernel_rfl) (fun _ _ _ h => h) (Or.inl ⟨by rfl, ?hy36020⟩) (by assumption) ?tk36020
    case hy36020 => (intro w hSw; (try dsimp only at hSw); go_simp; (try with_reducible rfl))
    try simp only [Act.put, List.setIfInBounds_toArray, List.set_cons_zero, List.set_cons_succ]
    refine wpAnyH_take (i := 21) (oi := { dst := some 55, op := Go.Op.extract (Go.Operand.tmp 34) 0, type := 3, pos := _, after := #[{ on := 20, ground := Go.Ground.data }], guard := none }) (v := ?vv36021) rfl (by kernel_rfl) (by kernel_rfl) (by kernel_rfl) (fun _ _ _ h => h) (Or.inl ⟨by rfl, ?hy36021⟩) (by assumption) ?tk36021
    case hy36021 => (intro w hSw; (try dsimp only at hSw); go_simp; (try with_reducible rfl))
    try simp only [Act.put, List.setIfInBounds_toArray, List.set_cons_zero, List.set_cons_succ]
    refine wpAnyH_take (i := 22) (oi := { dst := some 56, op := Go.Op.extract (Go.Operand.tmp 34) 1, type := 3, pos := _, after := #[{ on := 20, ground := Go.Ground.data }, { on := 23, ground := Go.Ground.gcOnly Go.Departure.lateStores }], guard := none }) (v := ?vv36022) rfl (by kernel_rfl) (by kernel_rfl) (by kernel_rfl) (fun _ _ _ h => h) (Or.inl ⟨by rfl, ?hy36022⟩) (by assumption) ?tk36022
    case hy36022 => (intro w hSw; (try dsimp only at hSw); go_simp; (try with_reducible rfl))
    try simp only [Act.put, List.setIfInBounds_toArray, List.set_cons_zero, List.set_cons_succ]
    refine wpAnyH_take (i := 23) (oi := { dst := some 8, op := Go.Op.assign (Go.Operand.tmp 55), type := 3, pos := _, after := #[{ on := 21, ground := Go.Ground.data }, { on := 19, ground := Go.Ground.chain }, { on := 0, ground := Go.Ground.phase }, { on := 1, ground := Go.Ground.phase }, { on := 2, ground := Go.Ground.phase }, { on := 3, ground := Go.Ground.phase }, { on := 4, ground := Go.Ground.phase }, { on := 5, ground := Go.Ground.phase }, { on := 6, ground := Go.Ground.phase }, { on := 7, ground := Go.Ground.phase }, { on := 8, ground := Go.Ground.phase }, { on := 9, ground := Go.Ground.phase }, { on := 10, ground := Go.Ground.phase }, { on := 11, ground := Go.Ground.phase }, { on := 12, ground := Go.Ground.phase }, { on := 13, ground := Go.Ground.phase }, { on := 14, ground := Go.Ground.phase }, { on := 15, ground := Go.Ground.phase }, { on := 16, ground := Go.Ground.phase }, { on := 17, ground := Go.Ground.phase }, { on := 18, ground := Go.Ground.phase }, { on := 19, ground := Go.Ground.phase }, { on := 20, ground := Go.Ground.phase }, { on := 21, ground := Go.Ground.phase }, { on := 22, ground := Go.Ground.textOnly Go.Departure.lateStores }], guard := none }) (v := ?vv36023) rfl (by kernel_rfl) (by kernel_rfl) (by kernel_rfl) (fun _ _ _ h => h) (Or.inl ⟨by rfl, ?hy36023⟩) (by assumption) ?tk36023
    case hy36023 => (intro w hSw; (try dsimp only at hSw); go_simp; (try with_reducible rfl))
    try simp only [Act.put, List.setIfInBounds_toArray, List.set_cons_zero, List.set_cons_succ]
    refine wpAnyH_take (i := 24) (oi := { dst := some 9, op := Go.Op.assign (Go.Operand.tmp 56), type := 3, pos := _, after := #[{ on := 22, ground := Go.Ground.data }, { on := 23, ground := Go.Ground.chain }, { on := 0, ground := Go.Ground.phase }, { on := 1, ground := Go.Ground.phase }, { on := 2, ground := Go.Ground.phase }, { on := 3, ground := Go.Ground.phase }, { on := 4, ground := Go.Ground.phase }, { on := 5, ground := Go.Ground.phase }, { on := 6, ground := Go.Ground.phase }, { on := 7, ground := Go.Ground.phase }, { on := 8, ground := Go.Ground.phase }, { on := 9, ground := Go.Ground.phase }, { on := 10, ground := Go.Ground.phase }, { on := 11, ground := Go.Ground.phase }, { on := 12, ground := Go.Ground.phase }, { on := 13, ground := Go.Ground.phase }, { on := 14, ground := Go.Ground.phase }, { on := 15, ground := Go.Ground.phase }, { on := 16, ground := Go.Ground.phase }, { on := 17, ground := Go.Ground.phase }, { on := 18, ground := Go.Ground.phase }, { on := 19, ground := Go.Ground.phase }, { on := 20, ground := Go.Ground.phase }, { on := 21, ground := Go.Ground.phase }, { on := 22, ground := Go.Ground.phase }, { on := 23, ground := Go.Ground.phase }], guard := none }) (v := ?vv36024) rfl (by kernel_rfl) (by kernel_rfl) (by kernel_rfl) (fun _ _ _ h => h) (Or.inl ⟨by rfl, ?hy36024⟩) (by assumption) ?tk36024
    case hy36024 => (intro w hSw; (try dsimp only at hSw); go_simp; (try with_reducible rfl))
    try simp only [Act.put, List.setIfInBounds_toArray, List.set_cons_zero, List.set_cons_succ]
    refine wpAnyH_done (by kernel_rfl) ?_ _
    clear hHeld
    generalize hww : wr.drew.drew = wz
    have HW := hideIt hww
    clear hww
    go_wp2
    go_roundg (ρ.m - (i + 1))
    case measure => omega
    case rel => exact ⟨i + 1, by omega, by go_num, by rw [← HW.out]; exact below_dr (below_dr HB.out)⟩
  have i1 : ¬ ((i : Int) < (ρ.m : Int)) := by omega
  clear hin hi
  obtain ⟨n1, hn1⟩ : ∃ n1 : Nat, n1 + 1 = ρ.m := ⟨ρ.m - 1, by omega⟩
  have hmn : (ρ.m : Int) - 1 = (n1 : Int) := by omega
  have hn10 : ¬ ((n1 : Int) < 0) := by omega
  have y1 := D.env.pl.c3
  have y2 := D.eng.get D.r22 (by omega)
  have m1 : (0 : Int) < (ρ.m : Int) := by omega
  have hop := open_any (k := 0) (D.drew C) C hm0 rfl
  have hrl : ρ.hb < wr.heap.size := (Hh.below bw).lt
  have HY := hideIt (And.intro bw (Hh.below bw))
  have HN1 := hideIt hn1
  clear D h C Hh bw hn1
  go_upto_region 18 with fail
  simp only [Nat.zero_mul] at hop
  refine wp_region_l (l := 11) (S := (fun w' => w'.cell? ⟨τ.P, 3, none⟩ = some (.slice (some ⟨τ.gs, 0, none⟩) ρ.m τ.cs) ∧ w'.cell? ⟨τ.E, 22, none⟩ = some (.slice (some ⟨τ.GC, 0, none⟩) ρ.m ρ.m))) (by kernel_rfl) ⟨y1, y2⟩ (fun hHeld => ?_)
  refine AnyL.take2 (i := 0) (oi := { dst := some 72, op := Go.Op.move (Go.Operand.tmp 0), type := 43, pos := _, after := #[], guard := none }) (v := ?vv36025) (by kernel_rfl) (by kernel_rfl) rfl (by kernel_rfl) (by kernel_rfl) (by kernel_rfl) (fun _ _ _ h => h) (Or.inl ⟨by rfl, ?hy36025⟩) (by assumption) ?tk36025
  case hy36025 => (intro w hSw; (try dsimp only at hSw); go_simp; (try with_reducible rfl))
  try simp only [Act.put, List.setIfInBounds_toArray, List.set_cons_zero, List.set_cons_succ]
  refine AnyL.take2 (i := 1) (oi := { dst := some 73, op := Go.Op.move (Go.Operand.tmp 1), type := 150, pos := _, after := #[], guard := none }) (v := ?vv36026) (by kernel_rfl) (by kernel_rfl) rfl (by kernel_rfl) (by kernel_rfl) (by kernel_rfl) (fun _ _ _ h => h) (Or.inl ⟨by rfl, ?hy36026⟩) (by assumption) ?tk36026
  case hy36026 => (intro w hSw; (try dsimp only at hSw); go_simp; (try with_reducible rfl))
  try simp only [Act.put, List.setIfInBounds_toArray, List.set_cons_zero, List.set_cons_succ]
  refine AnyL.take2 (i := 2) (oi := { dst := some 74, op := Go.Op.nilCheck (Go.Operand.tmp 73), type := 0, pos := _, after := #[{ on := 1, ground := Go.Ground.data }], guard := none }) (v := ?vv36027) (by kernel_rfl) (by kernel_rfl) rfl (by kernel_rfl) (by kernel_rfl) (by kernel_rfl) (fun _ _ _ h => h) (Or.inl ⟨by rfl, ?hy36027⟩) (by assumption) ?tk36027
  case hy36027 => (intro w hSw; (try dsimp only at hSw); go_simp; (try with_reducible rfl))
  try simp only [Act.put, List.setIfInBounds_toArray, List.set_cons_zero, List.set_cons_succ]
  refine AnyL.take2 (i := 3) (oi := { dst := some 75, op := Go.Op.fieldAddr 164 (Go.Operand.tmp 74) 3, type := 0, pos := _, after := #[{ on := 2, ground := Go.Ground.data }], guard := none }) (v := ?vv36028) (by kernel_rfl) (by kernel_rfl) rfl (by kernel_rfl) (by kernel_rfl) (by kernel_rfl) (fun _ _ _ h => h) (Or.inl ⟨by rfl, ?hy36028⟩) (by assumption) ?tk36028
  case hy36028 => (intro w hSw; (try dsimp only at hSw); go_simp; (try with_reducible rfl))
  try simp only [Act.put, List.setIfInBounds_toArray, List.set_cons_zero, List.set_cons_succ]
  refine AnyL.take2 (i := 4) (oi := { dst := some 76, op := Go.Op.load 162 (Go.Operand.tmp 75), type := 162, pos := _, after := #[{ on := 3, ground := Go.Ground.data }], guard := none }) (v := ?vv36029) (by kernel_rfl) (by kernel_rfl) rfl (by kernel_rfl) (by kernel_rfl) (by kernel_rfl) (fun _ _ _ h => h) (Or.inl ⟨by rfl, ?hy36029⟩) (by assumption) ?tk36029
  case hy36029 => (intro w hSw; (try dsimp only at hSw); go_simp; (try with_reducible rfl))
  try simp only [Act.put, List.setIfInBounds_toArray, List.set_cons_zero, List.set_cons_succ]
  refine AnyL.take2 (i := 5) (oi := { dst := some 77, op := Go.Op.indexAddr 162 (Go.Operand.tmp 76) (Go.Operand.const (Go.Value.int Go.IntKind.i64 0)), type := 0, pos := _, after := #[{ on := 4, ground := Go.Ground.data }], guard := none }) (v := ?vv36030) (by kernel_rfl) (by kernel_rfl) rfl (by kernel_rfl) (by kernel_rfl) (by kernel_rfl) (fun _ _ _ h => h) (Or.inl ⟨by rfl, ?hy36030⟩) (by assumption) ?tk36030
  case hy36030 => (intro w hSw; (try dsimp only at hSw); go_simp; (try with_reducible rfl))
  try simp only [Act.put, List.setIfInBounds_toArray, List.set_cons_zero, List.set_cons_succ]
  refine AnyL.take2 (i := 6) (oi := { dst := some 78, op := Go.Op.move (Go.Operand.tmp 0), type := 43, pos := _, after := #[], guard := none }) (v := ?vv36031) (by kernel_rfl) (by kernel_rfl) rfl (by kernel_rfl) (by kernel_rfl) (by kernel_rfl) (fun _ _ _ h => h) (Or.inl ⟨by rfl, ?hy36031⟩) (by assumption) ?tk36031
  case hy36031 => (intro w hSw; (try dsimp only at hSw); go_simp; (try with_reducible rfl))
  try simp only [Act.put, List.setIfInBounds_toArray, List.set_cons_zero, List.set_cons_succ]
  refine AnyL.take2 (i := 7) (oi := { dst := some 79, op := Go.Op.nilCheck (Go.Operand.tmp 78), type := 0, pos := _, after := #[{ on := 6, ground := Go.Ground.data }], guard := none }) (v := ?vv36032) (by kernel_rfl) (by kernel_rfl) rfl (by kernel_rfl) (by kernel_rfl) (by kernel_rfl) (fun _ _ _ h => h) (Or.inl ⟨by rfl, ?hy36032⟩) (by assumption) ?tk36032
  case hy36032 => (intro w hSw; (try dsimp only at hSw); go_simp; (try with_reducible rfl))
  try simp only [Act.put, List.setIfInBounds_toArray, List.set_cons_zero, List.set_cons_succ]
  refine AnyL.take2 (i := 8) (oi := { dst := some 80, op := Go.Op.fieldAddr 75 (Go.Operand.tmp 79) 12, type := 0, pos := _, after := #[{ on := 7, ground := Go.Ground.data }], guard := none }) (v := ?vv36033) (by kernel_rfl) (by kernel_rfl) rfl (by kernel_rfl) (by kernel_rfl) (by kernel_rfl) (fun _ _ _ h => h) (Or.inl ⟨by rfl, ?hy36033⟩) (by assumption) ?tk36033
  case hy36033 => (intro w hSw; (try dsimp only at hSw); go_simp; (try with_reducible rfl))
  try simp only [Act.put, List.setIfInBounds_toArray, List.set_cons_zero, List.set_cons_succ]
  refine AnyL.take2 (i := 9) (oi := { dst := some 81, op := Go.Op.load 73 (Go.Operand.tmp 80), type := 73, pos := _, after := #[{ on := 8, ground := Go.Ground.data }], guard := none }) (v := ?vv36034) (by kernel_rfl) (by kernel_rfl) rfl (by kernel_rfl) (by kernel_rfl) (by kernel_rfl) (fun _ _ _ h => h) (Or.inl ⟨by rfl, ?hy36034⟩) (by assumption) ?tk36034
  case hy36034 => (intro w hSw; (try dsimp only at hSw); go_simp; (try with_reducible rfl))
  try simp only [Act.put, List.setIfInBounds_toArray, List.set_cons_zero, List.set_cons_succ]
  refine AnyL.take2 (i := 10) (oi := { dst := some 82, op := Go.Op.indexAddr 73 (Go.Operand.tmp 81) (Go.Operand.const (Go.Value.int Go.IntKind.i64 0)), type := 0, pos := _, after := #[{ on := 9, ground := Go.Ground.data }], guard := none }) (v := ?vv36035) (by kernel_rfl) (by kernel_rfl) rfl (by kernel_rfl) (by kernel_rfl) (by kernel_rfl) (fun _ _ _ h => h) (Or.inl ⟨by rfl, ?hy36035⟩) (by assumption) ?tk36035
  case hy36035 => (intro w hSw; (try dsimp only at hSw); go_simp; (try with_reducible rfl))
  try simp only [Act.put, List.setIfInBounds_toArray, List.set_cons_zero, List.set_cons_succ]
  refine AnyL.last (o := { dst := some 83, op := Go.Op.call { callee := Go.Callee.value (Go.Operand.func 60), args := #[Go.Operand.tmp 72, Go.Operand.tmp 77, Go.Operand.tmp 82], argTypes := #[43, 182, 183] }, type := 0, pos := _, after := #[{ on := 0, ground := Go.Ground.data }, { on := 5, ground := Go.Ground.data }, { on := 10, ground := Go.Ground.data }], guard := none }) (by kernel_rfl) rfl (by kernel_rfl) (fun K' hK' => ?_)
  go_simp
  go_at_call 60
  refine hop.mono ?_
  rintro e w5 ⟨rfl, D5, W5⟩
  have HX5 := hideIt (And.intro D5 W5)
  clear D5 W5 hop
  clear hHeld
  refine hK'.out _ _ ?_
  clear hK' K'
  try simp only [Act.put, List.setIfInBounds_toArray, List.set_cons_zero, List.set_cons_succ]
  go_wp2_with fail
  go_loopg [11] (2 * ρ.m + 1) (fun gg v11 wr => (∃ d : Nat, d < ρ.m ∧ v11 = .int .i64 (d : Int) ∧ gg + d = 2 * ρ.m + 1 ∧ Dyn wr ρ τ (updV c 19 (.int .i64 (d : Int))) (cuA τ.kn d) ∧ RelAt wr ρ.hb nmh sh ∧ Ws (fun q => q = τ.GC ∨ q = τ.E ∨ q = ρ.hb) w wr) ∨ (2 ≤ B ∧ ∃ d : Nat, d ≤ ρ.m ∧ v11 = .int .i64 ((d : Int) - 1) ∧ gg = d ∧ ∃ c' sh', Dyn wr ρ τ c' (cuD τ.kn) ∧ HbOk wr ρ.hb nmh sh' ∧ sh'.old = sh.old ∧ sh'.cur = sh.cur ∧ (∀ q, sh'.slots.ownBlock = some q → w.heap.size ≤ q) ∧ (∀ i, i ≠ 14 → i ≠ 16 → i ≠ 18 → i ≠ 19 → i ≠ 23 → c' i = c i) ∧ Ws (fun q => q = τ.GC ∨ q = τ.E ∨ q = ρ.hb) w wr))
  case atStart =>
    obtain ⟨D5, W5⟩ := HX5.out
    obtain ⟨bw, Hh⟩ := HY.out
    obtain ⟨_, C, _⟩ := HQ.out
    obtain ⟨hA0, h0, hd, hs, hy, c0, c14, c16, c18, c19, c23⟩ := HQ2.out
    refine .inl ⟨0, hm0, rfl, by omega, ?_, Hh.blk (W5.block _ hrl (fun e => C.d2 e.symm)), (Ws.of_below (below_dr bw)).trans (Ws.of_wr W5 (.inl rfl))⟩
    rw [updV_id (show c 19 = .int .i64 ((0 : Nat) : Int) from c19)]
    exact D5.congr (fun j _ => cuA_zero τ.kn j)
  case round =>
    clear HY y1 y2 hrl HX5
    have hn1 := HN1.out
    rcases hrel with ⟨d, hdm, rfl, hg, D, Hh, W⟩ | ⟨hB, d, hdm, rfl, hg, c', sh', D, K, ho, hc, hq, ha, W⟩
    · have d0 : (0 : Int) ≤ d := by omega
      have d1 : (d : Int) < (ρ.m : Int) := by omega
      obtain ⟨_, C, _⟩ := HQ.out
      have y1 := D.env.pl.c3
      have y2 := D.eng.get D.r22 (by omega)
      have had := advance_new (v := d) (D.drew C) C hdm (by unfold cuA; rw [if_neg (by omega), if_pos rfl]) (updV_same _ _ _) (by omega)
      have HD := hideIt (And.intro Hh W)
      have hrl := Hh.lt
      clear D Hh W C
      go_upto_region 20 with fail
      refine wp_region_held_drew (S := (fun w' => w'.cell? ⟨τ.P, 3, none⟩ = some (.slice (some ⟨τ.gs, 0, none⟩) ρ.m τ.cs) ∧ w'.cell? ⟨τ.E, 22, none⟩ = some (.slice (some ⟨τ.GC, 0, none⟩) ρ.m ρ.m))) (by kernel_rfl) ⟨y1, y2⟩ (fun hHeld => ?_)
      refine wpAnyH_take (i := 0) (oi := { dst := some 86, op := Go.Op.move (Go.Operand.tmp 0), type := 43, pos := _, after := #[], guard := none }) (v := ?vv36049) rfl (by kernel_rfl) (by kernel_rfl) (by kernel_rfl) (fun _ _ _ h => h) (Or.inl ⟨by rfl, ?hy36049⟩) (by assumption) ?tk36049
      case hy36049 => (intro w hSw; (try dsimp only at hSw); go_simp; (try with_reducible rfl))
      try simp only [Act.put, List.setIfInBounds_toArray, List.set_cons_zero, List.set_cons_succ]
      refine wpAnyH_take (i := 1) (oi := { dst := some 87, op := Go.Op.move (Go.Operand.tmp 1), type := 150, pos := _, after := #[], guard := none }) (v := ?vv36050) rfl (by kernel_rfl) (by kernel_rfl) (by kernel_rfl) (fun _ _ _ h => h) (Or.inl ⟨by rfl, ?hy36050⟩) (by assumption) ?tk36050
      case hy36050 => (intro w hSw; (try dsimp only at hSw); go_simp; (try with_reducible rfl))
      try simp only [Act.put, List.setIfInBounds_toArray, List.set_cons_zero, List.set_cons_succ]
      refine wpAnyH_take (i := 2) (oi := { dst := some 88, op := Go.Op.nilCheck (Go.Operand.tmp 87), type := 0, pos := _, after := #[{ on := 1, ground := Go.Ground.data }], guard := none }) (v := ?vv36051) rfl (by kernel_rfl) (by kernel_rfl) (by kernel_rfl) (fun _ _ _ h => h) (Or.inl ⟨by rfl, ?hy36051⟩) (by assumption) ?tk36051
      case hy36051 => (intro w hSw; (try dsimp only at hSw); go_simp; (try with_reducible rfl))
      try simp only [Act.put, List.setIfInBounds_toArray, List.set_cons_zero, List.set_cons_succ]
      refine wpAnyH_take (i := 3) (oi := { dst := some 89, op := Go.Op.fieldAddr 164 (Go.Operand.tmp 88) 3, type := 0, pos := _, after := #[{ on := 2, ground := Go.Ground.data }], guard := none }) (v := ?vv36052) rfl (by kernel_rfl) (by kernel_rfl) (by kernel_rfl) (fun _ _ _ h => h) (Or.inl ⟨by rfl, ?hy36052⟩) (by assumption) ?tk36052
      case hy36052 => (intro w hSw; (try dsimp only at hSw); go_simp; (try with_reducible rfl))
      try simp only [Act.put, List.setIfInBounds_toArray, List.set_cons_zero, List.set_cons_succ]
      refine wpAnyH_take (i := 4) (oi := { dst := some 90, op := Go.Op.load 162 (Go.Operand.tmp 89), type := 162, pos := _, after := #[{ on := 3, ground := Go.Ground.data }], guard := none }) (v := ?vv36053) rfl (by kernel_rfl) (by kernel_rfl) (by kernel_rfl) (fun _ _ _ h => h) (Or.inl ⟨by rfl, ?hy36053⟩) (by assumption) ?tk36053
      case hy36053 => (intro w hSw; (try dsimp only at hSw); go_simp; (try with_reducible rfl))
      try simp only [Act.put, List.setIfInBounds_toArray, List.set_cons_zero, List.set_cons_succ]
      refine wpAnyH_take (i := 5) (oi := { dst := some 91, op := Go.Op.move (Go.Operand.tmp 11), type := 3, pos := _, after := #[], guard := none }) (v := ?vv36054) rfl (by kernel_rfl) (by kernel_rfl) (by kernel_rfl) (fun _ _ _ h => h) (Or.inl ⟨by rfl, ?hy36054⟩) (by assumption) ?tk36054
      case hy36054 => (intro w hSw; (try dsimp only at hSw); go_simp; (try with_reducible rfl))
      try simp only [Act.put, List.setIfInBounds_toArray, List.set_cons_zero, List.set_cons_succ]
      refine wpAnyH_take (i := 6) (oi := { dst := some 92, op := Go.Op.indexAddr 162 (Go.Operand.tmp 90) (Go.Operand.tmp 91), type := 0, pos := _, after := #[{ on := 4, ground := Go.Ground.data }, { on := 5, ground := Go.Ground.data }], guard := none }) (v := ?vv36055) rfl (by kernel_rfl) (by kernel_rfl) (by kernel_rfl) (fun _ _ _ h => h) (Or.inl ⟨by rfl, ?hy36055⟩) (by assumption) ?tk36055
      case hy36055 => (intro w hSw; (try dsimp only at hSw); go_simp; (try with_reducible rfl))
      try simp only [Act.put, List.setIfInBounds_toArray, List.set_cons_zero, List.set_cons_succ]
      refine wpAnyH_take (i := 7) (oi := { dst := some 93, op := Go.Op.move (Go.Operand.tmp 0), type := 43, pos := _, after := #[], guard := none }) (v := ?vv36056) rfl (by kernel_rfl) (by kernel_rfl) (by kernel_rfl) (fun _ _ _ h => h) (Or.inl ⟨by rfl, ?hy36056⟩) (by assumption) ?tk36056
      case hy36056 => (intro w hSw; (try dsimp only at hSw); go_simp; (try with_reducible rfl))
      try simp only [Act.put, List.setIfInBounds_toArray, List.set_cons_zero, List.set_cons_succ]
      refine wpAnyH_take (i := 8) (oi := { dst := some 94, op := Go.Op.nilCheck (Go.Operand.tmp 93), type := 0, pos := _, after := #[{ on := 7, ground := Go.Ground.data }], guard := none }) (v := ?vv36057) rfl (by kernel_rfl) (by kernel_rfl) (by kernel_rfl) (fun _ _ _ h => h) (Or.inl ⟨by rfl, ?hy36057⟩) (by assumption) ?tk36057
      case hy36057 => (intro w hSw; (try dsimp only at hSw); go_simp; (try with_reducible rfl))
      try simp only [Act.put, List.setIfInBounds_toArray, List.set_cons_zero, List.set_cons_succ]
      refine wpAnyH_take (i := 9) (oi := { dst := some 95, op := Go.Op.fieldAddr 75 (Go.Operand.tmp 94) 12, type := 0, pos := _, after := #[{ on := 8, ground := Go.Ground.data }], guard := none }) (v := ?vv36058) rfl (by kernel_rfl) (by kernel_rfl) (by kernel_rfl) (fun _ _ _ h => h) (Or.inl ⟨by rfl, ?hy36058⟩) (by assumption) ?tk36058
      case hy36058 => (intro w hSw; (try dsimp only at hSw); go_simp; (try with_reducible rfl))
      try simp only [Act.put, List.setIfInBounds_toArray, List.set_cons_zero, List.set_cons_succ]
      refine wpAnyH_take (i := 10) (oi := { dst := some 96, op := Go.Op.load 73 (Go.Operand.tmp 95), type := 73, pos := _, after := #[{ on := 9, ground := Go.Ground.data }], guard := none }) (v := ?vv36059) rfl (by kernel_rfl) (by kernel_rfl) (by kernel_rfl) (fun _ _ _ h => h) (Or.inl ⟨by rfl, ?hy36059⟩) (by assumption) ?tk36059
      case hy36059 => (intro w hSw; (try dsimp only at hSw); go_simp; (try with_reducible rfl))
      try simp only [Act.put, List.setIfInBounds_toArray, List.set_cons_zero, List.set_cons_succ]
      refine wpAnyH_take (i := 11) (oi := { dst := some 97, op := Go.Op.move (Go.Operand.tmp 11), type := 3, pos := _, after := #[], guard := none }) (v := ?vv36060) rfl (by kernel_rfl) (by kernel_rfl) (by kernel_rfl) (fun _ _ _ h => h) (Or.inl ⟨by rfl, ?hy36060⟩) (by assumption) ?tk36060
      case hy36060 => (intro w hSw; (try dsimp only at hSw); go_simp; (try with_reducible rfl))
      try simp only [Act.put, List.setIfInBounds_toArray, List.set_cons_zero, List.set_cons_succ]
      refine wpAnyH_take (i := 12) (oi := { dst := some 98, op := Go.Op.indexAddr 73 (Go.Operand.tmp 96) (Go.Operand.tmp 97), type := 0, pos := _, after := #[{ on := 10, ground := Go.Ground.data }, { on := 11, ground := Go.Ground.data }], guard := none }) (v := ?vv36061) rfl (by kernel_rfl) (by kernel_rfl) (by kernel_rfl) (fun _ _ _ h => h) (Or.inl ⟨by rfl, ?hy36061⟩) (by assumption) ?tk36061
      case hy36061 => (intro w hSw; (try dsimp only at hSw); go_simp; (try with_reducible rfl))
      try simp only [Act.put, List.setIfInBounds_toArray, List.set_cons_zero, List.set_cons_succ]
      refine wpAnyH_ready (rs := [13]) (by kernel_rfl) (by simp) ?_
      refine AllReadyH.cons (o := { dst := some 99, op := Go.Op.call { callee := Go.Callee.value (Go.Operand.func 61), args := #[Go.Operand.tmp 86, Go.Operand.tmp 92, Go.Operand.tmp 98], argTypes := #[43, 182, 183] }, type := 4, pos := _, after := #[{ on := 0, ground := Go.Ground.data }, { on := 6, ground := Go.Ground.data }, { on := 12, ground := Go.Ground.data }], guard := none }) rfl (fun K' hK' => ?_) AllReadyH.nil
      go_simp
      go_at_call 61
      refine had.mono ?_
      rintro e w5 ⟨rfl, D5, W5⟩
      have x1 : w5.cell? ⟨τ.P, 3, none⟩ = some (.slice (some ⟨τ.gs, 0, none⟩) ρ.m τ.cs) := D5.env.pl.c3
      have x2 : w5.cell? ⟨τ.E, 22, none⟩ = some (.slice (some ⟨τ.GC, 0, none⟩) ρ.m ρ.m) := D5.eng.get D5.r22 (by omega)
      have HX5 := hideIt (And.intro D5 W5)
      clear D5 W5 had
      clear hHeld
      refine hK'.out _ _ ⟨x1, x2⟩ (fun hHeld => ?_)
      clear hK' K'
      try simp only [Act.put, List.setIfInBounds_toArray, List.set_cons_zero, List.set_cons_succ]
      refine wpAnyH_take (i := 14) (oi := { dst := some 100, op := Go.Op.unOp Go.UnOp.not 4 (Go.Operand.tmp 99), type := 4, pos := _, after := #[{ on := 13, ground := Go.Ground.data }], guard := none }) (v := ?vv36062) rfl (by kernel_rfl) (by kernel_rfl) (by kernel_rfl) (fun _ _ _ h => h) (Or.inl ⟨by rfl, ?hy36062⟩) (by assumption) ?tk36062
      case hy36062 => (intro w hSw; (try dsimp only at hSw); go_simp; (try with_reducible rfl))
      try simp only [Act.put, List.setIfInBounds_toArray, List.set_cons_zero, List.set_cons_succ]
      refine wpAnyH_done (by kernel_rfl) ?_ _
      clear hHeld x1 x2 y1 y2
      by_cases hdn : d < n1
      · have dn : (d : Int) < (n1 : Int) := by omega
        obtain ⟨D5, W5⟩ := HX5.out
        obtain ⟨_, C, _⟩ := HQ.out
        have y1 := D5.env.pl.c3
        have y2 := D5.eng.get D5.r22 (by omega)
        obtain ⟨x, hx⟩ : ∃ x, d + 1 = x := ⟨_, rfl⟩
        have hop := open_any (k := x) (D5.drew C) C (by omega) (by unfold updC cuA; rw [if_neg (by omega), if_neg (by omega), if_neg (by omega)])
        have hx' : (d : Int) + 1 = (x : Int) := by omega
        have x0 : (0 : Int) ≤ x := by omega
        have x1 : (x : Int) < (ρ.m : Int) := by omega
        have HX := hideIt hx
        clear hx D5 C W5
        have HX6 := HX5
        clear HX5
        go_upto_region 24 with fail
        refine wp_region_l (l := 13) (S := (fun w' => w'.cell? ⟨τ.P, 3, none⟩ = some (.slice (some ⟨τ.gs, 0, none⟩) ρ.m τ.cs) ∧ w'.cell? ⟨τ.E, 22, none⟩ = some (.slice (some ⟨τ.GC, 0, none⟩) ρ.m ρ.m))) (by kernel_rfl) ⟨y1, y2⟩ (fun hHeld => ?_)
        refine AnyL.take2 (i := 0) (oi := { dst := some 108, op := Go.Op.move (Go.Operand.tmp 0), type := 43, pos := _, after := #[], guard := none }) (v := ?vv36036) (by kernel_rfl) (by kernel_rfl) rfl (by kernel_rfl) (by kernel_rfl) (by kernel_rfl) (fun _ _ _ h => h) (Or.inl ⟨by rfl, ?hy36036⟩) (by assumption) ?tk36036
        case hy36036 => (intro w hSw; (try dsimp only at hSw); go_simp; (try with_reducible rfl))
        try simp only [Act.put, List.setIfInBounds_toArray, List.set_cons_zero, List.set_cons_succ]
        refine AnyL.take2 (i := 1) (oi := { dst := some 109, op := Go.Op.move (Go.Operand.tmp 1), type := 150, pos := _, after := #[], guard := none }) (v := ?vv36037) (by kernel_rfl) (by kernel_rfl) rfl (by kernel_rfl) (by kernel_rfl) (by kernel_rfl) (fun _ _ _ h => h) (Or.inl ⟨by rfl, ?hy36037⟩) (by assumption) ?tk36037
        case hy36037 => (intro w hSw; (try dsimp only at hSw); go_simp; (try with_reducible rfl))
        try simp only [Act.put, List.setIfInBounds_toArray, List.set_cons_zero, List.set_cons_succ]
        refine AnyL.take2 (i := 2) (oi := { dst := some 110, op := Go.Op.nilCheck (Go.Operand.tmp 109), type := 0, pos := _, after := #[{ on := 1, ground := Go.Ground.data }], guard := none }) (v := ?vv36038) (by kernel_rfl) (by kernel_rfl) rfl (by kernel_rfl) (by kernel_rfl) (by kernel_rfl) (fun _ _ _ h => h) (Or.inl ⟨by rfl, ?hy36038⟩) (by assumption) ?tk36038
        case hy36038 => (intro w hSw; (try dsimp only at hSw); go_simp; (try with_reducible rfl))
        try simp only [Act.put, List.setIfInBounds_toArray, List.set_cons_zero, List.set_cons_succ]
        refine AnyL.take2 (i := 3) (oi := { dst := some 111, op := Go.Op.fieldAddr 164 (Go.Operand.tmp 110) 3, type := 0, pos := _, after := #[{ on := 2, ground := Go.Ground.data }], guard := none }) (v := ?vv36039) (by kernel_rfl) (by kernel_rfl) rfl (by kernel_rfl) (by kernel_rfl) (by kernel_rfl) (fun _ _ _ h => h) (Or.inl ⟨by rfl, ?hy36039⟩) (by assumption) ?tk36039
        case hy36039 => (intro w hSw; (try dsimp only at hSw); go_simp; (try with_reducible rfl))
        try simp only [Act.put, List.setIfInBounds_toArray, List.set_cons_zero, List.set_cons_succ]
        refine AnyL.take2 (i := 4) (oi := { dst := some 112, op := Go.Op.load 162 (Go.Operand.tmp 111), type := 162, pos := _, after := #[{ on := 3, ground := Go.Ground.data }], guard := none }) (v := ?vv36040) (by kernel_rfl) (by kernel_rfl) rfl (by kernel_rfl) (by kernel_rfl) (by kernel_rfl) (fun _ _ _ h => h) (Or.inl ⟨by rfl, ?hy36040⟩) (by assumption) ?tk36040
        case hy36040 => (intro w hSw; (try dsimp only at hSw); go_simp; (try with_reducible rfl))
        try simp only [Act.put, List.setIfInBounds_toArray, List.set_cons_zero, List.set_cons_succ]
        refine AnyL.take2 (i := 5) (oi := { dst := some 113, op := Go.Op.move (Go.Operand.tmp 11), type := 3, pos := _, after := #[], guard := none }) (v := ?vv36041) (by kernel_rfl) (by kernel_rfl) rfl (by kernel_rfl) (by kernel_rfl) (by kernel_rfl) (fun _ _ _ h => h) (Or.inl ⟨by rfl, ?hy36041⟩) (by assumption) ?tk36041
        case hy36041 => (intro w hSw; (try dsimp only at hSw); go_simp; (try with_reducible rfl))
        try simp only [Act.put, List.setIfInBounds_toArray, List.set_cons_zero, List.set_cons_succ]
        refine AnyL.take2 (i := 6) (oi := { dst := some 114, op := Go.Op.indexAddr 162 (Go.Operand.tmp 112) (Go.Operand.tmp 113), type := 0, pos := _, after := #[{ on := 4, ground := Go.Ground.data }, { on := 5, ground := Go.Ground.data }], guard := none }) (v := ?vv36042) (by kernel_rfl) (by kernel_rfl) rfl (by kernel_rfl) (by kernel_rfl) (by kernel_rfl) (fun _ _ _ h => h) (Or.inl ⟨by rfl, ?hy36042⟩) (by assumption) ?tk36042
        case hy36042 => (intro w hSw; (try dsimp only at hSw); go_simp; (try with_reducible rfl))
        try simp only [Act.put, List.setIfInBounds_toArray, List.set_cons_zero, List.set_cons_succ]
        refine AnyL.take2 (i := 7) (oi := { dst := some 115, op := Go.Op.move (Go.Operand.tmp 0), type := 43, pos := _, after := #[], guard := none }) (v := ?vv36043) (by kernel_rfl) (by kernel_rfl) rfl (by kernel_rfl) (by kernel_rfl) (by kernel_rfl) (fun _ _ _ h => h) (Or.inl ⟨by rfl, ?hy36043⟩) (by assumption) ?tk36043
        case hy36043 => (intro w hSw; (try dsimp only at hSw); go_simp; (try with_reducible rfl))
        try simp only [Act.put, List.setIfInBounds_toArray, List.set_cons_zero, List.set_cons_succ]
        refine AnyL.take2 (i := 8) (oi := { dst := some 116, op := Go.Op.nilCheck (Go.Operand.tmp 115), type := 0, pos := _, after := #[{ on := 7, ground := Go.Ground.data }], guard := none }) (v := ?vv36044) (by kernel_rfl) (by kernel_rfl) rfl (by kernel_rfl) (by kernel_rfl) (by kernel_rfl) (fun _ _ _ h => h) (Or.inl ⟨by rfl, ?hy36044⟩) (by assumption) ?tk36044
        case hy36044 => (intro w hSw; (try dsimp only at hSw); go_simp; (try with_reducible rfl))
        try simp only [Act.put, List.setIfInBounds_toArray, List.set_cons_zero, List.set_cons_succ]
        refine AnyL.take2 (i := 9) (oi := { dst := some 117, op := Go.Op.fieldAddr 75 (Go.Operand.tmp 116) 12, type := 0, pos := _, after := #[{ on := 8, ground := Go.Ground.data }], guard := none }) (v := ?vv36045) (by kernel_rfl) (by kernel_rfl) rfl (by kernel_rfl) (by kernel_rfl) (by kernel_rfl) (fun _ _ _ h => h) (Or.inl ⟨by rfl, ?hy36045⟩) (by assumption) ?tk36045
        case hy36045 => (intro w hSw; (try dsimp only at hSw); go_simp; (try with_reducible rfl))
        try simp only [Act.put, List.setIfInBounds_toArray, List.set_cons_zero, List.set_cons_succ]
        refine AnyL.take2 (i := 10) (oi := { dst := some 118, op := Go.Op.load 73 (Go.Operand.tmp 117), type := 73, pos := _, after := #[{ on := 9, ground := Go.Ground.data }], guard := none }) (v := ?vv36046) (by kernel_rfl) (by kernel_rfl) rfl (by kernel_rfl) (by kernel_rfl) (by kernel_rfl) (fun _ _ _ h => h) (Or.inl ⟨by rfl, ?hy36046⟩) (by assumption) ?tk36046
        case hy36046 => (intro w hSw; (try dsimp only at hSw); go_simp; (try with_reducible rfl))
        try simp only [Act.put, List.setIfInBounds_toArray, List.set_cons_zero, List.set_cons_succ]
        refine AnyL.take2 (i := 11) (oi := { dst := some 119, op := Go.Op.move (Go.Operand.tmp 11), type := 3, pos := _, after := #[], guard := none }) (v := ?vv36047) (by kernel_rfl) (by kernel_rfl) rfl (by kernel_rfl) (by kernel_rfl) (by kernel_rfl) (fun _ _ _ h => h) (Or.inl ⟨by rfl, ?hy36047⟩) (by assumption) ?tk36047
        case hy36047 => (intro w hSw; (try dsimp only at hSw); go_simp; (try with_reducible rfl))
        try simp only [Act.put, List.setIfInBounds_toArray, List.set_cons_zero, List.set_cons_succ]
        refine AnyL.take2 (i := 12) (oi := { dst := some 120, op := Go.Op.indexAddr 73 (Go.Operand.tmp 118) (Go.Operand.tmp 119), type := 0, pos := _, after := #[{ on := 10, ground := Go.Ground.data }, { on := 11, ground := Go.Ground.data }], guard := none }) (v := ?vv36048) (by kernel_rfl) (by kernel_rfl) rfl (by kernel_rfl) (by kernel_rfl) (by kernel_rfl) (fun _ _ _ h => h) (Or.inl ⟨by rfl, ?hy36048⟩) (by assumption) ?tk36048
        case hy36048 => (intro w hSw; (try dsimp only at hSw); go_simp; (try with_reducible rfl))
        try simp only [Act.put, List.setIfInBounds_toArray, List.set_cons_zero, List.set_cons_succ]
        refine AnyL.last (o := { dst := some 121, op := Go.Op.call { callee := Go.Callee.value (Go.Operand.func 60), args := #[Go.Operand.tmp 108, Go.Operand.tmp 114, Go.Operand.tmp 120], argTypes := #[43, 182, 183] }, type := 0, pos := _, after := #[{ on := 0, ground := Go.Ground.data }, { on := 6, ground := Go.Ground.data }, { on := 12, ground := Go.Ground.data }], guard := none }) (by kernel_rfl) rfl (by kernel_rfl) (fun K' hK' => ?_)
        go_simp
        go_at_call 60
        refine hop.mono ?_
        rintro e w5 ⟨rfl, D5, W5⟩
        have HX5 := hideIt (And.intro D5 W5)
        clear D5 W5 hop
        clear hHeld
        refine hK'.out _ _ ?_
        clear hK' K'
        try simp only [Act.put, List.setIfInBounds_toArray, List.set_cons_zero, List.set_cons_succ]
        go_wp2
        go_roundg (2 * ρ.m + 1 - (d + 1))
        case measure => omega
        case rel =>
          obtain ⟨D5, W5⟩ := HX6.out
          obtain ⟨D6, W6⟩ := HX5.out
          obtain ⟨Hh, W⟩ := HD.out
          obtain ⟨_, C, _⟩ := HQ.out
          have hx := HX.out
          subst hx
          refine .inl ⟨d + 1, by omega, by go_num, by omega, ?_, ?_, ?_⟩
          · rw [updV_twice] at D6
            exact D6.congr (fun j _ => cuA_next τ.kn d j)
          · have z1 := W5.block ρ.hb hrl (fun e => by rcases e with e | e; exact C.d2 e.symm; exact C.d3 e.symm)
            exact (Hh.blk z1).blk (W6.block _ (Nat.lt_of_lt_of_le hrl W5.size) (fun e => C.d2 e.symm))
          · exact ((W.drew.trans (W5.mono (fun q _ z => by rcases z with z | z; exact .inl z; exact .inr (.inl z)))).drew.trans (Ws.of_wr W6 (.inl rfl)))
      · have hdn1 : d = n1 := by omega
        have dn : ¬ ((d : Int) < (n1 : Int)) := by omega
        obtain ⟨D5, W5⟩ := HX5.out
        obtain ⟨_, C, _⟩ := HQ.out
        obtain ⟨Hh, W⟩ := HD.out
        obtain ⟨hA0, h0, hd, hs, hy, c0, c14, c16, c18, c19, c23⟩ := HQ2.out
        rw [updV_twice] at D5
        have D5' := D5.congr (fun j hj => cuA_last τ.kn d j (by omega))
        have z1 := W5.block ρ.hb hrl (fun e => by rcases e with e | e; exact C.d2 e.symm; exact C.d3 e.symm)
        have hcl := conclude_any (B := B) (v := v) D5' C (fun k _ => by simp [cuD]) (Hh.blk z1) hA0 h0 hd hs hy ((updV_other c _ (by omega)).trans c0) ((updV_other c _ (by omega)).trans c14) ((updV_other c _ (by omega)).trans c16) ((updV_other c _ (by omega)).trans c18) ((updV_other c _ (by omega)).trans c23) hv
        obtain ⟨bo, hbo⟩ : ∃ bo, decide (2 ≤ B) = bo := ⟨_, rfl⟩
        rw [hbo] at hcl
        have HBO := hideIt hbo
        have HW5 := hideIt (W.drew.trans (W5.mono (fun q _ z => (by rcases z with z | z; exact .inl z; exact .inr (.inl z) : q = τ.GC ∨ q = τ.E ∨ q = ρ.hb))))
        have HDN := hideIt (And.intro hdn1 (And.intro hg hn1))
        clear D5 D5' W5 C Hh W hA0 h0 hd hs hy c0 c14 c16 c18 c19 c23 z1 hbo hdn1 HX5 hdn hdm hg
        go_wp2_with fail
        refine hcl.mono ?_
        rintro e w6 ⟨rfl, c6, sh6, D6, K6, ho6, hc6, hq6, ha6, W6⟩
        have HX6 := hideIt (And.intro D6 (And.intro K6 (And.intro ho6 (And.intro hc6 (And.intro (And.intro ha6 hq6) W6)))))
        clear D6 K6 ho6 hc6 ha6 hq6 W6 hcl
        have FIN : Hid (Dyn w6 ρ τ c6 (cuD τ.kn) ∧ HbOk w6 ρ.hb nmh sh6 ∧ sh6.old = sh.old ∧ sh6.cur = sh.cur ∧ (∀ q, sh6.slots.ownBlock = some q → w.heap.size ≤ q) ∧ (∀ i, i ≠ 14 → i ≠ 16 → i ≠ 18 → i ≠ 19 → i ≠ 23 → c6 i = c i) ∧ Ws (fun q => q = τ.GC ∨ q = τ.E ∨ q = ρ.hb) w w6) := by
          obtain ⟨D6, K6, ho6, hc6, ⟨ha6, hq6⟩, W6⟩ := HX6.out
          exact hideIt ⟨D6, K6, ho6, hc6, fun q hq => Nat.le_trans HW5.out.size (hq6 q hq), fun i h1 h2 h3 h4 h5 => (ha6 i h1 h2 h3 h5).trans (updV_other c _ h4), HW5.out.trans (W6.mono (fun q _ z => .inr z))⟩
        clear HX6
        cases bo
        · go_wp2
          go_ret
          obtain ⟨D6, K6, ho6, hc6, hq6, ha6, W6⟩ := FIN.out
          have hb := HBO.out
          rw [hb]
          exact ⟨rfl, c6, sh6, D6, K6, ho6, hc6, hq6, ha6, W6⟩
        · go_wp2
          go_roundg ρ.m
          case measure => obtain ⟨z1, z2, z3⟩ := HDN.out; omega
          case rel =>
            obtain ⟨D6, K6, ho6, hc6, hq6, ha6, W6⟩ := FIN.out
            have hb := HBO.out
            exact .inr ⟨by simpa using hb, ρ.m, Nat.le_refl _, by obtain ⟨z1, z2, z3⟩ := HDN.out; congr 1; omega, rfl, c6, sh6, D6, K6, ho6, hc6, hq6, ha6, W6⟩
    · by_cases hd0 : d = 0
      · subst hd0
        have HX := hideIt (And.intro D (And.intro K (And.intro ho (And.intro hc (And.intro hq (And.intro ha W))))))
        have HB := hideIt hB
        clear D K ho hc hq ha W hB
        go_wp2
        go_ret
        obtain ⟨D6, K6, ho6, hc6, hq6, ha6, W6⟩ := HX.out
        have hb := HB.out
        rw [show decide (2 ≤ B) = true by simpa using hb]
        exact ⟨rfl, c', sh', D6, K6, ho6, hc6, hq6, ha6, W6⟩
      · obtain ⟨x, hx⟩ : ∃ x, x + 1 = d := ⟨d - 1, by omega⟩
        have hx' : (d : Int) - 1 = (x : Int) := by omega
        rw [hx']
        have x0 : (0 : Int) ≤ x := by omega
        have x1' : (x : Int) < (ρ.m : Int) := by omega
        obtain ⟨_, C, _⟩ := HQ.out
        have y1 := D.env.pl.c3
        have y2 := D.eng.get D.r22 (by omega)
        have had := advance_end (k := x) (D.drew C) C (by omega) rfl
        have HX := hideIt (And.intro D (And.intro K (And.intro ho (And.intro hc (And.intro hq (And.intro ha W))))))
        have HXX := hideIt hx
        have HB := hideIt hB
        clear D K ho hc hq ha W C hx hx' hB
        go_upto_region 20 with fail
        refine wp_region_held_drew (S := (fun w' => w'.cell? ⟨τ.P, 3, none⟩ = some (.slice (some ⟨τ.gs, 0, none⟩) ρ.m τ.cs) ∧ w'.cell? ⟨τ.E, 22, none⟩ = some (.slice (some ⟨τ.GC, 0, none⟩) ρ.m ρ.m))) (by kernel_rfl) ⟨y1, y2⟩ (fun hHeld => ?_)
        refine wpAnyH_take (i := 0) (oi := { dst := some 86, op := Go.Op.move (Go.Operand.tmp 0), type := 43, pos := _, after := #[], guard := none }) (v := ?vv36063) rfl (by kernel_rfl) (by kernel_rfl) (by kernel_rfl) (fun _ _ _ h => h) (Or.inl ⟨by rfl, ?hy36063⟩) (by assumption) ?tk36063
        case hy36063 => (intro w hSw; (try dsimp only at hSw); go_simp; (try with_reducible rfl))
        try simp only [Act.put, List.setIfInBounds_toArray, List.set_cons_zero, List.set_cons_succ]
        refine wpAnyH_take (i := 1) (oi := { dst := some 87, op := Go.Op.move (Go.Operand.tmp 1), type := 150, pos := _, after := #[], guard := none }) (v := ?vv36064) rfl (by kernel_rfl) (by kernel_rfl) (by kernel_rfl) (fun _ _ _ h => h) (Or.inl ⟨by rfl, ?hy36064⟩) (by assumption) ?tk36064
        case hy36064 => (intro w hSw; (try dsimp only at hSw); go_simp; (try with_reducible rfl))
        try simp only [Act.put, List.setIfInBounds_toArray, List.set_cons_zero, List.set_cons_succ]
        refine wpAnyH_take (i := 2) (oi := { dst := some 88, op := Go.Op.nilCheck (Go.Operand.tmp 87), type := 0, pos := _, after := #[{ on := 1, ground := Go.Ground.data }], guard := none }) (v := ?vv36065) rfl (by kernel_rfl) (by kernel_rfl) (by kernel_rfl) (fun _ _ _ h => h) (Or.inl ⟨by rfl, ?hy36065⟩) (by assumption) ?tk36065
        case hy36065 => (intro w hSw; (try dsimp only at hSw); go_simp; (try with_reducible rfl))
        try simp only [Act.put, List.setIfInBounds_toArray, List.set_cons_zero, List.set_cons_succ]
        refine wpAnyH_take (i := 3) (oi := { dst := some 89, op := Go.Op.fieldAddr 164 (Go.Operand.tmp 88) 3, type := 0, pos := _, after := #[{ on := 2, ground := Go.Ground.data }], guard := none }) (v := ?vv36066) rfl (by kernel_rfl) (by kernel_rfl) (by kernel_rfl) (fun _ _ _ h => h) (Or.inl ⟨by rfl, ?hy36066⟩) (by assumption) ?tk36066
        case hy36066 => (intro w hSw; (try dsimp only at hSw); go_simp; (try with_reducible rfl))
        try simp only [Act.put, List.setIfInBounds_toArray, List.set_cons_zero, List.set_cons_succ]
        refine wpAnyH_take (i := 4) (oi := { dst := some 90, op := Go.Op.load 162 (Go.Operand.tmp 89), type := 162, pos := _, after := #[{ on := 3, ground := Go.Ground.data }], guard := none }) (v := ?vv36067) rfl (by kernel_rfl) (by kernel_rfl) (by kernel_rfl) (fun _ _ _ h => h) (Or.inl ⟨by rfl, ?hy36067⟩) (by assumption) ?tk36067
        case hy36067 => (intro w hSw; (try dsimp only at hSw); go_simp; (try with_reducible rfl))
        try simp only [Act.put, List.setIfInBounds_toArray, List.set_cons_zero, List.set_cons_succ]
        refine wpAnyH_take (i := 5) (oi := { dst := some 91, op := Go.Op.move (Go.Operand.tmp 11), type := 3, pos := _, after := #[], guard := none }) (v := ?vv36068) rfl (by kernel_rfl) (by kernel_rfl) (by kernel_rfl) (fun _ _ _ h => h) (Or.inl ⟨by rfl, ?hy36068⟩) (by assumption) ?tk36068
        case hy36068 => (intro w hSw; (try dsimp only at hSw); go_simp; (try with_reducible rfl))
        try simp only [Act.put, List.setIfInBounds_toArray, List.set_cons_zero, List.set_cons_succ]
        refine wpAnyH_take (i := 6) (oi := { dst := some 92, op := Go.Op.indexAddr 162 (Go.Operand.tmp 90) (Go.Operand.tmp 91), type := 0, pos := _, after := #[{ on := 4, ground := Go.Ground.data }, { on := 5, ground := Go.Ground.data }], guard := none }) (v := ?vv36069) rfl (by kernel_rfl) (by kernel_rfl) (by kernel_rfl) (fun _ _ _ h => h) (Or.inl ⟨by rfl, ?hy36069⟩) (by assumption) ?tk36069
        case hy36069 => (intro w hSw; (try dsimp only at hSw); go_simp; (try with_reducible rfl))
        try simp only [Act.put, List.setIfInBounds_toArray, List.set_cons_zero, List.set_cons_succ]
        refine wpAnyH_take (i := 7) (oi := { dst := some 93, op := Go.Op.move (Go.Operand.tmp 0), type := 43, pos := _, after := #[], guard := none }) (v := ?vv36070) rfl (by kernel_rfl) (by kernel_rfl) (by kernel_rfl) (fun _ _ _ h => h) (Or.inl ⟨by rfl, ?hy36070⟩) (by assumption) ?tk36070
        case hy36070 => (intro w hSw; (try dsimp only at hSw); go_simp; (try with_reducible rfl))
        try simp only [Act.put, List.setIfInBounds_toArray, List.set_cons_zero, List.set_cons_succ]
        refine wpAnyH_take (i := 8) (oi := { dst := some 94, op := Go.Op.nilCheck (Go.Operand.tmp 93), type := 0, pos := _, after := #[{ on := 7, ground := Go.Ground.data }], guard := none }) (v := ?vv36071) rfl (by kernel_rfl) (by kernel_rfl) (by kernel_rfl) (fun _ _ _ h => h) (Or.inl ⟨by rfl, ?hy36071⟩) (by assumption) ?tk36071
        case hy36071 => (intro w hSw; (try dsimp only at hSw); go_simp; (try with_reducible rfl))
        try simp only [Act.put, List.setIfInBounds_toArray, List.set_cons_zero, List.set_cons_succ]
        refine wpAnyH_take (i := 9) (oi := { dst := some 95, op := Go.Op.fieldAddr 75 (Go.Operand.tmp 94) 12, type := 0, pos := _, after := #[{ on := 8, ground := Go.Ground.data }], guard := none }) (v := ?vv36072) rfl (by kernel_rfl) (by kernel_rfl) (by kernel_rfl) (fun _ _ _ h => h) (Or.inl ⟨by rfl, ?hy36072⟩) (by assumption) ?tk36072
        case hy36072 => (intro w hSw; (try dsimp only at hSw); go_simp; (try with_reducible rfl))
        try simp only [Act.put, List.setIfInBounds_toArray, List.set_cons_zero, List.set_cons_succ]
        refine wpAnyH_take (i := 10) (oi := { dst := some 96, op := Go.Op.load 73 (Go.Operand.tmp 95), type := 73, pos := _, after := #[{ on := 9, ground := Go.Ground.data }], guard := none }) (v := ?vv36073) rfl (by kernel_rfl) (by kernel_rfl) (by kernel_rfl) (fun _ _ _ h => h) (Or.inl ⟨by rfl, ?hy36073⟩) (by assumption) ?tk36073
        case hy36073 => (intro w hSw; (try dsimp only at hSw); go_simp; (try with_reducible rfl))
        try simp only [Act.put, List.setIfInBounds_toArray, List.set_cons_zero, List.set_cons_succ]
        refine wpAnyH_take (i := 11) (oi := { dst := some 97, op := Go.Op.move (Go.Operand.tmp 11), type := 3, pos := _, after := #[], guard := none }) (v := ?vv36074) rfl (by kernel_rfl) (by kernel_rfl) (by kernel_rfl) (fun _ _ _ h => h) (Or.inl ⟨by rfl, ?hy36074⟩) (by assumption) ?tk36074
        case hy36074 => (intro w hSw; (try dsimp only at hSw); go_simp; (try with_reducible rfl))
        try simp only [Act.put, List.setIfInBounds_toArray, List.set_cons_zero, List.set_cons_succ]
        refine wpAnyH_take (i := 12) (oi := { dst := some 98, op := Go.Op.indexAddr 73 (Go.Operand.tmp 96) (Go.Operand.tmp 97), type := 0, pos := _, after := #[{ on := 10, ground := Go.Ground.data }, { on := 11, ground := Go.Ground.data }], guard := none }) (v := ?vv36075) rfl (by kernel_rfl) (by kernel_rfl) (by kernel_rfl) (fun _ _ _ h => h) (Or.inl ⟨by rfl, ?hy36075⟩) (by assumption) ?tk36075
        case hy36075 => (intro w hSw; (try dsimp only at hSw); go_simp; (try with_reducible rfl))
        try simp only [Act.put, List.setIfInBounds_toArray, List.set_cons_zero, List.set_cons_succ]
        refine wpAnyH_ready (rs := [13]) (by kernel_rfl) (by simp) ?_
        refine AllReadyH.cons (o := { dst := some 99, op := Go.Op.call { callee := Go.Callee.value (Go.Operand.func 61), args := #[Go.Operand.tmp 86, Go.Operand.tmp 92, Go.Operand.tmp 98], argTypes := #[43, 182, 183] }, type := 4, pos := _, after := #[{ on := 0, ground := Go.Ground.data }, { on := 6, ground := Go.Ground.data }, { on := 12, ground := Go.Ground.data }], guard := none }) rfl (fun K' hK' => ?_) AllReadyH.nil
        go_simp
        go_at_call 61
        refine had.mono ?_
        rintro e w5 ⟨rfl, D5, W5⟩
        have x1 : w5.cell? ⟨τ.P, 3, none⟩ = some (.slice (some ⟨τ.gs, 0, none⟩) ρ.m τ.cs) := D5.env.pl.c3
        have x2 : w5.cell? ⟨τ.E, 22, none⟩ = some (.slice (some ⟨τ.GC, 0, none⟩) ρ.m ρ.m) := D5.eng.get D5.r22 (by omega)
        have HX5 := hideIt (And.intro D5 W5)
        clear D5 W5 had
        clear hHeld
        refine hK'.out _ _ ⟨x1, x2⟩ (fun hHeld => ?_)
        clear hK' K'
        try simp only [Act.put, List.setIfInBounds_toArray, List.set_cons_zero, List.set_cons_succ]
        refine wpAnyH_take (i := 14) (oi := { dst := some 100, op := Go.Op.unOp Go.UnOp.not 4 (Go.Operand.tmp 99), type := 4, pos := _, after := #[{ on := 13, ground := Go.Ground.data }], guard := none }) (v := ?vv36076) rfl (by kernel_rfl) (by kernel_rfl) (by kernel_rfl) (fun _ _ _ h => h) (Or.inl ⟨by rfl, ?hy36076⟩) (by assumption) ?tk36076
        case hy36076 => (intro w hSw; (try dsimp only at hSw); go_simp; (try with_reducible rfl))
        try simp only [Act.put, List.setIfInBounds_toArray, List.set_cons_zero, List.set_cons_succ]
        refine wpAnyH_done (by kernel_rfl) ?_ _
        clear hHeld x1 x2 y1 y2
        go_wp2
        go_roundg x
        case measure => have := HXX.out; omega
        case rel =>
          obtain ⟨D6, K6, ho6, hc6, hq6, ha6, W6⟩ := HX.out
          obtain ⟨D5, W5⟩ := HX5.out
          obtain ⟨_, C, _⟩ := HQ.out
          have hx := HXX.out
          refine .inr ⟨HB.out, x, by omega, rfl, rfl, c', sh', D5, K6.keep (fun q hq => W5.block q (K6.lt hq) ?_), ho6, hc6, hq6, ha6, W6.drew.trans (Ws.of_wr W5 (.inl rfl))⟩
          rcases hq with z | z
          · have h1 := hq6 q z
            have h2 : τ.GC < w.heap.size := by obtain ⟨h, C, _⟩ := HQ.out; exact h.glt C
            omega
          · rw [z]; exact fun e => C.d2 e.symm
end Go.Proofs.Qxb6500880a
