import Derived.Test.Qxb6500877aGreatDoorWk
set_option linter.unusedVariables false
set_option linter.unusedSimpArgs false
namespace Go.Proofs.Qxb6500877aGreatDoor
open Go.RowKit

/-- The wheel with its map. -/
structure TimersAt (w : World) (B n : Nat) (s : Wheel) (f : Int → Option Int) : Prop where
  wh : WheelAt w B s
  mp : MapOf w s.mb n f
  ne : s.mb ≠ B
theorem TimersAt.drew {w : World} {B n : Nat} {s : Wheel} {f : Int → Option Int} (h : TimersAt w B n s f) : TimersAt w.drew B n s f := ⟨h.wh.drew, h.mp.drew, h.ne⟩
def freeNode (v : Int) : NodeS := ⟨0, 0, 0, 0, -1, v, -2, 0⟩
def retireF (s : Wheel) (i : Nat) : Wheel := ((s.setNd i (freeNode s.free)).pFree i).pLive (s.live - 1)
def forget (f : Int → Option Int) (id : Int) : Int → Option Int := fun j => if j = id then none else f j
theorem setNd_set (s : Wheel) (i : Nat) (a b : NodeS) : (s.setNd i a).setNd i b = s.setNd i b := by
  simp only [Wheel.setNd]
  congr 1
  funext j
  by_cases h : j = i <;> simp [h]
theorem WheelAt.putNode {w : World} {B : Nat} {s : Wheel} (h : WheelAt w B s) {i : Nat} (hi : i < 64) (n : NodeS) :
    WheelAt ((((((((w.setCell ⟨B, 2 + i * 8, none⟩ (.int .u64 n.id)).setCell ⟨B, 2 + i * 8 + 1, none⟩ (.int .i64 n.core)).setCell ⟨B, 2 + i * 8 + 2, none⟩ (.int .u64 n.dl)).setCell ⟨B, 2 + i * 8 + 3, none⟩ (.int .u64 n.ck)).setCell ⟨B, 2 + i * 8 + 4, none⟩ (.int .i16 n.pv)).setCell ⟨B, 2 + i * 8 + 5, none⟩ (.int .i16 n.nx)).setCell ⟨B, 2 + i * 8 + 6, none⟩ (.int .i8 n.lv)).setCell ⟨B, 2 + i * 8 + 7, none⟩ (.int .u8 n.sl)) B (s.setNd i n) := by
  have := ((((((((h.putId hi n.id).putCore hi n.core).putDl hi n.dl).putCk hi n.ck).putPv hi n.pv).putNx hi n.nx).putLv hi n.lv).putSl hi n.sl)
  have e : ((((((((s.nId i n.id).nCore i n.core).nDl i n.dl).nCk i n.ck).nPv i n.pv).nNx i n.nx).nLv i n.lv).nSl i n.sl) = s.setNd i n := by
    simp only [Wheel.nId, Wheel.nCore, Wheel.nDl, Wheel.nCk, Wheel.nPv, Wheel.nNx, Wheel.nLv, Wheel.nSl, setNd_set]
    simp [Wheel.setNd]
  rw [e] at this
  exact this

set_option maxHeartbeats 4000000 in
theorem retire_any {w : World} {B n : Nat} {s : Wheel} {f : Int → Option Int} {i : Nat} (T : TimersAt w B n s f) (hi : i < 64) (hid : 0 ≤ (s.nd i).id ∧ (s.nd i).id < 18446744073709551616) (hl : 0 < s.live ∧ s.live < 1000) :
    Calls Tryz.prog 185 #[.pointer (some ⟨B, 1, none⟩), .int .i16 (i : Int)] w fun e w' => e = .returned (.tuple #[]) ∧ TimersAt w' B n (retireF s i) (forget f (s.nd i).id) ∧ Mut2 B 1 1939 s.mb w w' := by
  have H := T.wh
  have hne : ¬ (s.mb = B) := T.ne
  have hne' : ¬ (B = s.mb) := fun e => T.ne e.symm
  obtain ⟨x0, x1, x2, x3, x4, x5, x6, x7⟩ := H.node hi
  obtain ⟨_, o1, o2, o3, o4⟩ := H.one
  have i0 : (0 : Int) ≤ i := by omega
  have i1 : (i : Int) < 64 := by omega
  obtain ⟨w1, hrun, hm1, ht1⟩ := MapOf.drop T.mp.drew hid.1 hid.2 0
  have H1 := H.drew.turned ht1 hne'
  have fz0 := H.frz
  go_enter Tryz.func185, Tryz.ntmps185
  go_wp2
  refine wp_region_held_drew (S := (fun w' => w'.cell? ⟨B, 517, none⟩ = some (.map (some s.mb)) ∧ w'.cell? ⟨B, 2 + i * 8, none⟩ = some (.int .u64 (s.nd i).id))) (by kernel_rfl) ⟨o4, x0⟩ (fun hHeld => ?_)
  refine wpAnyH_take (i := 0) (oi := { dst := some 4, op := Go.Op.move (Go.Operand.tmp 0), type := 212, pos := _, after := #[], guard := none }) (v := ?vv1) rfl (by kernel_rfl) (by kernel_rfl) (by kernel_rfl) (fun _ _ _ h => h) (Or.inl ⟨by rfl, ?hy1⟩) (by assumption) ?tk1
  case hy1 => (intro w hSw; (try dsimp only at hSw); go_simp; (try with_reducible rfl))
  try simp only [Act.put, List.setIfInBounds_toArray, List.set_cons_zero, List.set_cons_succ]
  refine wpAnyH_take (i := 1) (oi := { dst := some 5, op := Go.Op.nilCheck (Go.Operand.tmp 4), type := 0, pos := _, after := #[{ on := 0, ground := Go.Ground.data }], guard := none }) (v := ?vv2) rfl (by kernel_rfl) (by kernel_rfl) (by kernel_rfl) (fun _ _ _ h => h) (Or.inl ⟨by rfl, ?hy2⟩) (by assumption) ?tk2
  case hy2 => (intro w hSw; (try dsimp only at hSw); go_simp; (try with_reducible rfl))
  try simp only [Act.put, List.setIfInBounds_toArray, List.set_cons_zero, List.set_cons_succ]
  refine wpAnyH_take (i := 2) (oi := { dst := some 6, op := Go.Op.fieldAddr 168 (Go.Operand.tmp 5) 5, type := 0, pos := _, after := #[{ on := 1, ground := Go.Ground.data }], guard := none }) (v := ?vv3) rfl (by kernel_rfl) (by kernel_rfl) (by kernel_rfl) (fun _ _ _ h => h) (Or.inl ⟨by rfl, ?hy3⟩) (by assumption) ?tk3
  case hy3 => (intro w hSw; (try dsimp only at hSw); go_simp; (try with_reducible rfl))
  try simp only [Act.put, List.setIfInBounds_toArray, List.set_cons_zero, List.set_cons_succ]
  refine wpAnyH_take (i := 3) (oi := { dst := some 7, op := Go.Op.load 161 (Go.Operand.tmp 6), type := 161, pos := _, after := #[{ on := 2, ground := Go.Ground.data }], guard := none }) (v := ?vv4) rfl (by kernel_rfl) (by kernel_rfl) (by kernel_rfl) (fun _ _ _ h => h) (Or.inl ⟨by rfl, ?hy4⟩) (by assumption) ?tk4
  case hy4 => (intro w hSw; (try dsimp only at hSw); go_simp; (try with_reducible rfl))
  try simp only [Act.put, List.setIfInBounds_toArray, List.set_cons_zero, List.set_cons_succ]
  refine wpAnyH_take (i := 4) (oi := { dst := some 8, op := Go.Op.move (Go.Operand.tmp 0), type := 212, pos := _, after := #[], guard := none }) (v := ?vv5) rfl (by kernel_rfl) (by kernel_rfl) (by kernel_rfl) (fun _ _ _ h => h) (Or.inl ⟨by rfl, ?hy5⟩) (by assumption) ?tk5
  case hy5 => (intro w hSw; (try dsimp only at hSw); go_simp; (try with_reducible rfl))
  try simp only [Act.put, List.setIfInBounds_toArray, List.set_cons_zero, List.set_cons_succ]
  refine wpAnyH_take (i := 5) (oi := { dst := some 9, op := Go.Op.move (Go.Operand.tmp 1), type := 156, pos := _, after := #[], guard := none }) (v := ?vv6) rfl (by kernel_rfl) (by kernel_rfl) (by kernel_rfl) (fun _ _ _ h => h) (Or.inl ⟨by rfl, ?hy6⟩) (by assumption) ?tk6
  case hy6 => (intro w hSw; (try dsimp only at hSw); go_simp; (try with_reducible rfl))
  try simp only [Act.put, List.setIfInBounds_toArray, List.set_cons_zero, List.set_cons_succ]
  refine wpAnyH_take (i := 6) (oi := { dst := some 10, op := Go.Op.nilCheck (Go.Operand.tmp 8), type := 0, pos := _, after := #[{ on := 4, ground := Go.Ground.data }], guard := none }) (v := ?vv7) rfl (by kernel_rfl) (by kernel_rfl) (by kernel_rfl) (fun _ _ _ h => h) (Or.inl ⟨by rfl, ?hy7⟩) (by assumption) ?tk7
  case hy7 => (intro w hSw; (try dsimp only at hSw); go_simp; (try with_reducible rfl))
  try simp only [Act.put, List.setIfInBounds_toArray, List.set_cons_zero, List.set_cons_succ]
  refine wpAnyH_take (i := 7) (oi := { dst := some 11, op := Go.Op.fieldAddr 168 (Go.Operand.tmp 10) 1, type := 0, pos := _, after := #[{ on := 6, ground := Go.Ground.data }], guard := none }) (v := ?vv8) rfl (by kernel_rfl) (by kernel_rfl) (by kernel_rfl) (fun _ _ _ h => h) (Or.inl ⟨by rfl, ?hy8⟩) (by assumption) ?tk8
  case hy8 => (intro w hSw; (try dsimp only at hSw); go_simp; (try with_reducible rfl))
  try simp only [Act.put, List.setIfInBounds_toArray, List.set_cons_zero, List.set_cons_succ]
  refine wpAnyH_take (i := 8) (oi := { dst := some 12, op := Go.Op.indexAddr 160 (Go.Operand.tmp 11) (Go.Operand.tmp 9), type := 0, pos := _, after := #[{ on := 7, ground := Go.Ground.data }, { on := 5, ground := Go.Ground.data }], guard := none }) (v := ?vv9) rfl (by kernel_rfl) (by kernel_rfl) (by kernel_rfl) (fun _ _ _ h => h) (Or.inl ⟨by rfl, ?hy9⟩) (by assumption) ?tk9
  case hy9 => (intro w hSw; (try dsimp only at hSw); go_simp; (try with_reducible rfl))
  try simp only [Act.put, List.setIfInBounds_toArray, List.set_cons_zero, List.set_cons_succ]
  refine wpAnyH_take (i := 9) (oi := { dst := some 13, op := Go.Op.fieldAddr 159 (Go.Operand.tmp 12) 0, type := 0, pos := _, after := #[{ on := 8, ground := Go.Ground.data }], guard := none }) (v := ?vv10) rfl (by kernel_rfl) (by kernel_rfl) (by kernel_rfl) (fun _ _ _ h => h) (Or.inl ⟨by rfl, ?hy10⟩) (by assumption) ?tk10
  case hy10 => (intro w hSw; (try dsimp only at hSw); go_simp; (try with_reducible rfl))
  try simp only [Act.put, List.setIfInBounds_toArray, List.set_cons_zero, List.set_cons_succ]
  refine wpAnyH_take (i := 10) (oi := { dst := some 14, op := Go.Op.fieldAddr 84 (Go.Operand.tmp 13) 0, type := 0, pos := _, after := #[{ on := 9, ground := Go.Ground.data }], guard := none }) (v := ?vv11) rfl (by kernel_rfl) (by kernel_rfl) (by kernel_rfl) (fun _ _ _ h => h) (Or.inl ⟨by rfl, ?hy11⟩) (by assumption) ?tk11
  case hy11 => (intro w hSw; (try dsimp only at hSw); go_simp; (try with_reducible rfl))
  try simp only [Act.put, List.setIfInBounds_toArray, List.set_cons_zero, List.set_cons_succ]
  refine wpAnyH_take (i := 11) (oi := { dst := some 15, op := Go.Op.load 36 (Go.Operand.tmp 14), type := 36, pos := _, after := #[{ on := 10, ground := Go.Ground.data }], guard := none }) (v := ?vv12) rfl (by kernel_rfl) (by kernel_rfl) (by kernel_rfl) (fun _ _ _ h => h) (Or.inl ⟨by rfl, ?hy12⟩) (by assumption) ?tk12
  case hy12 => (intro w hSw; (try dsimp only at hSw); go_simp; (try with_reducible rfl))
  try simp only [Act.put, List.setIfInBounds_toArray, List.set_cons_zero, List.set_cons_succ]
  refine wpAnyH_ready (rs := [12]) (by kernel_rfl) (by simp) ?_
  refine AllReadyH.cons (o := { dst := none, op := Go.Op.call { callee := Go.Callee.builtin Go.Builtin.delete, args := #[Go.Operand.tmp 7, Go.Operand.tmp 15], argTypes := #[161, 36] }, type := 0, pos := _, after := #[{ on := 3, ground := Go.Ground.data }, { on := 11, ground := Go.Ground.data }], guard := none }) rfl (fun K' hK' => ?_) AllReadyH.nil
  go_simp
  clear hHeld
  refine hK'.out _ _ ⟨(H1.one).2.2.2.2, (H1.node hi).1⟩ (fun hHeld => ?_)
  clear hK' K'
  try simp only [Act.put, List.setIfInBounds_toArray, List.set_cons_zero, List.set_cons_succ]
  refine wpAnyH_done (by kernel_rfl) ?_ _
  clear x0 x1 x2 x3 x4 x5 x6 x7 o1 o2 o3 o4 fz0
  obtain ⟨x0, x1, x2, x3, x4, x5, x6, x7⟩ := H1.node hi
  obtain ⟨_, o1, o2, o3, o4⟩ := H1.one
  have fz := H1.frz
  have n0 : ¬ (2 + i * 8 = 514) := by omega
  have n1 : ¬ (514 = 2 + i * 8) := by omega
  have n2 : ¬ (2 + i * 8 = 515) := by omega
  have n3 : ¬ (515 = 2 + i * 8) := by omega
  have n4 : ¬ (2 + i * 8 + 1 = 514) := by omega
  have n5 : ¬ (514 = 2 + i * 8 + 1) := by omega
  have n6 : ¬ (2 + i * 8 + 1 = 515) := by omega
  have n7 : ¬ (515 = 2 + i * 8 + 1) := by omega
  have n8 : ¬ (2 + i * 8 + 2 = 514) := by omega
  have n9 : ¬ (514 = 2 + i * 8 + 2) := by omega
  have n10 : ¬ (2 + i * 8 + 2 = 515) := by omega
  have n11 : ¬ (515 = 2 + i * 8 + 2) := by omega
  have n12 : ¬ (2 + i * 8 + 3 = 514) := by omega
  have n13 : ¬ (514 = 2 + i * 8 + 3) := by omega
  have n14 : ¬ (2 + i * 8 + 3 = 515) := by omega
  have n15 : ¬ (515 = 2 + i * 8 + 3) := by omega
  have n16 : ¬ (2 + i * 8 + 4 = 514) := by omega
  have n17 : ¬ (514 = 2 + i * 8 + 4) := by omega
  have n18 : ¬ (2 + i * 8 + 4 = 515) := by omega
  have n19 : ¬ (515 = 2 + i * 8 + 4) := by omega
  have n20 : ¬ (2 + i * 8 + 5 = 514) := by omega
  have n21 : ¬ (514 = 2 + i * 8 + 5) := by omega
  have n22 : ¬ (2 + i * 8 + 5 = 515) := by omega
  have n23 : ¬ (515 = 2 + i * 8 + 5) := by omega
  have n24 : ¬ (2 + i * 8 + 6 = 514) := by omega
  have n25 : ¬ (514 = 2 + i * 8 + 6) := by omega
  have n26 : ¬ (2 + i * 8 + 6 = 515) := by omega
  have n27 : ¬ (515 = 2 + i * 8 + 6) := by omega
  have n28 : ¬ (2 + i * 8 + 7 = 514) := by omega
  have n29 : ¬ (514 = 2 + i * 8 + 7) := by omega
  have n30 : ¬ (2 + i * 8 + 7 = 515) := by omega
  have n31 : ¬ (515 = 2 + i * 8 + 7) := by omega
  have q0 : ¬ (2 + i * 8 = 2 + i * 8 + 1) := by omega
  have q1 : ¬ (2 + i * 8 + 1 = 2 + i * 8) := by omega
  have q2 : ¬ (2 + i * 8 = 2 + i * 8 + 2) := by omega
  have q3 : ¬ (2 + i * 8 + 2 = 2 + i * 8) := by omega
  have q4 : ¬ (2 + i * 8 = 2 + i * 8 + 3) := by omega
  have q5 : ¬ (2 + i * 8 + 3 = 2 + i * 8) := by omega
  have q6 : ¬ (2 + i * 8 = 2 + i * 8 + 4) := by omega
  have q7 : ¬ (2 + i * 8 + 4 = 2 + i * 8) := by omega
  have q8 : ¬ (2 + i * 8 = 2 + i * 8 + 5) := by omega
  have q9 : ¬ (2 + i * 8 + 5 = 2 + i * 8) := by omega
  have q10 : ¬ (2 + i * 8 = 2 + i * 8 + 6) := by omega
  have q11 : ¬ (2 + i * 8 + 6 = 2 + i * 8) := by omega
  have q12 : ¬ (2 + i * 8 = 2 + i * 8 + 7) := by omega
  have q13 : ¬ (2 + i * 8 + 7 = 2 + i * 8) := by omega
  have q14 : ¬ (2 + i * 8 + 1 = 2 + i * 8 + 2) := by omega
  have q15 : ¬ (2 + i * 8 + 2 = 2 + i * 8 + 1) := by omega
  have q16 : ¬ (2 + i * 8 + 1 = 2 + i * 8 + 3) := by omega
  have q17 : ¬ (2 + i * 8 + 3 = 2 + i * 8 + 1) := by omega
  have q18 : ¬ (2 + i * 8 + 1 = 2 + i * 8 + 4) := by omega
  have q19 : ¬ (2 + i * 8 + 4 = 2 + i * 8 + 1) := by omega
  have q20 : ¬ (2 + i * 8 + 1 = 2 + i * 8 + 5) := by omega
  have q21 : ¬ (2 + i * 8 + 5 = 2 + i * 8 + 1) := by omega
  have q22 : ¬ (2 + i * 8 + 1 = 2 + i * 8 + 6) := by omega
  have q23 : ¬ (2 + i * 8 + 6 = 2 + i * 8 + 1) := by omega
  have q24 : ¬ (2 + i * 8 + 1 = 2 + i * 8 + 7) := by omega
  have q25 : ¬ (2 + i * 8 + 7 = 2 + i * 8 + 1) := by omega
  have q26 : ¬ (2 + i * 8 + 2 = 2 + i * 8 + 3) := by omega
  have q27 : ¬ (2 + i * 8 + 3 = 2 + i * 8 + 2) := by omega
  have q28 : ¬ (2 + i * 8 + 2 = 2 + i * 8 + 4) := by omega
  have q29 : ¬ (2 + i * 8 + 4 = 2 + i * 8 + 2) := by omega
  have q30 : ¬ (2 + i * 8 + 2 = 2 + i * 8 + 5) := by omega
  have q31 : ¬ (2 + i * 8 + 5 = 2 + i * 8 + 2) := by omega
  have q32 : ¬ (2 + i * 8 + 2 = 2 + i * 8 + 6) := by omega
  have q33 : ¬ (2 + i * 8 + 6 = 2 + i * 8 + 2) := by omega
  have q34 : ¬ (2 + i * 8 + 2 = 2 + i * 8 + 7) := by omega
  have q35 : ¬ (2 + i * 8 + 7 = 2 + i * 8 + 2) := by omega
  have q36 : ¬ (2 + i * 8 + 3 = 2 + i * 8 + 4) := by omega
  have q37 : ¬ (2 + i * 8 + 4 = 2 + i * 8 + 3) := by omega
  have q38 : ¬ (2 + i * 8 + 3 = 2 + i * 8 + 5) := by omega
  have q39 : ¬ (2 + i * 8 + 5 = 2 + i * 8 + 3) := by omega
  have q40 : ¬ (2 + i * 8 + 3 = 2 + i * 8 + 6) := by omega
  have q41 : ¬ (2 + i * 8 + 6 = 2 + i * 8 + 3) := by omega
  have q42 : ¬ (2 + i * 8 + 3 = 2 + i * 8 + 7) := by omega
  have q43 : ¬ (2 + i * 8 + 7 = 2 + i * 8 + 3) := by omega
  have q44 : ¬ (2 + i * 8 + 4 = 2 + i * 8 + 5) := by omega
  have q45 : ¬ (2 + i * 8 + 5 = 2 + i * 8 + 4) := by omega
  have q46 : ¬ (2 + i * 8 + 4 = 2 + i * 8 + 6) := by omega
  have q47 : ¬ (2 + i * 8 + 6 = 2 + i * 8 + 4) := by omega
  have q48 : ¬ (2 + i * 8 + 4 = 2 + i * 8 + 7) := by omega
  have q49 : ¬ (2 + i * 8 + 7 = 2 + i * 8 + 4) := by omega
  have q50 : ¬ (2 + i * 8 + 5 = 2 + i * 8 + 6) := by omega
  have q51 : ¬ (2 + i * 8 + 6 = 2 + i * 8 + 5) := by omega
  have q52 : ¬ (2 + i * 8 + 5 = 2 + i * 8 + 7) := by omega
  have q53 : ¬ (2 + i * 8 + 7 = 2 + i * 8 + 5) := by omega
  have q54 : ¬ (2 + i * 8 + 6 = 2 + i * 8 + 7) := by omega
  have q55 : ¬ (2 + i * 8 + 7 = 2 + i * 8 + 6) := by omega
  have hwl : IntKind.i64.wrap (s.live - 1) = s.live - 1 := wrap_i64 (by omega)
  have p0 : ¬ ((514 : Nat) = 515) := by omega
  have p1 : ¬ ((515 : Nat) = 514) := by omega
  go_wp2
  refine wp_region_held_drew (S := (fun w' => w'.cell? ⟨B, 514, none⟩ = some (.int .i16 s.free))) (by kernel_rfl) o1 (fun hHeld => ?_)
  refine wpAnyH_take (i := 0) (oi := { dst := some 16, op := Go.Op.move (Go.Operand.tmp 0), type := 212, pos := _, after := #[], guard := none }) (v := ?vv13) rfl (by kernel_rfl) (by kernel_rfl) (by kernel_rfl) (fun _ _ _ h => h) (Or.inl ⟨by rfl, ?hy13⟩) (by assumption) ?tk13
  case hy13 => (intro w hSw; (try dsimp only at hSw); go_simp; (try with_reducible rfl))
  try simp only [Act.put, List.setIfInBounds_toArray, List.set_cons_zero, List.set_cons_succ]
  refine wpAnyH_take (i := 1) (oi := { dst := some 17, op := Go.Op.move (Go.Operand.tmp 1), type := 156, pos := _, after := #[], guard := none }) (v := ?vv14) rfl (by kernel_rfl) (by kernel_rfl) (by kernel_rfl) (fun _ _ _ h => h) (Or.inl ⟨by rfl, ?hy14⟩) (by assumption) ?tk14
  case hy14 => (intro w hSw; (try dsimp only at hSw); go_simp; (try with_reducible rfl))
  try simp only [Act.put, List.setIfInBounds_toArray, List.set_cons_zero, List.set_cons_succ]
  refine wpAnyH_take (i := 2) (oi := { dst := some 18, op := Go.Op.move (Go.Operand.tmp 0), type := 212, pos := _, after := #[], guard := none }) (v := ?vv15) rfl (by kernel_rfl) (by kernel_rfl) (by kernel_rfl) (fun _ _ _ h => h) (Or.inl ⟨by rfl, ?hy15⟩) (by assumption) ?tk15
  case hy15 => (intro w hSw; (try dsimp only at hSw); go_simp; (try with_reducible rfl))
  try simp only [Act.put, List.setIfInBounds_toArray, List.set_cons_zero, List.set_cons_succ]
  refine wpAnyH_take (i := 3) (oi := { dst := some 19, op := Go.Op.nilCheck (Go.Operand.tmp 18), type := 0, pos := _, after := #[{ on := 2, ground := Go.Ground.data }], guard := none }) (v := ?vv16) rfl (by kernel_rfl) (by kernel_rfl) (by kernel_rfl) (fun _ _ _ h => h) (Or.inl ⟨by rfl, ?hy16⟩) (by assumption) ?tk16
  case hy16 => (intro w hSw; (try dsimp only at hSw); go_simp; (try with_reducible rfl))
  try simp only [Act.put, List.setIfInBounds_toArray, List.set_cons_zero, List.set_cons_succ]
  refine wpAnyH_take (i := 4) (oi := { dst := some 20, op := Go.Op.fieldAddr 168 (Go.Operand.tmp 19) 2, type := 0, pos := _, after := #[{ on := 3, ground := Go.Ground.data }], guard := none }) (v := ?vv17) rfl (by kernel_rfl) (by kernel_rfl) (by kernel_rfl) (fun _ _ _ h => h) (Or.inl ⟨by rfl, ?hy17⟩) (by assumption) ?tk17
  case hy17 => (intro w hSw; (try dsimp only at hSw); go_simp; (try with_reducible rfl))
  try simp only [Act.put, List.setIfInBounds_toArray, List.set_cons_zero, List.set_cons_succ]
  refine wpAnyH_take (i := 5) (oi := { dst := some 21, op := Go.Op.load 156 (Go.Operand.tmp 20), type := 156, pos := _, after := #[{ on := 4, ground := Go.Ground.data }], guard := none }) (v := ?vv18) rfl (by kernel_rfl) (by kernel_rfl) (by kernel_rfl) (fun _ _ _ h => h) (Or.inl ⟨by rfl, ?hy18⟩) (by assumption) ?tk18
  case hy18 => (intro w hSw; (try dsimp only at hSw); go_simp; (try with_reducible rfl))
  try simp only [Act.put, List.setIfInBounds_toArray, List.set_cons_zero, List.set_cons_succ]
  refine wpAnyH_take (i := 6) (oi := { dst := some 22, op := Go.Op.build 159 #[(1, Go.Operand.const (Go.Value.int Go.IntKind.i16 (-1))), (2, Go.Operand.tmp 21), (3, Go.Operand.const (Go.Value.int Go.IntKind.i8 (-2)))], type := 159, pos := _, after := #[{ on := 5, ground := Go.Ground.data }], guard := none }) (v := ?vv19) rfl (by kernel_rfl) (by kernel_rfl) (by kernel_rfl) (fun _ _ _ h => h) (Or.inl ⟨by rfl, ?hy19⟩) (by assumption) ?tk19
  case hy19 => (intro w hSw; (try dsimp only at hSw); go_simp; (try with_reducible rfl))
  try simp only [Act.put, List.setIfInBounds_toArray, List.set_cons_zero, List.set_cons_succ]
  refine wpAnyH_take (i := 7) (oi := { dst := some 23, op := Go.Op.nilCheck (Go.Operand.tmp 16), type := 0, pos := _, after := #[{ on := 0, ground := Go.Ground.data }], guard := none }) (v := ?vv20) rfl (by kernel_rfl) (by kernel_rfl) (by kernel_rfl) (fun _ _ _ h => h) (Or.inl ⟨by rfl, ?hy20⟩) (by assumption) ?tk20
  case hy20 => (intro w hSw; (try dsimp only at hSw); go_simp; (try with_reducible rfl))
  try simp only [Act.put, List.setIfInBounds_toArray, List.set_cons_zero, List.set_cons_succ]
  refine wpAnyH_take (i := 8) (oi := { dst := some 24, op := Go.Op.fieldAddr 168 (Go.Operand.tmp 23) 1, type := 0, pos := _, after := #[{ on := 7, ground := Go.Ground.data }], guard := none }) (v := ?vv21) rfl (by kernel_rfl) (by kernel_rfl) (by kernel_rfl) (fun _ _ _ h => h) (Or.inl ⟨by rfl, ?hy21⟩) (by assumption) ?tk21
  case hy21 => (intro w hSw; (try dsimp only at hSw); go_simp; (try with_reducible rfl))
  try simp only [Act.put, List.setIfInBounds_toArray, List.set_cons_zero, List.set_cons_succ]
  refine wpAnyH_take (i := 9) (oi := { dst := some 25, op := Go.Op.indexAddr 160 (Go.Operand.tmp 24) (Go.Operand.tmp 17), type := 0, pos := _, after := #[{ on := 8, ground := Go.Ground.data }, { on := 1, ground := Go.Ground.data }, { on := 0, ground := Go.Ground.phase }, { on := 1, ground := Go.Ground.phase }, { on := 2, ground := Go.Ground.phase }, { on := 3, ground := Go.Ground.phase }, { on := 4, ground := Go.Ground.phase }, { on := 5, ground := Go.Ground.phase }, { on := 6, ground := Go.Ground.phase }], guard := none }) (v := ?vv22) rfl (by kernel_rfl) (by kernel_rfl) (by kernel_rfl) (fun _ _ _ h => h) (Or.inl ⟨by rfl, ?hy22⟩) (by assumption) ?tk22
  case hy22 => (intro w hSw; (try dsimp only at hSw); go_simp; (try with_reducible rfl))
  try simp only [Act.put, List.setIfInBounds_toArray, List.set_cons_zero, List.set_cons_succ]
  refine wpAnyH_ready (rs := [10]) (by kernel_rfl) (by simp) ?_
  refine AllReadyH.cons (o := { dst := none, op := Go.Op.store 159 (Go.Operand.tmp 25) (Go.Operand.tmp 22), type := 0, pos := _, after := #[{ on := 9, ground := Go.Ground.data }, { on := 6, ground := Go.Ground.data }, { on := 0, ground := Go.Ground.phase }, { on := 1, ground := Go.Ground.phase }, { on := 2, ground := Go.Ground.phase }, { on := 3, ground := Go.Ground.phase }, { on := 4, ground := Go.Ground.phase }, { on := 5, ground := Go.Ground.phase }, { on := 6, ground := Go.Ground.phase }], guard := none }) rfl (fun K' hK' => ?_) AllReadyH.nil
  go_simp
  clear hHeld
  refine hK'.out _ _ (by go_simp) (fun hHeld => ?_)
  clear hK' K'
  try simp only [Act.put, List.setIfInBounds_toArray, List.set_cons_zero, List.set_cons_succ]
  refine wpAnyH_done (by kernel_rfl) ?_ _
  go_wp2
  go_end0
  have M := (((((((((((Mut.refl B 1 1939 w1).setCell (o := 2 + i * 8) (by omega) (by omega) (.int .u64 0)).setCell (o := 2 + i * 8 + 1) (by omega) (by omega) (.int .i64 0)).setCell (o := 2 + i * 8 + 2) (by omega) (by omega) (.int .u64 0)).setCell (o := 2 + i * 8 + 3) (by omega) (by omega) (.int .u64 0)).setCell (o := 2 + i * 8 + 4) (by omega) (by omega) (.int .i16 (-1))).setCell (o := 2 + i * 8 + 5) (by omega) (by omega) (.int .i16 s.free)).setCell (o := 2 + i * 8 + 6) (by omega) (by omega) (.int .i8 (-2))).setCell (o := 2 + i * 8 + 7) (by omega) (by omega) (.int .u8 0)).setCell (o := 514) (by omega) (by omega) (.int .i16 i)).setCell (o := 515) (by omega) (by omega) (.int .i64 (s.live - 1))).drew
  refine ⟨rfl, ⟨(((H1.putNode hi (freeNode s.free)).putFree _).putLive _).drew, hm1.mut M hne, hne⟩, ((Mut2.refl B 1 1939 s.mb w).drew.trans (turned_mut ht1 hne')).trans M.to2⟩

end Go.Proofs.Qxb6500877aGreatDoor
