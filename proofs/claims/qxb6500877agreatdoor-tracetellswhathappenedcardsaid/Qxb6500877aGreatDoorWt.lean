import Derived.Test.Qxb6500877aGreatDoorWs
set_option linter.unusedVariables false
set_option linter.unusedSimpArgs false
namespace Go.Proofs.Qxb6500877aGreatDoor
open Go.RowKit

set_option maxHeartbeats 8000000 in
theorem open_any {w : World} {B n base k z a m : Nat} {s : Wheel} {L : Option (Nat × Nat) → List Nat} {fr : List Nat} {f : Int → Option Int} {l : List FiredS} {v : Value} (T : TimersAt w B n s f) (I : WInv s L fr f []) (hk : k < 11) (hz : z < 64) (F : FiredAt w base v l) (hl : l.length + a = fr.length) (hco : ∀ e ∈ l, 0 ≤ e.core ∧ e.core < 4)
    (hB : B < base) (hm : s.mb < base) (hb : base ≤ w.heap.size) (em : s.now = m) (hst : ∀ y ∈ L (some (k, z)), ∀ d : Nat, (s.nd y).dl = d → m ≤ d ∧ d / 64 ^ k = m / 64 ^ k) :
    Calls Tryz.prog 171 #[.pointer (some ⟨B, 1, none⟩), .int .i64 (k : Int), .int .i64 (z : Int), v] w fun e w' => ∃ v' s' L' fr' f' l' vi, e = .returned v' ∧ OpenSt w B n base k s a (L (some (k, z))) (L (some (k, z))) [] vi s' L' fr' f' l' v' w' := by
  have hr : lOk (some (k, z)) := ⟨hk, hz⟩
  have hnc : NC s (s.lh (some (k, z))) (L (some (k, z))) := seg_nc _ _ _ _ (I.dll _ hr)
  have k0 : (0 : Int) ≤ k := by omega
  have k1 : (k : Int) < 11 := by omega
  have z0 : (0 : Int) ≤ z := by omega
  have z1 : (z : Int) < 64 := by omega
  have HST : Hid (∀ y ∈ L (some (k, z)), ∀ d : Nat, (s.nd y).dl = d → m ≤ d ∧ d / 64 ^ k = m / 64 ^ k) := hst
  have HCO : Hid (∀ e ∈ l, 0 ≤ e.core ∧ e.core < 4) := hco
  clear hst hco
  go_enter Tryz.func171, Tryz.ntmps171
  go_wp2_with fail
  refine (take_any (r := some (k, z)) T.wh hr hnc).mono ?_
  rintro e w1 ⟨rfl, H1, M1⟩
  have o1 := H1.bits hk
  rw [show (((markL s (L (some (k, z)))).setLh (some (k, z)) (-1)).setLt (some (k, z)) (-1)).occ k = s.occ k from congrFun (markL_eq s (L (some (k, z)))).2.2.2.2.1 k] at o1
  have fz := H1.frz
  have hwz : IntKind.u64.wrap (z : Int) = z := wrap_u64 (by omega)
  go_wp2_with fail
  refine wp_region_held_drew (S := (fun _ => True)) (by kernel_rfl) trivial (fun hHeld => ?_)
  refine wpAnyH_take (i := 0) (oi := { dst := some 20, op := Go.Op.move (Go.Operand.tmp 0), type := 212, pos := _, after := #[], guard := none }) (v := ?vv1) rfl (by kernel_rfl) (by kernel_rfl) (by kernel_rfl) (fun _ _ _ h => h) (Or.inl ⟨by rfl, ?hy1⟩) (by assumption) ?tk1
  case hy1 => (intro w hSw; (try dsimp only at hSw); go_simp; (try with_reducible rfl))
  try simp only [Act.put, List.setIfInBounds_toArray, List.set_cons_zero, List.set_cons_succ]
  refine wpAnyH_take (i := 1) (oi := { dst := some 21, op := Go.Op.move (Go.Operand.tmp 1), type := 3, pos := _, after := #[], guard := none }) (v := ?vv2) rfl (by kernel_rfl) (by kernel_rfl) (by kernel_rfl) (fun _ _ _ h => h) (Or.inl ⟨by rfl, ?hy2⟩) (by assumption) ?tk2
  case hy2 => (intro w hSw; (try dsimp only at hSw); go_simp; (try with_reducible rfl))
  try simp only [Act.put, List.setIfInBounds_toArray, List.set_cons_zero, List.set_cons_succ]
  refine wpAnyH_take (i := 2) (oi := { dst := some 22, op := Go.Op.nilCheck (Go.Operand.tmp 20), type := 0, pos := _, after := #[{ on := 0, ground := Go.Ground.data }], guard := none }) (v := ?vv3) rfl (by kernel_rfl) (by kernel_rfl) (by kernel_rfl) (fun _ _ _ h => h) (Or.inl ⟨by rfl, ?hy3⟩) (by assumption) ?tk3
  case hy3 => (intro w hSw; (try dsimp only at hSw); go_simp; (try with_reducible rfl))
  try simp only [Act.put, List.setIfInBounds_toArray, List.set_cons_zero, List.set_cons_succ]
  refine wpAnyH_take (i := 3) (oi := { dst := some 23, op := Go.Op.fieldAddr 168 (Go.Operand.tmp 22) 8, type := 0, pos := _, after := #[{ on := 2, ground := Go.Ground.data }], guard := none }) (v := ?vv4) rfl (by kernel_rfl) (by kernel_rfl) (by kernel_rfl) (fun _ _ _ h => h) (Or.inl ⟨by rfl, ?hy4⟩) (by assumption) ?tk4
  case hy4 => (intro w hSw; (try dsimp only at hSw); go_simp; (try with_reducible rfl))
  try simp only [Act.put, List.setIfInBounds_toArray, List.set_cons_zero, List.set_cons_succ]
  refine wpAnyH_take (i := 4) (oi := { dst := some 24, op := Go.Op.indexAddr 166 (Go.Operand.tmp 23) (Go.Operand.tmp 21), type := 0, pos := _, after := #[{ on := 3, ground := Go.Ground.data }, { on := 1, ground := Go.Ground.data }], guard := none }) (v := ?vv5) rfl (by kernel_rfl) (by kernel_rfl) (by kernel_rfl) (fun _ _ _ h => h) (Or.inl ⟨by rfl, ?hy5⟩) (by assumption) ?tk5
  case hy5 => (intro w hSw; (try dsimp only at hSw); go_simp; (try with_reducible rfl))
  try simp only [Act.put, List.setIfInBounds_toArray, List.set_cons_zero, List.set_cons_succ]
  refine wpAnyH_take (i := 6) (oi := { dst := some 26, op := Go.Op.move (Go.Operand.tmp 2), type := 3, pos := _, after := #[], guard := none }) (v := ?vv6) rfl (by kernel_rfl) (by kernel_rfl) (by kernel_rfl) (fun _ _ _ h => h) (Or.inl ⟨by rfl, ?hy6⟩) (by assumption) ?tk6
  case hy6 => (intro w hSw; (try dsimp only at hSw); go_simp; (try with_reducible rfl))
  try simp only [Act.put, List.setIfInBounds_toArray, List.set_cons_zero, List.set_cons_succ]
  refine wpAnyH_take (i := 7) (oi := { dst := some 27, op := Go.Op.convert 3 275 (Go.Operand.tmp 26), type := 275, pos := _, after := #[{ on := 6, ground := Go.Ground.data }], guard := none }) (v := ?vv7) rfl (by kernel_rfl) (by kernel_rfl) (by kernel_rfl) (fun _ _ _ h => h) (Or.inl ⟨by rfl, ?hy7⟩) (by assumption) ?tk7
  case hy7 => (intro w hSw; (try dsimp only at hSw); go_simp; (try with_reducible rfl))
  try simp only [Act.put, List.setIfInBounds_toArray, List.set_cons_zero, List.set_cons_succ]
  refine wpAnyH_take (i := 8) (oi := { dst := some 28, op := Go.Op.binOp Go.BinOp.shl 28 (Go.Operand.const (Go.Value.int Go.IntKind.u64 1)) (Go.Operand.tmp 27) 275, type := 28, pos := _, after := #[{ on := 7, ground := Go.Ground.data }], guard := none }) (v := ?vv8) rfl (by kernel_rfl) (by kernel_rfl) (by kernel_rfl) (fun _ _ _ h => h) (Or.inl ⟨by rfl, ?hy8⟩) (by assumption) ?tk8
  case hy8 => (intro w hSw; (try dsimp only at hSw); go_simp; (try with_reducible rfl))
  try simp only [Act.put, List.setIfInBounds_toArray, List.set_cons_zero, List.set_cons_succ]
  refine wpAnyH_take (i := 10) (oi := { dst := some 30, op := Go.Op.nilCheck (Go.Operand.tmp 20), type := 0, pos := _, after := #[{ on := 0, ground := Go.Ground.data }], guard := none }) (v := ?vv9) rfl (by kernel_rfl) (by kernel_rfl) (by kernel_rfl) (fun _ _ _ h => h) (Or.inl ⟨by rfl, ?hy9⟩) (by assumption) ?tk9
  case hy9 => (intro w hSw; (try dsimp only at hSw); go_simp; (try with_reducible rfl))
  try simp only [Act.put, List.setIfInBounds_toArray, List.set_cons_zero, List.set_cons_succ]
  refine wpAnyH_take (i := 11) (oi := { dst := some 31, op := Go.Op.fieldAddr 168 (Go.Operand.tmp 30) 8, type := 0, pos := _, after := #[{ on := 10, ground := Go.Ground.data }], guard := none }) (v := ?vv10) rfl (by kernel_rfl) (by kernel_rfl) (by kernel_rfl) (fun _ _ _ h => h) (Or.inl ⟨by rfl, ?hy10⟩) (by assumption) ?tk10
  case hy10 => (intro w hSw; (try dsimp only at hSw); go_simp; (try with_reducible rfl))
  try simp only [Act.put, List.setIfInBounds_toArray, List.set_cons_zero, List.set_cons_succ]
  refine wpAnyH_ready (rs := [5]) (by kernel_rfl) (by simp) ?_
  refine AllReadyH.cons (o := { dst := some 25, op := Go.Op.load 28 (Go.Operand.tmp 24), type := 28, pos := _, after := #[{ on := 4, ground := Go.Ground.data }], guard := none }) rfl (fun K' hK' => ?_) AllReadyH.nil
  go_simp
  clear hHeld
  refine hK'.out _ _ trivial (fun hHeld => ?_)
  clear hK' K'
  try simp only [Act.put, List.setIfInBounds_toArray, List.set_cons_zero, List.set_cons_succ]
  refine wpAnyH_take (i := 9) (oi := { dst := some 29, op := Go.Op.binOp Go.BinOp.andNot 28 (Go.Operand.tmp 25) (Go.Operand.tmp 28) 28, type := 28, pos := _, after := #[{ on := 5, ground := Go.Ground.data }, { on := 8, ground := Go.Ground.data }], guard := none }) (v := ?vv11) rfl (by kernel_rfl) (by kernel_rfl) (by kernel_rfl) (fun _ _ _ h => h) (Or.inl ⟨by rfl, ?hy11⟩) (by assumption) ?tk11
  case hy11 => (intro w hSw; (try dsimp only at hSw); go_simp; (try with_reducible rfl))
  try simp only [Act.put, List.setIfInBounds_toArray, List.set_cons_zero, List.set_cons_succ]
  refine wpAnyH_take (i := 12) (oi := { dst := some 32, op := Go.Op.indexAddr 166 (Go.Operand.tmp 31) (Go.Operand.tmp 21), type := 0, pos := _, after := #[{ on := 11, ground := Go.Ground.data }, { on := 1, ground := Go.Ground.data }, { on := 0, ground := Go.Ground.phase }, { on := 1, ground := Go.Ground.phase }, { on := 2, ground := Go.Ground.phase }, { on := 3, ground := Go.Ground.phase }, { on := 4, ground := Go.Ground.phase }, { on := 5, ground := Go.Ground.phase }, { on := 6, ground := Go.Ground.phase }, { on := 7, ground := Go.Ground.phase }, { on := 8, ground := Go.Ground.phase }, { on := 9, ground := Go.Ground.phase }], guard := none }) (v := ?vv12) rfl (by kernel_rfl) (by kernel_rfl) (by kernel_rfl) (fun _ _ _ h => h) (Or.inl ⟨by rfl, ?hy12⟩) (by assumption) ?tk12
  case hy12 => (intro w hSw; (try dsimp only at hSw); go_simp; (try with_reducible rfl))
  try simp only [Act.put, List.setIfInBounds_toArray, List.set_cons_zero, List.set_cons_succ]
  refine wpAnyH_ready (rs := [13]) (by kernel_rfl) (by simp) ?_
  refine AllReadyH.cons (o := { dst := none, op := Go.Op.store 28 (Go.Operand.tmp 32) (Go.Operand.tmp 29), type := 0, pos := _, after := #[{ on := 12, ground := Go.Ground.data }, { on := 9, ground := Go.Ground.data }, { on := 0, ground := Go.Ground.phase }, { on := 1, ground := Go.Ground.phase }, { on := 2, ground := Go.Ground.phase }, { on := 3, ground := Go.Ground.phase }, { on := 4, ground := Go.Ground.phase }, { on := 5, ground := Go.Ground.phase }, { on := 6, ground := Go.Ground.phase }, { on := 7, ground := Go.Ground.phase }, { on := 8, ground := Go.Ground.phase }, { on := 9, ground := Go.Ground.phase }], guard := none }) rfl (fun K' hK' => ?_) AllReadyH.nil
  go_simp
  clear hHeld
  refine hK'.out _ _ trivial (fun hHeld => ?_)
  clear hK' K'
  try simp only [Act.put, List.setIfInBounds_toArray, List.set_cons_zero, List.set_cons_succ]
  refine wpAnyH_done (by kernel_rfl) ?_ _
  have R0 : OpenSt w B n base k s a (L (some (k, z))) [] (L (some (k, z))) (s.lh (some (k, z))) (taken s (some (k, z)) (L (some (k, z))) (fun j => if j = k then notOcc (s.occ k) z else (markL s (L (some (k, z)))).occ j)) (putL L (some (k, z)) []) fr f l v ((w1.setCell ⟨B, 1928 + k, none⟩ (.int .u64 (notOcc (s.occ k) z))).drew) := by
    refine OpenSt.start T I hr F hl HCO.out hB hb (M1.setCell (by omega) (by omega) _).drew (H1.putOcc hk _).drew (fun j hj => ?_)
    obtain ⟨o, g1, g2, g3⟩ := I.occ j hj
    by_cases e : j = k
    · subst e
      obtain ⟨o', q1, q2, q3⟩ := notOcc_nat g2 hz
      refine ⟨o', by simp only [if_true]; rw [g1]; exact q1, q2, fun y hy => ?_⟩
      rw [q3 y hy, g3 y hy]
      by_cases ey : y = z
      · subst ey; rw [putL_same]; simp
      · rw [putL_other _ _ (by simp [ey])]; simp [ey]
    · refine ⟨o, ?_, g2, fun y hy => ?_⟩
      · simp only [if_neg e]
        rw [(markL_eq s (L (some (k, z)))).2.2.2.2.1]
        exact g1
      · rw [putL_other _ _ (by simp [e])]
        exact g3 y hy
  have M1' : Mut B 1 1939 w w1 := M1
  clear H1 o1 fz hwz M1 hnc F hl HCO
  go_wp2_with fail
  go_loopg [9, 3] (L (some (k, z))).length (fun g a9 a3 wr => ∃ ys xs vi s' L' fr' f' l' v', a9 = .int .i16 vi ∧ a3 = v' ∧ xs.length = g ∧ OpenSt w B n base k s a (L (some (k, z))) ys xs vi s' L' fr' f' l' v' wr)
  case atStart => exact ⟨_, _, _, _, _, _, _, _, _, rfl, rfl, rfl, R0⟩
  case round =>
    clear R0
    obtain ⟨ys, xs, vi, s', L', fr', f', l', v', rfl, rfl, hxl, R⟩ := hrel
    match xs, R with
    | [], R =>
      have hv : vi = -1 := R.nc
      subst hv
      clear hxl
      go_wp2
      go_ret
      refine ⟨_, s', L', fr', f', l', -1, rfl, ?_⟩
      have e : L (some (k, z)) = ys := by have := R.sp; simpa using this
      rw [← e] at R
      exact R
    | x :: xs, R =>
      obtain ⟨hv, hx, _⟩ := R.nc
      subst hv
      have x0 : (0 : Int) ≤ x := by omega
      have x1 : (x : Int) < 64 := by omega
      have hxb : ((x : Int) != -1) = true := by simp <;> omega
      obtain ⟨_, _, x2, _, x4, x5, _, _⟩ := R.T.wh.node hx
      obtain ⟨c0, _⟩ := R.T.wh.one
      have fz := R.T.wh.frz
      have hid := R.I.ids x hx
      have hroom := R.I.room
      have hll : l'.length < 100000 := by
        have h1 := R.len
        have h2 := nodup_le 64 fr' R.I.frn (NC_lt _ _ R.I.fre)
        omega
      have hm' : s'.mb < base := by rw [R.mb]; exact hm
      by_cases hd : (s'.nd x).dl = s'.now
      · have hdb : ((s'.nd x).dl == s'.now) = true := by simpa using hd
        have HD : Hid ((s'.nd x).dl = s'.now) := hd
        clear hd
        go_wp2_with fail
        go_region_held3 (fun w' => w'.cell? ⟨B, 2 + x * 8 + 2, none⟩ = some (.int .u64 (s'.nd x).dl) ∧ w'.cell? ⟨B, 1, none⟩ = some (.int .u64 s'.now)) (exact ⟨x2, c0⟩) (fail)
        go_wp2_with fail
        refine (expire_any R.T.drew hx hid hroom R.F.drew hll hB hm' R.hb).mono ?_
        rintro e w3 ⟨v3, rfl, T3, F3, M3⟩
        have R3 := R.expired T3 F3 ⟨M3.os, M3.tape, M3.output, M3.size, M3.block, M3.frz, M3.cell⟩
        clear R T3 F3 M3 x2 x4 x5 c0 fz
        go_wp2
        go_roundg xs.length
        case measure => rw [← hxl]; simp
        case rel => exact ⟨_, _, _, _, _, _, _, _, _, rfl, rfl, rfl, R3⟩
      · have hdb : ((s'.nd x).dl == s'.now) = false := by simpa using hd
        have HD : Hid ((s'.nd x).dl ≠ s'.now) := hd
        clear hd
        have n0 : ¬ (2 + x * 8 + 4 = 2 + x * 8 + 5) := by omega
        have n1 : ¬ (2 + x * 8 + 5 = 2 + x * 8 + 4) := by omega
        go_wp2_with fail
        go_region_held3 (fun w' => w'.cell? ⟨B, 2 + x * 8 + 2, none⟩ = some (.int .u64 (s'.nd x).dl) ∧ w'.cell? ⟨B, 1, none⟩ = some (.int .u64 s'.now)) (exact ⟨x2, c0⟩) (fail)
        go_wp2_with fail
        refine wp_region_held_drew (S := (fun _ => True)) (by kernel_rfl) trivial (fun hHeld => ?_)
        refine wpAnyH_take (i := 0) (oi := { dst := some 63, op := Go.Op.move (Go.Operand.tmp 0), type := 212, pos := _, after := #[], guard := none }) (v := ?vv13) rfl (by kernel_rfl) (by kernel_rfl) (by kernel_rfl) (fun _ _ _ h => h) (Or.inl ⟨by rfl, ?hy13⟩) (by assumption) ?tk13
        case hy13 => (intro w hSw; (try dsimp only at hSw); go_simp; (try with_reducible rfl))
        try simp only [Act.put, List.setIfInBounds_toArray, List.set_cons_zero, List.set_cons_succ]
        refine wpAnyH_take (i := 1) (oi := { dst := some 64, op := Go.Op.move (Go.Operand.tmp 9), type := 156, pos := _, after := #[], guard := none }) (v := ?vv14) rfl (by kernel_rfl) (by kernel_rfl) (by kernel_rfl) (fun _ _ _ h => h) (Or.inl ⟨by rfl, ?hy14⟩) (by assumption) ?tk14
        case hy14 => (intro w hSw; (try dsimp only at hSw); go_simp; (try with_reducible rfl))
        try simp only [Act.put, List.setIfInBounds_toArray, List.set_cons_zero, List.set_cons_succ]
        refine wpAnyH_take (i := 2) (oi := { dst := some 65, op := Go.Op.move (Go.Operand.tmp 0), type := 212, pos := _, after := #[{ on := 8, ground := Go.Ground.gcOnly Go.Departure.lateStores }], guard := none }) (v := ?vv15) rfl (by kernel_rfl) (by kernel_rfl) (by kernel_rfl) (fun _ _ _ h => h) (Or.inl ⟨by rfl, ?hy15⟩) (by assumption) ?tk15
        case hy15 => (intro w hSw; (try dsimp only at hSw); go_simp; (try with_reducible rfl))
        try simp only [Act.put, List.setIfInBounds_toArray, List.set_cons_zero, List.set_cons_succ]
        refine wpAnyH_take (i := 3) (oi := { dst := some 66, op := Go.Op.move (Go.Operand.tmp 9), type := 156, pos := _, after := #[{ on := 8, ground := Go.Ground.gcOnly Go.Departure.lateStores }], guard := none }) (v := ?vv16) rfl (by kernel_rfl) (by kernel_rfl) (by kernel_rfl) (fun _ _ _ h => h) (Or.inl ⟨by rfl, ?hy16⟩) (by assumption) ?tk16
        case hy16 => (intro w hSw; (try dsimp only at hSw); go_simp; (try with_reducible rfl))
        try simp only [Act.put, List.setIfInBounds_toArray, List.set_cons_zero, List.set_cons_succ]
        refine wpAnyH_take (i := 4) (oi := { dst := some 67, op := Go.Op.nilCheck (Go.Operand.tmp 63), type := 0, pos := _, after := #[{ on := 0, ground := Go.Ground.data }], guard := none }) (v := ?vv17) rfl (by kernel_rfl) (by kernel_rfl) (by kernel_rfl) (fun _ _ _ h => h) (Or.inl ⟨by rfl, ?hy17⟩) (by assumption) ?tk17
        case hy17 => (intro w hSw; (try dsimp only at hSw); go_simp; (try with_reducible rfl))
        try simp only [Act.put, List.setIfInBounds_toArray, List.set_cons_zero, List.set_cons_succ]
        refine wpAnyH_take (i := 5) (oi := { dst := some 68, op := Go.Op.fieldAddr 168 (Go.Operand.tmp 67) 1, type := 0, pos := _, after := #[{ on := 4, ground := Go.Ground.data }], guard := none }) (v := ?vv18) rfl (by kernel_rfl) (by kernel_rfl) (by kernel_rfl) (fun _ _ _ h => h) (Or.inl ⟨by rfl, ?hy18⟩) (by assumption) ?tk18
        case hy18 => (intro w hSw; (try dsimp only at hSw); go_simp; (try with_reducible rfl))
        try simp only [Act.put, List.setIfInBounds_toArray, List.set_cons_zero, List.set_cons_succ]
        refine wpAnyH_take (i := 6) (oi := { dst := some 69, op := Go.Op.indexAddr 160 (Go.Operand.tmp 68) (Go.Operand.tmp 64), type := 0, pos := _, after := #[{ on := 5, ground := Go.Ground.data }, { on := 1, ground := Go.Ground.data }, { on := 0, ground := Go.Ground.phase }, { on := 1, ground := Go.Ground.phase }, { on := 2, ground := Go.Ground.textOnly Go.Departure.lateStores }, { on := 3, ground := Go.Ground.textOnly Go.Departure.lateStores }], guard := none }) (v := ?vv19) rfl (by kernel_rfl) (by kernel_rfl) (by kernel_rfl) (fun _ _ _ h => h) (Or.inl ⟨by rfl, ?hy19⟩) (by assumption) ?tk19
        case hy19 => (intro w hSw; (try dsimp only at hSw); go_simp; (try with_reducible rfl))
        try simp only [Act.put, List.setIfInBounds_toArray, List.set_cons_zero, List.set_cons_succ]
        refine wpAnyH_take (i := 7) (oi := { dst := some 70, op := Go.Op.fieldAddr 159 (Go.Operand.tmp 69) 1, type := 0, pos := _, after := #[{ on := 6, ground := Go.Ground.data }, { on := 0, ground := Go.Ground.phase }, { on := 1, ground := Go.Ground.phase }, { on := 2, ground := Go.Ground.textOnly Go.Departure.lateStores }, { on := 3, ground := Go.Ground.textOnly Go.Departure.lateStores }], guard := none }) (v := ?vv20) rfl (by kernel_rfl) (by kernel_rfl) (by kernel_rfl) (fun _ _ _ h => h) (Or.inl ⟨by rfl, ?hy20⟩) (by assumption) ?tk20
        case hy20 => (intro w hSw; (try dsimp only at hSw); go_simp; (try with_reducible rfl))
        try simp only [Act.put, List.setIfInBounds_toArray, List.set_cons_zero, List.set_cons_succ]
        refine wpAnyH_take (i := 9) (oi := { dst := some 71, op := Go.Op.nilCheck (Go.Operand.tmp 65), type := 0, pos := _, after := #[{ on := 2, ground := Go.Ground.data }], guard := none }) (v := ?vv21) rfl (by kernel_rfl) (by kernel_rfl) (by kernel_rfl) (fun _ _ _ h => h) (Or.inl ⟨by rfl, ?hy21⟩) (by assumption) ?tk21
        case hy21 => (intro w hSw; (try dsimp only at hSw); go_simp; (try with_reducible rfl))
        try simp only [Act.put, List.setIfInBounds_toArray, List.set_cons_zero, List.set_cons_succ]
        refine wpAnyH_take (i := 10) (oi := { dst := some 72, op := Go.Op.fieldAddr 168 (Go.Operand.tmp 71) 1, type := 0, pos := _, after := #[{ on := 9, ground := Go.Ground.data }], guard := none }) (v := ?vv22) rfl (by kernel_rfl) (by kernel_rfl) (by kernel_rfl) (fun _ _ _ h => h) (Or.inl ⟨by rfl, ?hy22⟩) (by assumption) ?tk22
        case hy22 => (intro w hSw; (try dsimp only at hSw); go_simp; (try with_reducible rfl))
        try simp only [Act.put, List.setIfInBounds_toArray, List.set_cons_zero, List.set_cons_succ]
        refine wpAnyH_ready (rs := [8]) (by kernel_rfl) (by simp) ?_
        refine AllReadyH.cons (o := { dst := none, op := Go.Op.store 156 (Go.Operand.tmp 70) (Go.Operand.const (Go.Value.int Go.IntKind.i16 (-1))), type := 0, pos := _, after := #[{ on := 7, ground := Go.Ground.data }, { on := 0, ground := Go.Ground.phase }, { on := 1, ground := Go.Ground.phase }, { on := 2, ground := Go.Ground.textOnly Go.Departure.lateStores }, { on := 3, ground := Go.Ground.textOnly Go.Departure.lateStores }], guard := none }) rfl (fun K' hK' => ?_) AllReadyH.nil
        go_simp
        clear hHeld
        refine hK'.out _ _ trivial (fun hHeld => ?_)
        clear hK' K'
        try simp only [Act.put, List.setIfInBounds_toArray, List.set_cons_zero, List.set_cons_succ]
        refine wpAnyH_take (i := 11) (oi := { dst := some 73, op := Go.Op.indexAddr 160 (Go.Operand.tmp 72) (Go.Operand.tmp 66), type := 0, pos := _, after := #[{ on := 10, ground := Go.Ground.data }, { on := 3, ground := Go.Ground.data }, { on := 0, ground := Go.Ground.phase }, { on := 1, ground := Go.Ground.phase }, { on := 2, ground := Go.Ground.phase }, { on := 3, ground := Go.Ground.phase }, { on := 4, ground := Go.Ground.phase }, { on := 5, ground := Go.Ground.phase }, { on := 6, ground := Go.Ground.phase }, { on := 7, ground := Go.Ground.phase }, { on := 8, ground := Go.Ground.phase }], guard := none }) (v := ?vv23) rfl (by kernel_rfl) (by kernel_rfl) (by kernel_rfl) (fun _ _ _ h => h) (Or.inl ⟨by rfl, ?hy23⟩) (by assumption) ?tk23
        case hy23 => (intro w hSw; (try dsimp only at hSw); go_simp; (try with_reducible rfl))
        try simp only [Act.put, List.setIfInBounds_toArray, List.set_cons_zero, List.set_cons_succ]
        refine wpAnyH_take (i := 12) (oi := { dst := some 74, op := Go.Op.fieldAddr 159 (Go.Operand.tmp 73) 2, type := 0, pos := _, after := #[{ on := 11, ground := Go.Ground.data }, { on := 0, ground := Go.Ground.phase }, { on := 1, ground := Go.Ground.phase }, { on := 2, ground := Go.Ground.phase }, { on := 3, ground := Go.Ground.phase }, { on := 4, ground := Go.Ground.phase }, { on := 5, ground := Go.Ground.phase }, { on := 6, ground := Go.Ground.phase }, { on := 7, ground := Go.Ground.phase }, { on := 8, ground := Go.Ground.phase }], guard := none }) (v := ?vv24) rfl (by kernel_rfl) (by kernel_rfl) (by kernel_rfl) (fun _ _ _ h => h) (Or.inl ⟨by rfl, ?hy24⟩) (by assumption) ?tk24
        case hy24 => (intro w hSw; (try dsimp only at hSw); go_simp; (try with_reducible rfl))
        try simp only [Act.put, List.setIfInBounds_toArray, List.set_cons_zero, List.set_cons_succ]
        refine wpAnyH_ready (rs := [13]) (by kernel_rfl) (by simp) ?_
        refine AllReadyH.cons (o := { dst := none, op := Go.Op.store 156 (Go.Operand.tmp 74) (Go.Operand.const (Go.Value.int Go.IntKind.i16 (-1))), type := 0, pos := _, after := #[{ on := 12, ground := Go.Ground.data }, { on := 8, ground := Go.Ground.chain }, { on := 0, ground := Go.Ground.phase }, { on := 1, ground := Go.Ground.phase }, { on := 2, ground := Go.Ground.phase }, { on := 3, ground := Go.Ground.phase }, { on := 4, ground := Go.Ground.phase }, { on := 5, ground := Go.Ground.phase }, { on := 6, ground := Go.Ground.phase }, { on := 7, ground := Go.Ground.phase }, { on := 8, ground := Go.Ground.phase }], guard := none }) rfl (fun K' hK' => ?_) AllReadyH.nil
        go_simp
        clear hHeld
        refine hK'.out _ _ trivial (fun hHeld => ?_)
        clear hK' K'
        try simp only [Act.put, List.setIfInBounds_toArray, List.set_cons_zero, List.set_cons_succ]
        refine wpAnyH_done (by kernel_rfl) ?_ _
        have T1 : TimersAt (((wr.setCell ⟨B, 2 + x * 8 + 4, none⟩ (.int .i16 (-1))).setCell ⟨B, 2 + x * 8 + 5, none⟩ (.int .i16 (-1))).drew.drew) B n ((s'.nPv x (-1)).nNx x (-1)) f' :=
          ⟨((R.T.wh.putPv hx _).putNx hx _).drew.drew, ((R.T.mp.cell R.T.ne _).cell R.T.ne _).drew.drew, R.T.ne⟩
        have M0 : Mut B 1 1939 wr (((wr.setCell ⟨B, 2 + x * 8 + 4, none⟩ (.int .i16 (-1))).setCell ⟨B, 2 + x * 8 + 5, none⟩ (.int .i16 (-1))).drew.drew) := (((Mut.refl B 1 1939 wr).setCell (by omega) (by omega) _).setCell (by omega) (by omega) _).drew.drew
        have I1 : WInv ((s'.nPv x (-1)).nNx x (-1)) L' fr' f' (x :: xs) := by
          rw [links_set]
          exact hand_inv R.I _ rfl rfl rfl (R.I.dls x hx)
        obtain ⟨d, ed, hd6⟩ := R.I.dls x hx
        have ed1 : (((s'.nPv x (-1)).nNx x (-1)).nd x).dl = d := by rw [links_set]; simp [Wheel.setNd]; exact ed
        have em1 : ((s'.nPv x (-1)).nNx x (-1)).now = m := by show s'.now = _; rw [R.now, em]
        have hxa : x ∈ L (some (k, z)) := by rw [R.sp]; simp
        have hdd : m ≤ d ∧ d / 64 ^ k = m / 64 ^ k := HST.out x hxa d (by rw [← R.dl x (by simp)]; exact ed)
        have hne : m ≠ d := fun e => HD.out (by rw [ed, R.now, em, e])
        have hlt : lvOf (placeOf m d) < k := by
          rw [placeOf, if_neg (by omega)]
          have := lvl_below hne hdd.2
          show ((lvlOf m d : Nat) : Int) < k
          omega
        clear x2 x4 x5 c0 fz ed
        go_wp2_with fail
        refine (place_any T1 I1 em1 ed1).mono ?_
        rintro e w3 ⟨rfl, ⟨s3, A, C, hr3, eA, E3, _, _, I3, T3⟩, M3⟩
        have R3 := R.placed (w1 := wr) (M0.trans M3) eA E3 hlt I3 T3 hB
        clear R T3 I3 M3 T1 M0 I1 E3 hdd hlt hne
        go_wp2
        go_roundg xs.length
        case measure => rw [← hxl]; simp
        case rel => exact ⟨_, _, _, _, _, _, _, _, _, rfl, rfl, rfl, R3⟩

end Go.Proofs.Qxb6500877aGreatDoor
