import Derived.Deep.CutBlock
import Derived.Test.Qxb6500877aGreatDoorEc
set_option linter.unusedVariables false
set_option linter.unusedSimpArgs false
namespace Go.Proofs.Qxb6500877aGreatDoor
open Go.RowKit

theorem lev_head {L : Option (Nat × Nat) → List Nat} {q z : Nat} (h : ∀ z', z' < z → L (some (q, z')) = []) : ∀ d, ∃ r, lev L q (z + 1 + d) = L (some (q, z)) ++ r
  | 0 => by
    have e : ∀ y, y ≤ z → lev L q y = [] := by
      intro y
      induction y with
      | zero => intro _; rfl
      | succ y ih => intro hy; rw [lev, ih (by omega), h y (by omega)]; rfl
    exact ⟨[], by rw [Nat.add_zero, lev, e z (Nat.le_refl _)]; simp⟩
  | d + 1 => by
    obtain ⟨r, hr⟩ := lev_head h d
    exact ⟨r ++ L (some (q, z + 1 + d)), by rw [show z + 1 + (d + 1) = (z + 1 + d) + 1 by omega, lev, hr, List.append_assoc]⟩
theorem preL_head {L : Option (Nat × Nat) → List Nat} {q z : Nat} (hz : z < 64) (hn : L none = []) (hk : ∀ k z', k < q → L (some (k, z')) = []) (h : ∀ z', z' < z → L (some (q, z')) = []) : ∀ d, ∃ r, preL L (q + 1 + d) = L (some (q, z)) ++ r
  | 0 => by
    have e0 : ∀ k y, k < q → lev L k y = [] := by
      intro k y hkq
      induction y with
      | zero => rfl
      | succ y ih => rw [lev, ih, hk k y hkq]; rfl
    have e : ∀ y, y ≤ q → preL L y = [] := by
      intro y
      induction y with
      | zero => intro _; exact hn
      | succ y ih => intro hy; rw [preL, ih (by omega), e0 y 64 (by omega)]; rfl
    obtain ⟨r, hr⟩ := lev_head h (63 - z)
    rw [show z + 1 + (63 - z) = 64 by omega] at hr
    exact ⟨r, by rw [Nat.add_zero, preL, e q (Nat.le_refl _), hr]; simp⟩
  | d + 1 => by
    obtain ⟨r, hr⟩ := preL_head hz hn hk h d
    exact ⟨r ++ lev L (q + 1 + d) 64, by rw [show q + 1 + (d + 1) = (q + 1 + d) + 1 by omega, preL, hr, List.append_assoc]⟩
theorem preL_due {L : Option (Nat × Nat) → List Nat} : ∀ k, ∃ r, preL L k = L none ++ r
  | 0 => ⟨[], by rw [preL]; simp⟩
  | k + 1 => by
    obtain ⟨r, hr⟩ := preL_due (L := L) k
    exact ⟨r ++ lev L k 64, by rw [preL, hr, List.append_assoc]⟩
theorem preL_none {L : Option (Nat × Nat) → List Nat} (hn : L none = []) (hk : ∀ k z, L (some (k, z)) = []) : ∀ k, preL L k = []
  | 0 => hn
  | k + 1 => by
    have e : ∀ y, lev L k y = [] := by
      intro y
      induction y with
      | zero => rfl
      | succ y ih => rw [lev, ih, hk k y]; rfl
    rw [preL, preL_none hn hk k, e 64]
    rfl
/-- What 'next' answers. -/
def NextR (s : Wheel) (L : Option (Nat × Nat) → List Nat) (e : Ending) : Prop :=
  (preL L 11 = [] ∧ e = .returned (.tuple #[.int .u64 0, .bool false])) ∨ ∃ x r, x < 64 ∧ preL L 11 = x :: r ∧ e = .returned (.tuple #[.int .u64 (s.nd x).dl, .bool true])
set_option maxHeartbeats 4000000 in
theorem next_any {w : World} {B : Nat} {s : Wheel} {L : Option (Nat × Nat) → List Nat} {fr : List Nat} {f : Int → Option Int} (H : WheelAt w B s) (I : WInv s L fr f []) (TB : TabAt w) :
    Calls Tryz.prog 111 #[.pointer (some ⟨B, 1, none⟩)] w fun e w' => NextR s L e ∧ Below w.heap.size w w' := by
  have hlist := H.list (r := none) trivial
  have k0 : w.cell? ⟨B, 518, none⟩ = some (.int .i16 (s.lh none)) := hlist.1
  have hhd := dll_head (I.dll none trivial)
  have hemp := fun (v : Int) (h : w.cell? ⟨B, 518, none⟩ = some (.int .i16 v)) => listEmpty_any h
  clear hlist
  cases hL : L none with
  | cons x l =>
    rw [hL] at hhd
    have hhx : s.lh none = (x : Int) := hhd
    have hx := (I.mem none x (by rw [hL]; simp)).2.1
    rw [hhx] at k0
    have k2 := (H.node hx).2.2.1
    obtain ⟨r, hr⟩ := preL_due (L := L) 11
    rw [hL] at hr
    have HR := hideIt (show preL L 11 = x :: (l ++ r) from hr)
    have he := hemp _ k0
    rw [decide_eq_false (show ¬ ((x : Int) = -1) by omega)] at he
    have x0 : (0 : Int) ≤ x := by omega
    have x1 : (x : Int) < 64 := by omega
    generalize hdl : (s.nd x).dl = dl at k2
    have HDL := hideIt hdl
    clear hr hL hhd hhx hdl hemp I
    go_enter Tryz.func111, Tryz.ntmps111
    go_wp2_with fail
    refine he.mono ?_
    rintro e w ⟨rfl, rfl⟩
    go_upto_region 2 with fail
    refine wp_region_held_drew (S := (fun w' => w'.cell? ⟨B, 518, none⟩ = some (.int .i16 (x : Int)) ∧ w'.cell? ⟨B, 2 + x * 8 + 2, none⟩ = some (.int .u64 dl))) (by kernel_rfl) ⟨k0, k2⟩ (fun hHeld => ?_)
    refine wpAnyH_take (i := 0) (oi := { dst := some 12, op := Go.Op.move (Go.Operand.tmp 0), type := 212, pos := _, after := #[], guard := none }) (v := ?vv1) rfl (by kernel_rfl) (by kernel_rfl) (by kernel_rfl) (fun _ _ _ h => h) (Or.inl ⟨by rfl, ?hy1⟩) (by assumption) ?tk1
    case hy1 => (intro w hSw; (try dsimp only at hSw); go_simp; (try with_reducible rfl))
    try simp only [Act.put, List.setIfInBounds_toArray, List.set_cons_zero, List.set_cons_succ]
    refine wpAnyH_take (i := 1) (oi := { dst := some 13, op := Go.Op.move (Go.Operand.tmp 0), type := 212, pos := _, after := #[], guard := none }) (v := ?vv2) rfl (by kernel_rfl) (by kernel_rfl) (by kernel_rfl) (fun _ _ _ h => h) (Or.inl ⟨by rfl, ?hy2⟩) (by assumption) ?tk2
    case hy2 => (intro w hSw; (try dsimp only at hSw); go_simp; (try with_reducible rfl))
    try simp only [Act.put, List.setIfInBounds_toArray, List.set_cons_zero, List.set_cons_succ]
    refine wpAnyH_take (i := 2) (oi := { dst := some 14, op := Go.Op.nilCheck (Go.Operand.tmp 13), type := 0, pos := _, after := #[{ on := 1, ground := Go.Ground.data }], guard := none }) (v := ?vv3) rfl (by kernel_rfl) (by kernel_rfl) (by kernel_rfl) (fun _ _ _ h => h) (Or.inl ⟨by rfl, ?hy3⟩) (by assumption) ?tk3
    case hy3 => (intro w hSw; (try dsimp only at hSw); go_simp; (try with_reducible rfl))
    try simp only [Act.put, List.setIfInBounds_toArray, List.set_cons_zero, List.set_cons_succ]
    refine wpAnyH_take (i := 3) (oi := { dst := some 15, op := Go.Op.fieldAddr 168 (Go.Operand.tmp 14) 6, type := 0, pos := _, after := #[{ on := 2, ground := Go.Ground.data }], guard := none }) (v := ?vv4) rfl (by kernel_rfl) (by kernel_rfl) (by kernel_rfl) (fun _ _ _ h => h) (Or.inl ⟨by rfl, ?hy4⟩) (by assumption) ?tk4
    case hy4 => (intro w hSw; (try dsimp only at hSw); go_simp; (try with_reducible rfl))
    try simp only [Act.put, List.setIfInBounds_toArray, List.set_cons_zero, List.set_cons_succ]
    refine wpAnyH_take (i := 4) (oi := { dst := some 16, op := Go.Op.fieldAddr 163 (Go.Operand.tmp 15) 0, type := 0, pos := _, after := #[{ on := 3, ground := Go.Ground.data }], guard := none }) (v := ?vv5) rfl (by kernel_rfl) (by kernel_rfl) (by kernel_rfl) (fun _ _ _ h => h) (Or.inl ⟨by rfl, ?hy5⟩) (by assumption) ?tk5
    case hy5 => (intro w hSw; (try dsimp only at hSw); go_simp; (try with_reducible rfl))
    try simp only [Act.put, List.setIfInBounds_toArray, List.set_cons_zero, List.set_cons_succ]
    refine wpAnyH_take (i := 5) (oi := { dst := some 17, op := Go.Op.load 156 (Go.Operand.tmp 16), type := 156, pos := _, after := #[{ on := 4, ground := Go.Ground.data }], guard := none }) (v := ?vv6) rfl (by kernel_rfl) (by kernel_rfl) (by kernel_rfl) (fun _ _ _ h => h) (Or.inl ⟨by rfl, ?hy6⟩) (by assumption) ?tk6
    case hy6 => (intro w hSw; (try dsimp only at hSw); go_simp; (try with_reducible rfl))
    try simp only [Act.put, List.setIfInBounds_toArray, List.set_cons_zero, List.set_cons_succ]
    refine wpAnyH_take (i := 6) (oi := { dst := some 18, op := Go.Op.nilCheck (Go.Operand.tmp 12), type := 0, pos := _, after := #[{ on := 0, ground := Go.Ground.data }], guard := none }) (v := ?vv7) rfl (by kernel_rfl) (by kernel_rfl) (by kernel_rfl) (fun _ _ _ h => h) (Or.inl ⟨by rfl, ?hy7⟩) (by assumption) ?tk7
    case hy7 => (intro w hSw; (try dsimp only at hSw); go_simp; (try with_reducible rfl))
    try simp only [Act.put, List.setIfInBounds_toArray, List.set_cons_zero, List.set_cons_succ]
    refine wpAnyH_take (i := 7) (oi := { dst := some 19, op := Go.Op.fieldAddr 168 (Go.Operand.tmp 18) 1, type := 0, pos := _, after := #[{ on := 6, ground := Go.Ground.data }], guard := none }) (v := ?vv8) rfl (by kernel_rfl) (by kernel_rfl) (by kernel_rfl) (fun _ _ _ h => h) (Or.inl ⟨by rfl, ?hy8⟩) (by assumption) ?tk8
    case hy8 => (intro w hSw; (try dsimp only at hSw); go_simp; (try with_reducible rfl))
    try simp only [Act.put, List.setIfInBounds_toArray, List.set_cons_zero, List.set_cons_succ]
    refine wpAnyH_take (i := 8) (oi := { dst := some 20, op := Go.Op.indexAddr 160 (Go.Operand.tmp 19) (Go.Operand.tmp 17), type := 0, pos := _, after := #[{ on := 7, ground := Go.Ground.data }, { on := 5, ground := Go.Ground.data }], guard := none }) (v := ?vv9) rfl (by kernel_rfl) (by kernel_rfl) (by kernel_rfl) (fun _ _ _ h => h) (Or.inl ⟨by rfl, ?hy9⟩) (by assumption) ?tk9
    case hy9 => (intro w hSw; (try dsimp only at hSw); go_simp; (try with_reducible rfl))
    try simp only [Act.put, List.setIfInBounds_toArray, List.set_cons_zero, List.set_cons_succ]
    refine wpAnyH_take (i := 9) (oi := { dst := some 21, op := Go.Op.fieldAddr 159 (Go.Operand.tmp 20) 0, type := 0, pos := _, after := #[{ on := 8, ground := Go.Ground.data }], guard := none }) (v := ?vv10) rfl (by kernel_rfl) (by kernel_rfl) (by kernel_rfl) (fun _ _ _ h => h) (Or.inl ⟨by rfl, ?hy10⟩) (by assumption) ?tk10
    case hy10 => (intro w hSw; (try dsimp only at hSw); go_simp; (try with_reducible rfl))
    try simp only [Act.put, List.setIfInBounds_toArray, List.set_cons_zero, List.set_cons_succ]
    refine wpAnyH_take (i := 10) (oi := { dst := some 22, op := Go.Op.fieldAddr 84 (Go.Operand.tmp 21) 2, type := 0, pos := _, after := #[{ on := 9, ground := Go.Ground.data }], guard := none }) (v := ?vv11) rfl (by kernel_rfl) (by kernel_rfl) (by kernel_rfl) (fun _ _ _ h => h) (Or.inl ⟨by rfl, ?hy11⟩) (by assumption) ?tk11
    case hy11 => (intro w hSw; (try dsimp only at hSw); go_simp; (try with_reducible rfl))
    try simp only [Act.put, List.setIfInBounds_toArray, List.set_cons_zero, List.set_cons_succ]
    refine wpAnyH_take (i := 11) (oi := { dst := some 23, op := Go.Op.load 29 (Go.Operand.tmp 22), type := 29, pos := _, after := #[{ on := 10, ground := Go.Ground.data }], guard := none }) (v := ?vv12) rfl (by kernel_rfl) (by kernel_rfl) (by kernel_rfl) (fun _ _ _ h => h) (Or.inl ⟨by rfl, ?hy12⟩) (by assumption) ?tk12
    case hy12 => (intro w hSw; (try dsimp only at hSw); go_simp; (try with_reducible rfl))
    try simp only [Act.put, List.setIfInBounds_toArray, List.set_cons_zero, List.set_cons_succ]
    refine wpAnyH_take (i := 12) (oi := { dst := some 2, op := Go.Op.assign (Go.Operand.tmp 23), type := 29, pos := _, after := #[{ on := 11, ground := Go.Ground.data }, { on := 0, ground := Go.Ground.phase }, { on := 1, ground := Go.Ground.phase }, { on := 2, ground := Go.Ground.phase }, { on := 3, ground := Go.Ground.phase }, { on := 4, ground := Go.Ground.phase }, { on := 5, ground := Go.Ground.phase }, { on := 6, ground := Go.Ground.phase }, { on := 7, ground := Go.Ground.phase }, { on := 8, ground := Go.Ground.phase }, { on := 9, ground := Go.Ground.phase }, { on := 10, ground := Go.Ground.phase }, { on := 11, ground := Go.Ground.phase }], guard := none }) (v := ?vv13) rfl (by kernel_rfl) (by kernel_rfl) (by kernel_rfl) (fun _ _ _ h => h) (Or.inl ⟨by rfl, ?hy13⟩) (by assumption) ?tk13
    case hy13 => (intro w hSw; (try dsimp only at hSw); go_simp; (try with_reducible rfl))
    try simp only [Act.put, List.setIfInBounds_toArray, List.set_cons_zero, List.set_cons_succ]
    refine wpAnyH_take (i := 13) (oi := { dst := some 3, op := Go.Op.assign (Go.Operand.const (Go.Value.bool true)), type := 4, pos := _, after := #[{ on := 12, ground := Go.Ground.chain }, { on := 0, ground := Go.Ground.phase }, { on := 1, ground := Go.Ground.phase }, { on := 2, ground := Go.Ground.phase }, { on := 3, ground := Go.Ground.phase }, { on := 4, ground := Go.Ground.phase }, { on := 5, ground := Go.Ground.phase }, { on := 6, ground := Go.Ground.phase }, { on := 7, ground := Go.Ground.phase }, { on := 8, ground := Go.Ground.phase }, { on := 9, ground := Go.Ground.phase }, { on := 10, ground := Go.Ground.phase }, { on := 11, ground := Go.Ground.phase }, { on := 12, ground := Go.Ground.phase }], guard := none }) (v := ?vv14) rfl (by kernel_rfl) (by kernel_rfl) (by kernel_rfl) (fun _ _ _ h => h) (Or.inl ⟨by rfl, ?hy14⟩) (by assumption) ?tk14
    case hy14 => (intro w hSw; (try dsimp only at hSw); go_simp; (try with_reducible rfl))
    try simp only [Act.put, List.setIfInBounds_toArray, List.set_cons_zero, List.set_cons_succ]
    refine wpAnyH_done (by kernel_rfl) ?_ _
    go_wp2
    go_ret2
    exact ⟨.inr ⟨x, l ++ r, hx, HR.out, by rw [HDL.out]; rfl⟩, (Below.refl _ _).drew⟩
  | nil =>
    rw [hL] at hhd
    have hhx : s.lh none = -1 := hhd
    rw [hhx] at k0
    have he := hemp _ k0
    rw [decide_eq_true rfl] at he
    clear hemp hhd hhx
    by_cases hall : ∀ k, k < 11 → s.occ k = 0
    · have hes := earliest_none H hall
      have HR := hideIt (preL_none hL (fun k z => I.empty (fun hk => hall k hk) z) 11)
      clear hall hL I k0
      go_enter Tryz.func111, Tryz.ntmps111
      go_wp2_with fail
      refine he.mono ?_
      rintro e w ⟨rfl, rfl⟩
      go_wp2_with fail
      refine hes.mono ?_
      rintro e w ⟨rfl, rfl⟩
      go_wp2
      go_ret2
      exact ⟨.inl ⟨HR.out, rfl⟩, Below.refl _ _⟩
    · obtain ⟨m, em, hm⟩ := I.now
      obtain ⟨q, mo, z, st, hq, h1, h2, h3, h4, h5, h6, h7, _⟩ := I.first em hall
      have hes := earliest_some H TB hq h1 h2 h3 h4
      rw [← h5] at hes
      have htz := (tz64_facts h2 h3).2.2
      rw [← h5] at htz
      obtain ⟨mo', e1, e2, e3⟩ := I.occ q hq
      have emo : mo' = mo := by omega
      subst emo
      have hz0 : ∀ z', z' < z → L (some (q, z')) = [] := fun z' hz' => by
        apply Classical.byContradiction
        intro hne
        have := (e3 z' (by omega)).2 hne
        rw [htz z' hz'] at this
        cases this
      obtain ⟨x, l, hxl⟩ : ∃ x l, L (some (q, z)) = x :: l := by
        cases hh : L (some (q, z)) with
        | nil => exact absurd hh h7
        | cons x l => exact ⟨x, l, rfl⟩
      have hx := (I.mem _ x (by rw [hxl]; simp)).2.1
      have hhd := dll_head (I.dll (some (q, z)) ⟨hq, h6⟩)
      rw [hxl] at hhd
      have hhx : s.lh (some (q, z)) = (x : Int) := hhd
      have k1 : w.cell? ⟨B, 520 + q * 128 + z * 2, none⟩ = some (.int .i16 (s.lh (some (q, z)))) := (H.list (r := some (q, z)) ⟨hq, h6⟩).1
      rw [hhx] at k1
      have k2 := (H.node hx).2.2.1
      obtain ⟨r, hr⟩ := preL_head h6 hL (fun k z' hk => I.empty (fun _ => h4 k hk) z') hz0 (10 - q)
      rw [show q + 1 + (10 - q) = 11 by omega, hxl] at hr
      have HR := hideIt (show preL L 11 = x :: (l ++ r) from hr)
      have x0 : (0 : Int) ≤ x := by omega
      have x1 : (x : Int) < 64 := by omega
      have q0 : (0 : Int) ≤ q := by omega
      have q1 : (q : Int) < 11 := by omega
      have z0 : (0 : Int) ≤ z := by omega
      have z1 : (z : Int) < 64 := by omega
      generalize hdl : (s.nd x).dl = dl at k2
      have HDL := hideIt hdl
      clear hr hL hhd hhx hdl I hall h1 h2 h3 h4 h5 h7 htz e1 e2 e3 hz0 hxl em k0
      have k0 := k1
      clear k1
      go_enter Tryz.func111, Tryz.ntmps111
      go_wp2_with fail
      refine he.mono ?_
      rintro e w ⟨rfl, rfl⟩
      go_wp2_with fail
      refine hes.mono ?_
      rintro e w ⟨rfl, rfl⟩
      go_upto_region 6 with fail
      refine wp_region_held_drew (S := (fun w' => w'.cell? ⟨B, 520 + q * 128 + z * 2, none⟩ = some (.int .i16 (x : Int)) ∧ w'.cell? ⟨B, 2 + x * 8 + 2, none⟩ = some (.int .u64 dl))) (by kernel_rfl) ⟨k0, k2⟩ (fun hHeld => ?_)
      refine wpAnyH_take (i := 0) (oi := { dst := some 32, op := Go.Op.move (Go.Operand.tmp 0), type := 212, pos := _, after := #[], guard := none }) (v := ?vv15) rfl (by kernel_rfl) (by kernel_rfl) (by kernel_rfl) (fun _ _ _ h => h) (Or.inl ⟨by rfl, ?hy15⟩) (by assumption) ?tk15
      case hy15 => (intro w hSw; (try dsimp only at hSw); go_simp; (try with_reducible rfl))
      try simp only [Act.put, List.setIfInBounds_toArray, List.set_cons_zero, List.set_cons_succ]
      refine wpAnyH_take (i := 1) (oi := { dst := some 33, op := Go.Op.move (Go.Operand.tmp 0), type := 212, pos := _, after := #[], guard := none }) (v := ?vv16) rfl (by kernel_rfl) (by kernel_rfl) (by kernel_rfl) (fun _ _ _ h => h) (Or.inl ⟨by rfl, ?hy16⟩) (by assumption) ?tk16
      case hy16 => (intro w hSw; (try dsimp only at hSw); go_simp; (try with_reducible rfl))
      try simp only [Act.put, List.setIfInBounds_toArray, List.set_cons_zero, List.set_cons_succ]
      refine wpAnyH_take (i := 2) (oi := { dst := some 34, op := Go.Op.move (Go.Operand.tmp 4), type := 3, pos := _, after := #[], guard := none }) (v := ?vv17) rfl (by kernel_rfl) (by kernel_rfl) (by kernel_rfl) (fun _ _ _ h => h) (Or.inl ⟨by rfl, ?hy17⟩) (by assumption) ?tk17
      case hy17 => (intro w hSw; (try dsimp only at hSw); go_simp; (try with_reducible rfl))
      try simp only [Act.put, List.setIfInBounds_toArray, List.set_cons_zero, List.set_cons_succ]
      refine wpAnyH_take (i := 3) (oi := { dst := some 35, op := Go.Op.move (Go.Operand.tmp 5), type := 3, pos := _, after := #[], guard := none }) (v := ?vv18) rfl (by kernel_rfl) (by kernel_rfl) (by kernel_rfl) (fun _ _ _ h => h) (Or.inl ⟨by rfl, ?hy18⟩) (by assumption) ?tk18
      case hy18 => (intro w hSw; (try dsimp only at hSw); go_simp; (try with_reducible rfl))
      try simp only [Act.put, List.setIfInBounds_toArray, List.set_cons_zero, List.set_cons_succ]
      refine wpAnyH_take (i := 4) (oi := { dst := some 36, op := Go.Op.nilCheck (Go.Operand.tmp 33), type := 0, pos := _, after := #[{ on := 1, ground := Go.Ground.data }], guard := none }) (v := ?vv19) rfl (by kernel_rfl) (by kernel_rfl) (by kernel_rfl) (fun _ _ _ h => h) (Or.inl ⟨by rfl, ?hy19⟩) (by assumption) ?tk19
      case hy19 => (intro w hSw; (try dsimp only at hSw); go_simp; (try with_reducible rfl))
      try simp only [Act.put, List.setIfInBounds_toArray, List.set_cons_zero, List.set_cons_succ]
      refine wpAnyH_take (i := 5) (oi := { dst := some 37, op := Go.Op.fieldAddr 168 (Go.Operand.tmp 36) 7, type := 0, pos := _, after := #[{ on := 4, ground := Go.Ground.data }], guard := none }) (v := ?vv20) rfl (by kernel_rfl) (by kernel_rfl) (by kernel_rfl) (fun _ _ _ h => h) (Or.inl ⟨by rfl, ?hy20⟩) (by assumption) ?tk20
      case hy20 => (intro w hSw; (try dsimp only at hSw); go_simp; (try with_reducible rfl))
      try simp only [Act.put, List.setIfInBounds_toArray, List.set_cons_zero, List.set_cons_succ]
      refine wpAnyH_take (i := 6) (oi := { dst := some 38, op := Go.Op.indexAddr 165 (Go.Operand.tmp 37) (Go.Operand.tmp 34), type := 0, pos := _, after := #[{ on := 5, ground := Go.Ground.data }, { on := 2, ground := Go.Ground.data }], guard := none }) (v := ?vv21) rfl (by kernel_rfl) (by kernel_rfl) (by kernel_rfl) (fun _ _ _ h => h) (Or.inl ⟨by rfl, ?hy21⟩) (by assumption) ?tk21
      case hy21 => (intro w hSw; (try dsimp only at hSw); go_simp; (try with_reducible rfl))
      try simp only [Act.put, List.setIfInBounds_toArray, List.set_cons_zero, List.set_cons_succ]
      refine wpAnyH_take (i := 7) (oi := { dst := some 39, op := Go.Op.indexAddr 164 (Go.Operand.tmp 38) (Go.Operand.tmp 35), type := 0, pos := _, after := #[{ on := 6, ground := Go.Ground.data }, { on := 3, ground := Go.Ground.data }], guard := none }) (v := ?vv22) rfl (by kernel_rfl) (by kernel_rfl) (by kernel_rfl) (fun _ _ _ h => h) (Or.inl ⟨by rfl, ?hy22⟩) (by assumption) ?tk22
      case hy22 => (intro w hSw; (try dsimp only at hSw); go_simp; (try with_reducible rfl))
      try simp only [Act.put, List.setIfInBounds_toArray, List.set_cons_zero, List.set_cons_succ]
      refine wpAnyH_take (i := 8) (oi := { dst := some 40, op := Go.Op.fieldAddr 163 (Go.Operand.tmp 39) 0, type := 0, pos := _, after := #[{ on := 7, ground := Go.Ground.data }], guard := none }) (v := ?vv23) rfl (by kernel_rfl) (by kernel_rfl) (by kernel_rfl) (fun _ _ _ h => h) (Or.inl ⟨by rfl, ?hy23⟩) (by assumption) ?tk23
      case hy23 => (intro w hSw; (try dsimp only at hSw); go_simp; (try with_reducible rfl))
      try simp only [Act.put, List.setIfInBounds_toArray, List.set_cons_zero, List.set_cons_succ]
      refine wpAnyH_take (i := 9) (oi := { dst := some 41, op := Go.Op.load 156 (Go.Operand.tmp 40), type := 156, pos := _, after := #[{ on := 8, ground := Go.Ground.data }], guard := none }) (v := ?vv24) rfl (by kernel_rfl) (by kernel_rfl) (by kernel_rfl) (fun _ _ _ h => h) (Or.inl ⟨by rfl, ?hy24⟩) (by assumption) ?tk24
      case hy24 => (intro w hSw; (try dsimp only at hSw); go_simp; (try with_reducible rfl))
      try simp only [Act.put, List.setIfInBounds_toArray, List.set_cons_zero, List.set_cons_succ]
      refine wpAnyH_take (i := 10) (oi := { dst := some 42, op := Go.Op.nilCheck (Go.Operand.tmp 32), type := 0, pos := _, after := #[{ on := 0, ground := Go.Ground.data }], guard := none }) (v := ?vv25) rfl (by kernel_rfl) (by kernel_rfl) (by kernel_rfl) (fun _ _ _ h => h) (Or.inl ⟨by rfl, ?hy25⟩) (by assumption) ?tk25
      case hy25 => (intro w hSw; (try dsimp only at hSw); go_simp; (try with_reducible rfl))
      try simp only [Act.put, List.setIfInBounds_toArray, List.set_cons_zero, List.set_cons_succ]
      refine wpAnyH_take (i := 11) (oi := { dst := some 43, op := Go.Op.fieldAddr 168 (Go.Operand.tmp 42) 1, type := 0, pos := _, after := #[{ on := 10, ground := Go.Ground.data }], guard := none }) (v := ?vv26) rfl (by kernel_rfl) (by kernel_rfl) (by kernel_rfl) (fun _ _ _ h => h) (Or.inl ⟨by rfl, ?hy26⟩) (by assumption) ?tk26
      case hy26 => (intro w hSw; (try dsimp only at hSw); go_simp; (try with_reducible rfl))
      try simp only [Act.put, List.setIfInBounds_toArray, List.set_cons_zero, List.set_cons_succ]
      refine wpAnyH_take (i := 12) (oi := { dst := some 44, op := Go.Op.indexAddr 160 (Go.Operand.tmp 43) (Go.Operand.tmp 41), type := 0, pos := _, after := #[{ on := 11, ground := Go.Ground.data }, { on := 9, ground := Go.Ground.data }], guard := none }) (v := ?vv27) rfl (by kernel_rfl) (by kernel_rfl) (by kernel_rfl) (fun _ _ _ h => h) (Or.inl ⟨by rfl, ?hy27⟩) (by assumption) ?tk27
      case hy27 => (intro w hSw; (try dsimp only at hSw); go_simp; (try with_reducible rfl))
      try simp only [Act.put, List.setIfInBounds_toArray, List.set_cons_zero, List.set_cons_succ]
      refine wpAnyH_take (i := 13) (oi := { dst := some 45, op := Go.Op.fieldAddr 159 (Go.Operand.tmp 44) 0, type := 0, pos := _, after := #[{ on := 12, ground := Go.Ground.data }], guard := none }) (v := ?vv28) rfl (by kernel_rfl) (by kernel_rfl) (by kernel_rfl) (fun _ _ _ h => h) (Or.inl ⟨by rfl, ?hy28⟩) (by assumption) ?tk28
      case hy28 => (intro w hSw; (try dsimp only at hSw); go_simp; (try with_reducible rfl))
      try simp only [Act.put, List.setIfInBounds_toArray, List.set_cons_zero, List.set_cons_succ]
      refine wpAnyH_take (i := 14) (oi := { dst := some 46, op := Go.Op.fieldAddr 84 (Go.Operand.tmp 45) 2, type := 0, pos := _, after := #[{ on := 13, ground := Go.Ground.data }], guard := none }) (v := ?vv29) rfl (by kernel_rfl) (by kernel_rfl) (by kernel_rfl) (fun _ _ _ h => h) (Or.inl ⟨by rfl, ?hy29⟩) (by assumption) ?tk29
      case hy29 => (intro w hSw; (try dsimp only at hSw); go_simp; (try with_reducible rfl))
      try simp only [Act.put, List.setIfInBounds_toArray, List.set_cons_zero, List.set_cons_succ]
      refine wpAnyH_take (i := 15) (oi := { dst := some 47, op := Go.Op.load 29 (Go.Operand.tmp 46), type := 29, pos := _, after := #[{ on := 14, ground := Go.Ground.data }], guard := none }) (v := ?vv30) rfl (by kernel_rfl) (by kernel_rfl) (by kernel_rfl) (fun _ _ _ h => h) (Or.inl ⟨by rfl, ?hy30⟩) (by assumption) ?tk30
      case hy30 => (intro w hSw; (try dsimp only at hSw); go_simp; (try with_reducible rfl))
      try simp only [Act.put, List.setIfInBounds_toArray, List.set_cons_zero, List.set_cons_succ]
      refine wpAnyH_take (i := 16) (oi := { dst := some 2, op := Go.Op.assign (Go.Operand.tmp 47), type := 29, pos := _, after := #[{ on := 15, ground := Go.Ground.data }, { on := 0, ground := Go.Ground.phase }, { on := 1, ground := Go.Ground.phase }, { on := 2, ground := Go.Ground.phase }, { on := 3, ground := Go.Ground.phase }, { on := 4, ground := Go.Ground.phase }, { on := 5, ground := Go.Ground.phase }, { on := 6, ground := Go.Ground.phase }, { on := 7, ground := Go.Ground.phase }, { on := 8, ground := Go.Ground.phase }, { on := 9, ground := Go.Ground.phase }, { on := 10, ground := Go.Ground.phase }, { on := 11, ground := Go.Ground.phase }, { on := 12, ground := Go.Ground.phase }, { on := 13, ground := Go.Ground.phase }, { on := 14, ground := Go.Ground.phase }, { on := 15, ground := Go.Ground.phase }], guard := none }) (v := ?vv31) rfl (by kernel_rfl) (by kernel_rfl) (by kernel_rfl) (fun _ _ _ h => h) (Or.inl ⟨by rfl, ?hy31⟩) (by assumption) ?tk31
      case hy31 => (intro w hSw; (try dsimp only at hSw); go_simp; (try with_reducible rfl))
      try simp only [Act.put, List.setIfInBounds_toArray, List.set_cons_zero, List.set_cons_succ]
      refine wpAnyH_take (i := 17) (oi := { dst := some 3, op := Go.Op.assign (Go.Operand.const (Go.Value.bool true)), type := 4, pos := _, after := #[{ on := 16, ground := Go.Ground.chain }, { on := 0, ground := Go.Ground.phase }, { on := 1, ground := Go.Ground.phase }, { on := 2, ground := Go.Ground.phase }, { on := 3, ground := Go.Ground.phase }, { on := 4, ground := Go.Ground.phase }, { on := 5, ground := Go.Ground.phase }, { on := 6, ground := Go.Ground.phase }, { on := 7, ground := Go.Ground.phase }, { on := 8, ground := Go.Ground.phase }, { on := 9, ground := Go.Ground.phase }, { on := 10, ground := Go.Ground.phase }, { on := 11, ground := Go.Ground.phase }, { on := 12, ground := Go.Ground.phase }, { on := 13, ground := Go.Ground.phase }, { on := 14, ground := Go.Ground.phase }, { on := 15, ground := Go.Ground.phase }, { on := 16, ground := Go.Ground.phase }], guard := none }) (v := ?vv32) rfl (by kernel_rfl) (by kernel_rfl) (by kernel_rfl) (fun _ _ _ h => h) (Or.inl ⟨by rfl, ?hy32⟩) (by assumption) ?tk32
      case hy32 => (intro w hSw; (try dsimp only at hSw); go_simp; (try with_reducible rfl))
      try simp only [Act.put, List.setIfInBounds_toArray, List.set_cons_zero, List.set_cons_succ]
      refine wpAnyH_done (by kernel_rfl) ?_ _
      go_wp2
      go_ret2
      exact ⟨.inr ⟨x, l ++ r, hx, HR.out, by rw [HDL.out]; rfl⟩, (Below.refl _ _).drew⟩
end Go.Proofs.Qxb6500877aGreatDoor
