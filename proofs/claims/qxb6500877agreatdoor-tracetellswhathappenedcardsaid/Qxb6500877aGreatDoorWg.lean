import Derived.Test.Qxb6500877aGreatDoorWf0
set_option linter.unusedVariables false
set_option linter.unusedSimpArgs false
namespace Go.Proofs.Qxb6500877aGreatDoor
open Go.RowKit

/-- From a row on, forth through 'next', to the list's tail. -/
def NC (s : Wheel) : Int → List Nat → Prop
  | v, [] => v = -1
  | v, x :: xs => v = x ∧ x < 64 ∧ NC s (s.nd x).nx xs
def inHand (s : Wheel) (x : Nat) : Wheel := (s.nLv x (-3)).nSl x 0
def markL (s : Wheel) (l : List Nat) : Wheel := l.foldl inHand s
theorem markL_snoc (s : Wheel) (l : List Nat) (x : Nat) : markL s (l ++ [x]) = inHand (markL s l) x := by simp [markL]
theorem markL_nd (s : Wheel) : ∀ (l : List Nat) (x : Nat), ((markL s l).nd x).nx = (s.nd x).nx ∧ ((markL s l).nd x).pv = (s.nd x).pv ∧ ((markL s l).nd x).dl = (s.nd x).dl ∧ ((markL s l).nd x).id = (s.nd x).id ∧ ((markL s l).nd x).core = (s.nd x).core ∧ ((markL s l).nd x).ck = (s.nd x).ck
  | [], x => by simp [markL]
  | y :: l, x => by
    have h := markL_nd (inHand s y) l x
    have e : markL s (y :: l) = markL (inHand s y) l := rfl
    rw [e]
    have g : ((inHand s y).nd x).nx = (s.nd x).nx ∧ ((inHand s y).nd x).pv = (s.nd x).pv ∧ ((inHand s y).nd x).dl = (s.nd x).dl ∧ ((inHand s y).nd x).id = (s.nd x).id ∧ ((inHand s y).nd x).core = (s.nd x).core ∧ ((inHand s y).nd x).ck = (s.nd x).ck := by
      simp only [inHand, Wheel.nLv, Wheel.nSl, nd_set]
      by_cases hx : x = y
      · subst hx; simp
      · simp [hx]
    exact ⟨h.1.trans g.1, h.2.1.trans g.2.1, h.2.2.1.trans g.2.2.1, h.2.2.2.1.trans g.2.2.2.1, h.2.2.2.2.1.trans g.2.2.2.2.1, h.2.2.2.2.2.trans g.2.2.2.2.2⟩

set_option maxHeartbeats 4000000 in
theorem take_any {w : World} {B : Nat} {s : Wheel} {r : Option (Nat × Nat)} {l : List Nat} (H : WheelAt w B s) (hr : lOk r) (hnc : NC s (s.lh r) l) :
    Calls Tryz.prog 167 #[.pointer (some ⟨B, 1, none⟩), .pointer (some ⟨B, lOff r, none⟩)] w fun e w' => e = .returned (.int .i16 (s.lh r)) ∧ WheelAt w' B (((markL s l).setLh r (-1)).setLt r (-1)) ∧ Mut B 1 1939 w w' := by
  have hL := lOff_rng hr
  obtain ⟨l0, l1⟩ := H.list hr
  go_enter Tryz.func167, Tryz.ntmps167
  go_wp2
  go_loopg [6] l.length (fun g v wr => ∃ ys xs vi, l = ys ++ xs ∧ xs.length = g ∧ v = .int .i16 vi ∧ NC s vi xs ∧ Mut B 1 1939 w wr ∧ WheelAt wr B (markL s ys))
  case atStart => exact ⟨[], l, _, rfl, rfl, rfl, hnc, Mut.refl _ _ _ _, H⟩
  case round =>
    obtain ⟨ys, xs, vi, hrv, hxl, rfl, hp, hM, HR⟩ := hrel
    have HRV : Hid (l = ys ++ xs) := hrv
    clear hrv l0 l1
    match xs, hp with
    | [], hp =>
      have hv : vi = -1 := hp
      subst hv
      have hl : l = ys := by rw [HRV.out]; simp
      clear hxl
      obtain ⟨l0, l1⟩ := HR.list hr
      have fz := HR.frz
      generalize hLL : lOff r = L at *
      have n0 : ¬ (L = L + 1) := by omega
      have n1 : ¬ (L + 1 = L) := by omega
      go_wp2
      go_ret
      (try rw [← hLL])
      have hLr := lOff_rng hr
      rw [hl]
      exact ⟨rfl, (HR.putLh hr _).putLt hr _, (hM.setCell (by omega) (by omega) _).setCell (by omega) (by omega) _⟩
    | x :: xs, hp =>
      obtain ⟨hv, hx, hp'⟩ := hp
      subst hv
      have HP : Hid (NC s (s.nd x).nx xs) := hp'
      clear hp'
      have x0 : (0 : Int) ≤ x := by omega
      have x1 : (x : Int) < 64 := by omega
      have hxb : ((x : Int) != -1) = true := by simp <;> omega
      obtain ⟨_, _, _, _, _, x5, x6, x7⟩ := HR.node hx
      rw [(markL_nd s ys x).1] at x5
      have fz := HR.frz
      have n0 : ¬ (2 + x * 8 + 6 = 2 + x * 8 + 7) := by omega
      have n1 : ¬ (2 + x * 8 + 7 = 2 + x * 8 + 6) := by omega
      have n2 : ¬ (2 + x * 8 + 6 = 2 + x * 8 + 5) := by omega
      have n3 : ¬ (2 + x * 8 + 5 = 2 + x * 8 + 6) := by omega
      have n4 : ¬ (2 + x * 8 + 7 = 2 + x * 8 + 5) := by omega
      have n5 : ¬ (2 + x * 8 + 5 = 2 + x * 8 + 7) := by omega
      go_wp2_with fail
      refine wp_region_held_drew (S := (fun _ => True)) (by kernel_rfl) trivial (fun hHeld => ?_)
      refine wpAnyH_take (i := 0) (oi := { dst := some 21, op := Go.Op.move (Go.Operand.tmp 0), type := 212, pos := _, after := #[], guard := none }) (v := ?vv1) rfl (by kernel_rfl) (by kernel_rfl) (by kernel_rfl) (fun _ _ _ h => h) (Or.inl ⟨by rfl, ?hy1⟩) (by assumption) ?tk1
      case hy1 => (intro w hSw; (try dsimp only at hSw); go_simp; (try with_reducible rfl))
      try simp only [Act.put, List.setIfInBounds_toArray, List.set_cons_zero, List.set_cons_succ]
      refine wpAnyH_take (i := 1) (oi := { dst := some 22, op := Go.Op.move (Go.Operand.tmp 6), type := 156, pos := _, after := #[], guard := none }) (v := ?vv2) rfl (by kernel_rfl) (by kernel_rfl) (by kernel_rfl) (fun _ _ _ h => h) (Or.inl ⟨by rfl, ?hy2⟩) (by assumption) ?tk2
      case hy2 => (intro w hSw; (try dsimp only at hSw); go_simp; (try with_reducible rfl))
      try simp only [Act.put, List.setIfInBounds_toArray, List.set_cons_zero, List.set_cons_succ]
      refine wpAnyH_take (i := 2) (oi := { dst := some 23, op := Go.Op.move (Go.Operand.tmp 0), type := 212, pos := _, after := #[{ on := 8, ground := Go.Ground.gcOnly Go.Departure.lateStores }], guard := none }) (v := ?vv3) rfl (by kernel_rfl) (by kernel_rfl) (by kernel_rfl) (fun _ _ _ h => h) (Or.inl ⟨by rfl, ?hy3⟩) (by assumption) ?tk3
      case hy3 => (intro w hSw; (try dsimp only at hSw); go_simp; (try with_reducible rfl))
      try simp only [Act.put, List.setIfInBounds_toArray, List.set_cons_zero, List.set_cons_succ]
      refine wpAnyH_take (i := 3) (oi := { dst := some 24, op := Go.Op.move (Go.Operand.tmp 6), type := 156, pos := _, after := #[{ on := 8, ground := Go.Ground.gcOnly Go.Departure.lateStores }], guard := none }) (v := ?vv4) rfl (by kernel_rfl) (by kernel_rfl) (by kernel_rfl) (fun _ _ _ h => h) (Or.inl ⟨by rfl, ?hy4⟩) (by assumption) ?tk4
      case hy4 => (intro w hSw; (try dsimp only at hSw); go_simp; (try with_reducible rfl))
      try simp only [Act.put, List.setIfInBounds_toArray, List.set_cons_zero, List.set_cons_succ]
      refine wpAnyH_take (i := 4) (oi := { dst := some 25, op := Go.Op.nilCheck (Go.Operand.tmp 21), type := 0, pos := _, after := #[{ on := 0, ground := Go.Ground.data }], guard := none }) (v := ?vv5) rfl (by kernel_rfl) (by kernel_rfl) (by kernel_rfl) (fun _ _ _ h => h) (Or.inl ⟨by rfl, ?hy5⟩) (by assumption) ?tk5
      case hy5 => (intro w hSw; (try dsimp only at hSw); go_simp; (try with_reducible rfl))
      try simp only [Act.put, List.setIfInBounds_toArray, List.set_cons_zero, List.set_cons_succ]
      refine wpAnyH_take (i := 5) (oi := { dst := some 26, op := Go.Op.fieldAddr 168 (Go.Operand.tmp 25) 1, type := 0, pos := _, after := #[{ on := 4, ground := Go.Ground.data }], guard := none }) (v := ?vv6) rfl (by kernel_rfl) (by kernel_rfl) (by kernel_rfl) (fun _ _ _ h => h) (Or.inl ⟨by rfl, ?hy6⟩) (by assumption) ?tk6
      case hy6 => (intro w hSw; (try dsimp only at hSw); go_simp; (try with_reducible rfl))
      try simp only [Act.put, List.setIfInBounds_toArray, List.set_cons_zero, List.set_cons_succ]
      refine wpAnyH_take (i := 6) (oi := { dst := some 27, op := Go.Op.indexAddr 160 (Go.Operand.tmp 26) (Go.Operand.tmp 22), type := 0, pos := _, after := #[{ on := 5, ground := Go.Ground.data }, { on := 1, ground := Go.Ground.data }, { on := 0, ground := Go.Ground.phase }, { on := 1, ground := Go.Ground.phase }, { on := 2, ground := Go.Ground.textOnly Go.Departure.lateStores }, { on := 3, ground := Go.Ground.textOnly Go.Departure.lateStores }], guard := none }) (v := ?vv7) rfl (by kernel_rfl) (by kernel_rfl) (by kernel_rfl) (fun _ _ _ h => h) (Or.inl ⟨by rfl, ?hy7⟩) (by assumption) ?tk7
      case hy7 => (intro w hSw; (try dsimp only at hSw); go_simp; (try with_reducible rfl))
      try simp only [Act.put, List.setIfInBounds_toArray, List.set_cons_zero, List.set_cons_succ]
      refine wpAnyH_take (i := 7) (oi := { dst := some 28, op := Go.Op.fieldAddr 159 (Go.Operand.tmp 27) 3, type := 0, pos := _, after := #[{ on := 6, ground := Go.Ground.data }, { on := 0, ground := Go.Ground.phase }, { on := 1, ground := Go.Ground.phase }, { on := 2, ground := Go.Ground.textOnly Go.Departure.lateStores }, { on := 3, ground := Go.Ground.textOnly Go.Departure.lateStores }], guard := none }) (v := ?vv8) rfl (by kernel_rfl) (by kernel_rfl) (by kernel_rfl) (fun _ _ _ h => h) (Or.inl ⟨by rfl, ?hy8⟩) (by assumption) ?tk8
      case hy8 => (intro w hSw; (try dsimp only at hSw); go_simp; (try with_reducible rfl))
      try simp only [Act.put, List.setIfInBounds_toArray, List.set_cons_zero, List.set_cons_succ]
      refine wpAnyH_take (i := 9) (oi := { dst := some 29, op := Go.Op.nilCheck (Go.Operand.tmp 23), type := 0, pos := _, after := #[{ on := 2, ground := Go.Ground.data }], guard := none }) (v := ?vv9) rfl (by kernel_rfl) (by kernel_rfl) (by kernel_rfl) (fun _ _ _ h => h) (Or.inl ⟨by rfl, ?hy9⟩) (by assumption) ?tk9
      case hy9 => (intro w hSw; (try dsimp only at hSw); go_simp; (try with_reducible rfl))
      try simp only [Act.put, List.setIfInBounds_toArray, List.set_cons_zero, List.set_cons_succ]
      refine wpAnyH_take (i := 10) (oi := { dst := some 30, op := Go.Op.fieldAddr 168 (Go.Operand.tmp 29) 1, type := 0, pos := _, after := #[{ on := 9, ground := Go.Ground.data }], guard := none }) (v := ?vv10) rfl (by kernel_rfl) (by kernel_rfl) (by kernel_rfl) (fun _ _ _ h => h) (Or.inl ⟨by rfl, ?hy10⟩) (by assumption) ?tk10
      case hy10 => (intro w hSw; (try dsimp only at hSw); go_simp; (try with_reducible rfl))
      try simp only [Act.put, List.setIfInBounds_toArray, List.set_cons_zero, List.set_cons_succ]
      refine wpAnyH_ready (rs := [8]) (by kernel_rfl) (by simp) ?_
      refine AllReadyH.cons (o := { dst := none, op := Go.Op.store 157 (Go.Operand.tmp 28) (Go.Operand.const (Go.Value.int Go.IntKind.i8 (-3))), type := 0, pos := _, after := #[{ on := 7, ground := Go.Ground.data }, { on := 0, ground := Go.Ground.phase }, { on := 1, ground := Go.Ground.phase }, { on := 2, ground := Go.Ground.textOnly Go.Departure.lateStores }, { on := 3, ground := Go.Ground.textOnly Go.Departure.lateStores }], guard := none }) rfl (fun K' hK' => ?_) AllReadyH.nil
      go_simp
      clear hHeld
      refine hK'.out _ _ trivial (fun hHeld => ?_)
      clear hK' K'
      try simp only [Act.put, List.setIfInBounds_toArray, List.set_cons_zero, List.set_cons_succ]
      refine wpAnyH_take (i := 11) (oi := { dst := some 31, op := Go.Op.indexAddr 160 (Go.Operand.tmp 30) (Go.Operand.tmp 24), type := 0, pos := _, after := #[{ on := 10, ground := Go.Ground.data }, { on := 3, ground := Go.Ground.data }, { on := 0, ground := Go.Ground.phase }, { on := 1, ground := Go.Ground.phase }, { on := 2, ground := Go.Ground.phase }, { on := 3, ground := Go.Ground.phase }, { on := 4, ground := Go.Ground.phase }, { on := 5, ground := Go.Ground.phase }, { on := 6, ground := Go.Ground.phase }, { on := 7, ground := Go.Ground.phase }, { on := 8, ground := Go.Ground.phase }], guard := none }) (v := ?vv11) rfl (by kernel_rfl) (by kernel_rfl) (by kernel_rfl) (fun _ _ _ h => h) (Or.inl ⟨by rfl, ?hy11⟩) (by assumption) ?tk11
      case hy11 => (intro w hSw; (try dsimp only at hSw); go_simp; (try with_reducible rfl))
      try simp only [Act.put, List.setIfInBounds_toArray, List.set_cons_zero, List.set_cons_succ]
      refine wpAnyH_take (i := 12) (oi := { dst := some 32, op := Go.Op.fieldAddr 159 (Go.Operand.tmp 31) 4, type := 0, pos := _, after := #[{ on := 11, ground := Go.Ground.data }, { on := 0, ground := Go.Ground.phase }, { on := 1, ground := Go.Ground.phase }, { on := 2, ground := Go.Ground.phase }, { on := 3, ground := Go.Ground.phase }, { on := 4, ground := Go.Ground.phase }, { on := 5, ground := Go.Ground.phase }, { on := 6, ground := Go.Ground.phase }, { on := 7, ground := Go.Ground.phase }, { on := 8, ground := Go.Ground.phase }], guard := none }) (v := ?vv12) rfl (by kernel_rfl) (by kernel_rfl) (by kernel_rfl) (fun _ _ _ h => h) (Or.inl ⟨by rfl, ?hy12⟩) (by assumption) ?tk12
      case hy12 => (intro w hSw; (try dsimp only at hSw); go_simp; (try with_reducible rfl))
      try simp only [Act.put, List.setIfInBounds_toArray, List.set_cons_zero, List.set_cons_succ]
      refine wpAnyH_ready (rs := [13]) (by kernel_rfl) (by simp) ?_
      refine AllReadyH.cons (o := { dst := none, op := Go.Op.store 5 (Go.Operand.tmp 32) (Go.Operand.const (Go.Value.int Go.IntKind.u8 0)), type := 0, pos := _, after := #[{ on := 12, ground := Go.Ground.data }, { on := 8, ground := Go.Ground.chain }, { on := 0, ground := Go.Ground.phase }, { on := 1, ground := Go.Ground.phase }, { on := 2, ground := Go.Ground.phase }, { on := 3, ground := Go.Ground.phase }, { on := 4, ground := Go.Ground.phase }, { on := 5, ground := Go.Ground.phase }, { on := 6, ground := Go.Ground.phase }, { on := 7, ground := Go.Ground.phase }, { on := 8, ground := Go.Ground.phase }], guard := none }) rfl (fun K' hK' => ?_) AllReadyH.nil
      go_simp
      clear hHeld
      refine hK'.out _ _ trivial (fun hHeld => ?_)
      clear hK' K'
      try simp only [Act.put, List.setIfInBounds_toArray, List.set_cons_zero, List.set_cons_succ]
      refine wpAnyH_done (by kernel_rfl) ?_ _
      go_wp2
      go_roundg xs.length
      case measure => rw [← hxl]; simp
      case rel =>
        refine ⟨ys ++ [x], xs, _, by rw [HRV.out]; simp, rfl, rfl, HP.out, ((hM.setCell (by omega) (by omega) _).setCell (by omega) (by omega) _).drew, ?_⟩
        rw [markL_snoc]
        exact ((HR.putLv hx _).putSl hx _).drew
end Go.Proofs.Qxb6500877aGreatDoor
