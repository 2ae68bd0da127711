import Derived.Test.Qxb6500877aGreatDoorWc
set_option linter.unusedVariables false
set_option linter.unusedSimpArgs false
namespace Go.Proofs.Qxb6500877aGreatDoor
open Go.RowKit

theorem wrap_u8 {n : Int} (h : 0 ≤ n ∧ n < 256) : IntKind.u8.wrap n = n := by
  have e1 : (2 ^ IntKind.u8.bits : Int) = 256 := by decide
  have e : n % (2 ^ IntKind.u8.bits : Int) = n := Int.emod_eq_of_lt h.1 (by omega)
  simp only [IntKind.wrap, e]
  rw [if_neg]
  simp [IntKind.signed]
theorem PC_congr {s s' : Wheel} (h : ∀ x, (s'.nd x).pv = (s.nd x).pv) : ∀ (l : List Nat) (v : Int), PC s v l → PC s' v l
  | [], _, hp => hp
  | x :: xs, v, hp => ⟨hp.1, hp.2.1, by rw [h x]; exact PC_congr h xs _ hp.2.2⟩
theorem nd_set (s : Wheel) (i : Nat) (n : NodeS) (x : Nat) : (s.setNd i n).nd x = if x = i then n else s.nd x := rfl
theorem mark_nd (s : Wheel) (i : Nat) (a b : Int) (x : Nat) : (((s.nLv i a).nSl i b).nd x).pv = (s.nd x).pv ∧ (((s.nLv i a).nSl i b).nd x).nx = (s.nd x).nx ∧ (((s.nLv i a).nSl i b).nd x).dl = (s.nd x).dl ∧ (((s.nLv i a).nSl i b).nd x).id = (s.nd x).id := by
  simp only [Wheel.nLv, Wheel.nSl, nd_set]
  by_cases h : x = i
  · subst h; simp
  · simp [h]
theorem mark_bef (s : Wheel) (i : Nat) (a b : Int) (x y : Nat) : bef ((s.nLv i a).nSl i b) x y = bef s x y := by
  obtain ⟨_, _, h1, h2⟩ := mark_nd s i a b x
  obtain ⟨_, _, h3, h4⟩ := mark_nd s i a b y
  simp only [bef, h1, h2, h3, h4]
theorem insF_occ (s : Wheel) (r : Option (Nat × Nat)) (i : Nat) (xs : List Nat) : (insF s r i xs).occ = s.occ := by
  match xs with
  | [] => simp only [insF]; split <;> rfl
  | p :: _ => simp only [insF]; split <;> rfl

/-- What a list must be for a row to be laid into it. -/
structure InsPre (s : Wheel) (r : Option (Nat × Nat)) (i : Nat) (rv : List Nat) : Prop where
  pc : PC s (s.lt r) rv
  ni : ∀ x ∈ rv, x ≠ i
  hd : s.lh r = -1 ∨ ∃ h : Nat, h < 64 ∧ h ≠ i ∧ s.lh r = h
  nx : ∀ x ∈ rv, (s.nd x).nx = -1 ∨ ∃ q : Nat, q < 64 ∧ q ≠ i ∧ (s.nd x).nx = q
theorem InsPre.mark {s : Wheel} {r : Option (Nat × Nat)} {i : Nat} {rv : List Nat} (h : InsPre s r i rv) (a b : Int) : InsPre ((s.nLv i a).nSl i b) r i rv :=
  ⟨PC_congr (fun x => (mark_nd s i a b x).1) _ _ h.pc, h.ni, h.hd, fun x hx => by rw [(mark_nd s i a b x).2.1]; exact h.nx x hx⟩
def orOcc (m : Int) (z : Nat) : Int := bits .or .u64 m (IntKind.u64.wrap (2 ^ z))
def lvlOf (n d : Nat) : Nat := (Lib.bitLen (n ^^^ d) - 1) / 6
theorem lvlOf_lt (n d : Nat) : lvlOf n d < 11 := by
  have := bitLen_le (n ^^^ d)
  unfold lvlOf
  omega
/-- Where a row with such a deadline belongs. -/
def placeOf (n d : Nat) : Option (Nat × Nat) := if d ≤ n then none else some (lvlOf n d, d / 64 ^ lvlOf n d % 64)

set_option maxHeartbeats 4000000 in
theorem place_due {w : World} {B : Nat} {s : Wheel} {i n d : Nat} {rv : List Nat} (H : WheelAt w B s) (hi : i < 64) (en : s.now = n) (ed : (s.nd i).dl = d) (hd : d ≤ n) (P : InsPre s none i rv) :
    Calls Tryz.prog 183 #[.pointer (some ⟨B, 1, none⟩), .int .i16 (i : Int)] w fun e w' => e = .returned (.tuple #[]) ∧ (∃ ys xs, rv = ys ++ xs ∧ (∀ y ∈ ys, bef s i y = true) ∧ (∀ x, xs.head? = some x → bef s i x = false) ∧ WheelAt w' B (insF ((s.nLv i (-1)).nSl i 0) none i xs)) ∧ Mut B 1 1939 w w' := by
  obtain ⟨c0, _⟩ := H.one
  obtain ⟨_, _, i2, _, _, _, i6, i7⟩ := H.node hi
  have hlt : B < w.heap.size := World.block_lt_of_cell? _ _ c0
  rw [en] at c0
  rw [ed] at i2
  have i0 : (0 : Int) ≤ i := by omega
  have i1 : (i : Int) < 64 := by omega
  have hdn : (d : Int) ≤ n := by omega
  have fz := H.frz
  have n0 : ¬ (2 + i * 8 + 6 = 2 + i * 8 + 7) := by omega
  have n1 : ¬ (2 + i * 8 + 7 = 2 + i * 8 + 6) := by omega
  go_enter Tryz.func183, Tryz.ntmps183
  go_wp2
  go_region_held3 (fun w' => w'.cell? ⟨B, 2 + i * 8 + 2, none⟩ = some (.int .u64 (d : Int)) ∧ w'.cell? ⟨B, 1, none⟩ = some (.int .u64 (n : Int))) (exact ⟨i2, c0⟩) (fail)
  go_wp2_with fail
  refine (insert_any (r := none) ((H.putLv hi _).putSl hi _).drew trivial hi (P.mark (-1) 0).pc P.ni P.hd (P.mark (-1) 0).nx).mono ?_
  rintro e w1 ⟨rfl, ⟨ys, xs, h1, h2, h3, H1⟩, M1⟩
  go_wp2
  (try simp only [Exit.inBlock, Exit.then])
  refine bodyPost_ret (results_none rfl _ _ _) rfl ?_
  exact ⟨rfl, ⟨ys, xs, h1, fun y hy => by rw [← mark_bef s i (-1) 0]; exact h2 y hy, fun x hx => by rw [← mark_bef s i (-1) 0]; exact h3 x hx, H1⟩, (((Mut.refl B 1 1939 w).setCell (by omega) (by omega) _).setCell (by omega) (by omega) _).drew.trans M1⟩

set_option maxHeartbeats 4000000 in
theorem place_ahead {w : World} {B : Nat} {s : Wheel} {i n d k z : Nat} {rv : List Nat} (H : WheelAt w B s) (hi : i < 64) (en : s.now = n) (ed : (s.nd i).dl = d) (hd : n < d) (hdn : d < 18446744073709551616) (hk : lvlOf n d = k) (hz : d / 64 ^ k % 64 = z) (P : InsPre s (some (k, z)) i rv) :
    Calls Tryz.prog 183 #[.pointer (some ⟨B, 1, none⟩), .int .i16 (i : Int)] w fun e w' => e = .returned (.tuple #[]) ∧ (∃ ys xs, rv = ys ++ xs ∧ (∀ y ∈ ys, bef s i y = true) ∧ (∀ x, xs.head? = some x → bef s i x = false) ∧ WheelAt w' B ((insF ((s.nLv i k).nSl i z) (some (k, z)) i xs).setOcc k (orOcc (s.occ k) z))) ∧ Mut B 1 1939 w w' := by
  have hk11 : k < 11 := by rw [← hk]; exact lvlOf_lt n d
  have hz64 : z < 64 := by rw [← hz]; exact Nat.mod_lt _ (by omega)
  have hlv := levelFor_any (a := n) (b := d) (by omega) hdn (by omega)
  have hdg := digit_any (t := d) (k := k) hdn hk11
  rw [hz] at hdg
  have hlv' : ∀ w : World, Calls Tryz.prog 209 #[.int .u64 (n : Int), .int .u64 (d : Int)] w fun e w' => e = .returned (.int .i64 (k : Int)) ∧ w' = w := fun w => by
    have := hlv w
    rw [show (Lib.bitLen (n ^^^ d) - 1) / 6 = k from hk] at this
    exact this
  obtain ⟨c0, _⟩ := H.one
  obtain ⟨_, _, i2, _, _, _, i6, i7⟩ := H.node hi
  have hlt : B < w.heap.size := World.block_lt_of_cell? _ _ c0
  rw [en] at c0
  rw [ed] at i2
  have i0 : (0 : Int) ≤ i := by omega
  have i1 : (i : Int) < 64 := by omega
  have j0 : (0 : Int) ≤ k := by omega
  have j1 : (k : Int) < 11 := by omega
  have l0 : (0 : Int) ≤ z := by omega
  have l1 : (z : Int) < 64 := by omega
  have hdi : ¬ ((d : Int) ≤ n) := by omega
  have fz := H.frz
  have hwk : IntKind.i8.wrap (k : Int) = k := wrap_i8 (by omega)
  have hwz : IntKind.u8.wrap (z : Int) = z := wrap_u8 (by omega)
  have n0 : ¬ (2 + i * 8 + 6 = 2 + i * 8 + 7) := by omega
  have n1 : ¬ (2 + i * 8 + 7 = 2 + i * 8 + 6) := by omega
  clear hlv hz hk
  go_enter Tryz.func183, Tryz.ntmps183
  go_wp2
  go_region_held3 (fun w' => w'.cell? ⟨B, 2 + i * 8 + 2, none⟩ = some (.int .u64 (d : Int)) ∧ w'.cell? ⟨B, 1, none⟩ = some (.int .u64 (n : Int))) (exact ⟨i2, c0⟩) (fail)
  go_wp2
  go_region_held3 (fun w' => w'.cell? ⟨B, 2 + i * 8 + 2, none⟩ = some (.int .u64 (d : Int)) ∧ w'.cell? ⟨B, 1, none⟩ = some (.int .u64 (n : Int))) (exact ⟨i2, c0⟩)
    (first | (go_at_call 209; refine (hlv' _).mono ?_; rintro e w1 ⟨rfl, rfl⟩))
  go_wp2_with fail
  refine (hdg _).mono ?_
  rintro e w1 ⟨rfl, rfl⟩
  go_wp2_with fail
  refine (insert_any (r := some (k, z)) ((H.putLv hi _).putSl hi _).drew.drew ⟨hk11, hz64⟩ hi (P.mark k z).pc P.ni P.hd (P.mark k z).nx).mono ?_
  rintro e w1 ⟨rfl, ⟨ys, xs, h1, h2, h3, H1⟩, M1⟩
  have o1 := H1.bits hk11
  rw [insF_occ] at o1
  have o2 : ((s.nLv i k).nSl i z).occ k = s.occ k := rfl
  rw [o2] at o1
  have HH1 : Hid (∀ y ∈ ys, bef ((s.nLv i k).nSl i z) i y = true) := h2
  have HH2 : Hid (∀ x, xs.head? = some x → bef ((s.nLv i k).nSl i z) i x = false) := h3
  clear fz c0 i2 i6 i7 h2 h3 o2
  have fz := H1.frz
  have hwzz : IntKind.u64.wrap (z : Int) = z := wrap_u64 (by omega)
  go_wp2_with fail
  refine wp_region_held_drew (S := (fun _ => True)) (by kernel_rfl) trivial (fun hHeld => ?_)
  refine wpAnyH_take (i := 0) (oi := { dst := some 71, op := Go.Op.move (Go.Operand.tmp 0), type := 212, pos := _, after := #[], guard := none }) (v := ?vv1) rfl (by kernel_rfl) (by kernel_rfl) (by kernel_rfl) (fun _ _ _ h => h) (Or.inl ⟨by rfl, ?hy1⟩) (by assumption) ?tk1
  case hy1 => (intro w hSw; (try dsimp only at hSw); go_simp; (try with_reducible rfl))
  try simp only [Act.put, List.setIfInBounds_toArray, List.set_cons_zero, List.set_cons_succ]
  refine wpAnyH_take (i := 1) (oi := { dst := some 72, op := Go.Op.move (Go.Operand.tmp 5), type := 3, pos := _, after := #[], guard := none }) (v := ?vv2) rfl (by kernel_rfl) (by kernel_rfl) (by kernel_rfl) (fun _ _ _ h => h) (Or.inl ⟨by rfl, ?hy2⟩) (by assumption) ?tk2
  case hy2 => (intro w hSw; (try dsimp only at hSw); go_simp; (try with_reducible rfl))
  try simp only [Act.put, List.setIfInBounds_toArray, List.set_cons_zero, List.set_cons_succ]
  refine wpAnyH_take (i := 2) (oi := { dst := some 73, op := Go.Op.nilCheck (Go.Operand.tmp 71), type := 0, pos := _, after := #[{ on := 0, ground := Go.Ground.data }], guard := none }) (v := ?vv3) rfl (by kernel_rfl) (by kernel_rfl) (by kernel_rfl) (fun _ _ _ h => h) (Or.inl ⟨by rfl, ?hy3⟩) (by assumption) ?tk3
  case hy3 => (intro w hSw; (try dsimp only at hSw); go_simp; (try with_reducible rfl))
  try simp only [Act.put, List.setIfInBounds_toArray, List.set_cons_zero, List.set_cons_succ]
  refine wpAnyH_take (i := 3) (oi := { dst := some 74, op := Go.Op.fieldAddr 168 (Go.Operand.tmp 73) 8, type := 0, pos := _, after := #[{ on := 2, ground := Go.Ground.data }], guard := none }) (v := ?vv4) rfl (by kernel_rfl) (by kernel_rfl) (by kernel_rfl) (fun _ _ _ h => h) (Or.inl ⟨by rfl, ?hy4⟩) (by assumption) ?tk4
  case hy4 => (intro w hSw; (try dsimp only at hSw); go_simp; (try with_reducible rfl))
  try simp only [Act.put, List.setIfInBounds_toArray, List.set_cons_zero, List.set_cons_succ]
  refine wpAnyH_take (i := 4) (oi := { dst := some 75, op := Go.Op.indexAddr 166 (Go.Operand.tmp 74) (Go.Operand.tmp 72), type := 0, pos := _, after := #[{ on := 3, ground := Go.Ground.data }, { on := 1, ground := Go.Ground.data }], guard := none }) (v := ?vv5) rfl (by kernel_rfl) (by kernel_rfl) (by kernel_rfl) (fun _ _ _ h => h) (Or.inl ⟨by rfl, ?hy5⟩) (by assumption) ?tk5
  case hy5 => (intro w hSw; (try dsimp only at hSw); go_simp; (try with_reducible rfl))
  try simp only [Act.put, List.setIfInBounds_toArray, List.set_cons_zero, List.set_cons_succ]
  refine wpAnyH_take (i := 6) (oi := { dst := some 77, op := Go.Op.move (Go.Operand.tmp 6), type := 3, pos := _, after := #[], guard := none }) (v := ?vv6) rfl (by kernel_rfl) (by kernel_rfl) (by kernel_rfl) (fun _ _ _ h => h) (Or.inl ⟨by rfl, ?hy6⟩) (by assumption) ?tk6
  case hy6 => (intro w hSw; (try dsimp only at hSw); go_simp; (try with_reducible rfl))
  try simp only [Act.put, List.setIfInBounds_toArray, List.set_cons_zero, List.set_cons_succ]
  refine wpAnyH_take (i := 7) (oi := { dst := some 78, op := Go.Op.convert 3 275 (Go.Operand.tmp 77), type := 275, pos := _, after := #[{ on := 6, ground := Go.Ground.data }], guard := none }) (v := ?vv7) rfl (by kernel_rfl) (by kernel_rfl) (by kernel_rfl) (fun _ _ _ h => h) (Or.inl ⟨by rfl, ?hy7⟩) (by assumption) ?tk7
  case hy7 => (intro w hSw; (try dsimp only at hSw); go_simp; (try with_reducible rfl))
  try simp only [Act.put, List.setIfInBounds_toArray, List.set_cons_zero, List.set_cons_succ]
  refine wpAnyH_take (i := 8) (oi := { dst := some 79, op := Go.Op.binOp Go.BinOp.shl 28 (Go.Operand.const (Go.Value.int Go.IntKind.u64 1)) (Go.Operand.tmp 78) 275, type := 28, pos := _, after := #[{ on := 7, ground := Go.Ground.data }], guard := none }) (v := ?vv8) rfl (by kernel_rfl) (by kernel_rfl) (by kernel_rfl) (fun _ _ _ h => h) (Or.inl ⟨by rfl, ?hy8⟩) (by assumption) ?tk8
  case hy8 => (intro w hSw; (try dsimp only at hSw); go_simp; (try with_reducible rfl))
  try simp only [Act.put, List.setIfInBounds_toArray, List.set_cons_zero, List.set_cons_succ]
  refine wpAnyH_take (i := 10) (oi := { dst := some 81, op := Go.Op.nilCheck (Go.Operand.tmp 71), type := 0, pos := _, after := #[{ on := 0, ground := Go.Ground.data }], guard := none }) (v := ?vv9) rfl (by kernel_rfl) (by kernel_rfl) (by kernel_rfl) (fun _ _ _ h => h) (Or.inl ⟨by rfl, ?hy9⟩) (by assumption) ?tk9
  case hy9 => (intro w hSw; (try dsimp only at hSw); go_simp; (try with_reducible rfl))
  try simp only [Act.put, List.setIfInBounds_toArray, List.set_cons_zero, List.set_cons_succ]
  refine wpAnyH_take (i := 11) (oi := { dst := some 82, op := Go.Op.fieldAddr 168 (Go.Operand.tmp 81) 8, type := 0, pos := _, after := #[{ on := 10, ground := Go.Ground.data }], guard := none }) (v := ?vv10) rfl (by kernel_rfl) (by kernel_rfl) (by kernel_rfl) (fun _ _ _ h => h) (Or.inl ⟨by rfl, ?hy10⟩) (by assumption) ?tk10
  case hy10 => (intro w hSw; (try dsimp only at hSw); go_simp; (try with_reducible rfl))
  try simp only [Act.put, List.setIfInBounds_toArray, List.set_cons_zero, List.set_cons_succ]
  refine wpAnyH_ready (rs := [5]) (by kernel_rfl) (by simp) ?_
  refine AllReadyH.cons (o := { dst := some 76, op := Go.Op.load 28 (Go.Operand.tmp 75), type := 28, pos := _, after := #[{ on := 4, ground := Go.Ground.data }], guard := none }) rfl (fun K' hK' => ?_) AllReadyH.nil
  go_simp
  clear hHeld
  refine hK'.out _ _ trivial (fun hHeld => ?_)
  clear hK' K'
  try simp only [Act.put, List.setIfInBounds_toArray, List.set_cons_zero, List.set_cons_succ]
  refine wpAnyH_take (i := 9) (oi := { dst := some 80, op := Go.Op.binOp Go.BinOp.or 28 (Go.Operand.tmp 76) (Go.Operand.tmp 79) 28, type := 28, pos := _, after := #[{ on := 5, ground := Go.Ground.data }, { on := 8, ground := Go.Ground.data }], guard := none }) (v := ?vv11) rfl (by kernel_rfl) (by kernel_rfl) (by kernel_rfl) (fun _ _ _ h => h) (Or.inl ⟨by rfl, ?hy11⟩) (by assumption) ?tk11
  case hy11 => (intro w hSw; (try dsimp only at hSw); go_simp; (try with_reducible rfl))
  try simp only [Act.put, List.setIfInBounds_toArray, List.set_cons_zero, List.set_cons_succ]
  refine wpAnyH_take (i := 12) (oi := { dst := some 83, op := Go.Op.indexAddr 166 (Go.Operand.tmp 82) (Go.Operand.tmp 72), type := 0, pos := _, after := #[{ on := 11, ground := Go.Ground.data }, { on := 1, ground := Go.Ground.data }, { on := 0, ground := Go.Ground.phase }, { on := 1, ground := Go.Ground.phase }, { on := 2, ground := Go.Ground.phase }, { on := 3, ground := Go.Ground.phase }, { on := 4, ground := Go.Ground.phase }, { on := 5, ground := Go.Ground.phase }, { on := 6, ground := Go.Ground.phase }, { on := 7, ground := Go.Ground.phase }, { on := 8, ground := Go.Ground.phase }, { on := 9, ground := Go.Ground.phase }], guard := none }) (v := ?vv12) rfl (by kernel_rfl) (by kernel_rfl) (by kernel_rfl) (fun _ _ _ h => h) (Or.inl ⟨by rfl, ?hy12⟩) (by assumption) ?tk12
  case hy12 => (intro w hSw; (try dsimp only at hSw); go_simp; (try with_reducible rfl))
  try simp only [Act.put, List.setIfInBounds_toArray, List.set_cons_zero, List.set_cons_succ]
  refine wpAnyH_ready (rs := [13]) (by kernel_rfl) (by simp) ?_
  refine AllReadyH.cons (o := { dst := none, op := Go.Op.store 28 (Go.Operand.tmp 83) (Go.Operand.tmp 80), type := 0, pos := _, after := #[{ on := 12, ground := Go.Ground.data }, { on := 9, ground := Go.Ground.data }, { on := 0, ground := Go.Ground.phase }, { on := 1, ground := Go.Ground.phase }, { on := 2, ground := Go.Ground.phase }, { on := 3, ground := Go.Ground.phase }, { on := 4, ground := Go.Ground.phase }, { on := 5, ground := Go.Ground.phase }, { on := 6, ground := Go.Ground.phase }, { on := 7, ground := Go.Ground.phase }, { on := 8, ground := Go.Ground.phase }, { on := 9, ground := Go.Ground.phase }], guard := none }) rfl (fun K' hK' => ?_) AllReadyH.nil
  go_simp
  clear hHeld
  refine hK'.out _ _ trivial (fun hHeld => ?_)
  clear hK' K'
  try simp only [Act.put, List.setIfInBounds_toArray, List.set_cons_zero, List.set_cons_succ]
  refine wpAnyH_done (by kernel_rfl) ?_ _
  go_wp2
  go_end0
  exact ⟨rfl, ⟨ys, xs, h1, fun y hy => by rw [← mark_bef s i k z]; exact HH1.out y hy, fun x hx => by rw [← mark_bef s i k z]; exact HH2.out x hx, (H1.putOcc hk11 _).drew⟩,
    ((((((Mut.refl B 1 1939 w).setCell (by omega) (by omega) _).setCell (by omega) (by omega) _).drew.drew).trans M1).setCell (by omega) (by omega) _).drew⟩
end Go.Proofs.Qxb6500877aGreatDoor
