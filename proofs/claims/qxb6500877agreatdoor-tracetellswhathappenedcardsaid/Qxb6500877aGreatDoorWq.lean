import Derived.Test.Qxb6500877aGreatDoorWp
import Derived.Test.Qxb6500877aGreatDoorWfdA
import Derived.Test.Qxb6500877aGreatDoorWfdB
import Derived.Test.Qxb6500877aGreatDoorWfdC
import Derived.Test.Qxb6500877aGreatDoorWfdD
import Derived.Test.Qxb6500877aGreatDoorWfsA
import Derived.Test.Qxb6500877aGreatDoorWfsB
import Derived.Test.Qxb6500877aGreatDoorWfsC
import Derived.Test.Qxb6500877aGreatDoorWfsD
set_option linter.unusedVariables false
set_option linter.unusedSimpArgs false
namespace Go.Proofs.Qxb6500877aGreatDoor
open Go.RowKit

theorem bitLenAux_pow : ∀ (f x : Nat), x < 2 ^ f → x < 2 ^ Lib.bitLenAux f x
  | 0, x, h => by simpa [Lib.bitLenAux] using h
  | f + 1, x, h => by
    unfold Lib.bitLenAux
    by_cases e : x = 0
    · rw [if_pos e]; omega
    · rw [if_neg e]
      have h1 := bitLenAux_pow f (x / 2) (by rw [Nat.pow_succ] at h; omega)
      rw [show (2 : Nat) ^ (1 + Lib.bitLenAux f (x / 2)) = 2 * 2 ^ Lib.bitLenAux f (x / 2) by rw [Nat.add_comm, Nat.pow_succ, Nat.mul_comm]]
      omega
theorem bitLenAux_bound : ∀ (f x j : Nat), x < 2 ^ j → Lib.bitLenAux f x ≤ j
  | 0, x, j, h => by simp [Lib.bitLenAux]
  | f + 1, x, j, h => by
    unfold Lib.bitLenAux
    by_cases e : x = 0
    · rw [if_pos e]; omega
    · rw [if_neg e]
      match j, h with
      | 0, h => simp at h; omega
      | j + 1, h =>
        have := bitLenAux_bound f (x / 2) j (by rw [Nat.pow_succ] at h; omega)
        omega
theorem lvl_agree {n d : Nat} (hn : n < 18446744073709551616) (hd : d < 18446744073709551616) : d / 64 ^ (lvlOf n d + 1) = n / 64 ^ (lvlOf n d + 1) := by
  have hx := Nat.xor_lt_two_pow (n := 64) (x := n) (y := d) (by rw [p64]; exact hn) (by rw [p64]; exact hd)
  have h1 : n ^^^ d < 2 ^ Lib.bitLen (n ^^^ d) := bitLenAux_pow 64 _ hx
  have h2 : Lib.bitLen (n ^^^ d) ≤ (lvlOf n d + 1) * 6 := by unfold lvlOf; omega
  have h3 : n ^^^ d < 2 ^ ((lvlOf n d + 1) * 6) := Nat.lt_of_lt_of_le h1 (Nat.pow_le_pow_right (by omega) h2)
  have h4 : (n ^^^ d) >>> ((lvlOf n d + 1) * 6) = 0 := by rw [Nat.shiftRight_eq_div_pow]; exact Nat.div_eq_of_lt h3
  rw [Nat.shiftRight_xor_distrib] at h4
  have h5 := xor_zero h4
  rw [Nat.shiftRight_eq_div_pow, Nat.shiftRight_eq_div_pow, pow64] at h5
  exact h5.symm
theorem lvl_digit {n d k z : Nat} (hn : n < 18446744073709551616) (hd : d < 18446744073709551616) (hk : lvlOf n d = k) (hz : d / 64 ^ k % 64 = z) : d / 64 ^ k = n / 64 ^ (k + 1) * 64 + z := by
  have h := lvl_agree hn hd
  rw [hk] at h
  rw [← h, Nat.pow_succ, ← Nat.div_div_eq_div_mul]
  omega
theorem lvl_below {n d k : Nat} (hne : n ≠ d) (h : d / 64 ^ k = n / 64 ^ k) : lvlOf n d < k := by
  have hx : n ^^^ d ≠ 0 := fun e => hne (xor_zero e)
  have h4 : (n ^^^ d) >>> (k * 6) = 0 := by
    rw [Nat.shiftRight_xor_distrib, Nat.shiftRight_eq_div_pow, Nat.shiftRight_eq_div_pow, pow64, h, Nat.xor_self]
  have h5 : n ^^^ d < 2 ^ (k * 6) := by
    rw [Nat.shiftRight_eq_div_pow] at h4
    have hp : 0 < 2 ^ (k * 6) := Nat.pos_of_ne_zero (by simp)
    rcases (Nat.div_eq_zero_iff).1 h4 with e | e
    · omega
    · exact e
  have h6 : Lib.bitLen (n ^^^ d) ≤ k * 6 := bitLenAux_bound 64 _ _ h5
  have h7 := bitLen_pos hx
  unfold lvlOf
  omega

/-- What it does to take row i out from between A and C. -/
structure UnlEff (s s' : Wheel) (r : Option (Nat × Nat)) (i : Nat) (A C : List Nat) : Prop where
  nd : ∀ x, s'.nd x = if x = i then { s.nd i with pv := -1, nx := -1, lv := -3, sl := 0 } else { s.nd x with pv := if hdOr C = x then laOr A else (s.nd x).pv, nx := if laOr A = x then hdOr C else (s.nd x).nx }
  lh : ∀ q, s'.lh q = if q = r ∧ A = [] then hdOr C else s.lh q
  lt : ∀ q, s'.lt q = if q = r ∧ C = [] then laOr A else s.lt q
  now : s'.now = s.now
  free : s'.free = s.free
  live : s'.live = s.live
  nid : s'.nid = s.nid
  mb : s'.mb = s.mb
def unlOcc (s : Wheel) (r : Option (Nat × Nat)) (A C : List Nat) : Nat → Int :=
  match r with
  | none => s.occ
  | some (k, z) => if A = [] ∧ C = [] then (fun j => if j = k then notOcc (s.occ k) z else s.occ j) else s.occ

theorem unl_effA (s : Wheel) (r : Option (Nat × Nat)) (i : Nat) (o : Nat → Int) : UnlEff s (unlEnd { (unlA s r) with occ := o } i) r i [] [] := by
  refine ⟨fun x => ?_, fun q => ?_, fun q => ?_, rfl, rfl, rfl, rfl, rfl⟩
  · simp only [unlEnd, unlA, Wheel.nPv, Wheel.nNx, Wheel.nLv, Wheel.nSl, Wheel.setLh, Wheel.setLt, Wheel.setOcc, Wheel.setNd, laOr_nil, hdOr]
    by_cases hx : x = i
    · subst hx; simp
    · have : ¬ ((-1 : Int) = x) := by omega
      simp [hx, this]
  · simp [unlEnd, unlA, Wheel.nPv, Wheel.nNx, Wheel.nLv, Wheel.nSl, Wheel.setLh, Wheel.setLt, Wheel.setOcc, Wheel.setNd, hdOr]
  · simp [unlEnd, unlA, Wheel.nPv, Wheel.nNx, Wheel.nLv, Wheel.nSl, Wheel.setLh, Wheel.setLt, Wheel.setOcc, Wheel.setNd, laOr_nil]
theorem unl_effB (s : Wheel) (r : Option (Nat × Nat)) {i c : Nat} (C : List Nat) (hc : c ≠ i) : UnlEff s (unlEnd (unlB s r c) i) r i [] (c :: C) := by
  have hc' : ¬ (i = c) := fun e => hc e.symm
  refine ⟨fun x => ?_, fun q => ?_, fun q => ?_, rfl, rfl, rfl, rfl, rfl⟩
  · simp only [unlEnd, unlB, Wheel.nPv, Wheel.nNx, Wheel.nLv, Wheel.nSl, Wheel.setLh, Wheel.setLt, Wheel.setOcc, Wheel.setNd, laOr_nil, hdOr]
    by_cases hx : x = i
    · subst hx; simp [hc, hc']
    · have h1 : ¬ ((-1 : Int) = x) := by omega
      by_cases hxc : x = c
      · subst hxc; simp [hx, h1, hc, hc']
      · have h2 : ¬ ((c : Int) = x) := by omega
        simp [hx, h1, hxc, h2]
  · simp [unlEnd, unlB, Wheel.nPv, Wheel.nNx, Wheel.nLv, Wheel.nSl, Wheel.setLh, Wheel.setLt, Wheel.setOcc, Wheel.setNd, hdOr]
  · simp [unlEnd, unlB, Wheel.nPv, Wheel.nNx, Wheel.nLv, Wheel.nSl, Wheel.setLh, Wheel.setLt, Wheel.setOcc, Wheel.setNd, laOr_nil]
theorem unl_effC (s : Wheel) (r : Option (Nat × Nat)) {i p : Nat} (A : List Nat) (hp : p ≠ i) : UnlEff s (unlEnd (unlC s r p) i) r i (A ++ [p]) [] := by
  have hp' : ¬ (i = p) := fun e => hp e.symm
  refine ⟨fun x => ?_, fun q => ?_, fun q => ?_, rfl, rfl, rfl, rfl, rfl⟩
  · simp only [unlEnd, unlC, Wheel.nPv, Wheel.nNx, Wheel.nLv, Wheel.nSl, Wheel.setLh, Wheel.setLt, Wheel.setOcc, Wheel.setNd, laOr_snoc, hdOr]
    by_cases hx : x = i
    · subst hx; simp [hp, hp']
    · have h1 : ¬ ((-1 : Int) = x) := by omega
      by_cases hxp : x = p
      · subst hxp; simp [hx, h1, hp, hp']
      · have h2 : ¬ ((p : Int) = x) := by omega
        simp [hx, h1, hxp, h2]
  · simp [unlEnd, unlC, Wheel.nPv, Wheel.nNx, Wheel.nLv, Wheel.nSl, Wheel.setLh, Wheel.setLt, Wheel.setOcc, Wheel.setNd, hdOr]
  · simp [unlEnd, unlC, Wheel.nPv, Wheel.nNx, Wheel.nLv, Wheel.nSl, Wheel.setLh, Wheel.setLt, Wheel.setOcc, Wheel.setNd, laOr_snoc]
theorem unl_effD (s : Wheel) (r : Option (Nat × Nat)) {i p c : Nat} (A C : List Nat) (hp : p ≠ i) (hc : c ≠ i) (hpc : p ≠ c) : UnlEff s (unlEnd (unlD s p c) i) r i (A ++ [p]) (c :: C) := by
  have hp' : ¬ (i = p) := fun e => hp e.symm
  have hc' : ¬ (i = c) := fun e => hc e.symm
  have hpc' : ¬ (c = p) := fun e => hpc e.symm
  refine ⟨fun x => ?_, fun q => ?_, fun q => ?_, rfl, rfl, rfl, rfl, rfl⟩
  · simp only [unlEnd, unlD, Wheel.nPv, Wheel.nNx, Wheel.nLv, Wheel.nSl, Wheel.setLh, Wheel.setLt, Wheel.setOcc, Wheel.setNd, laOr_snoc, hdOr]
    by_cases hx : x = i
    · subst hx; simp [hp, hp', hc, hc']
    · by_cases hxp : x = p
      · subst hxp
        have h2 : ¬ ((c : Int) = x) := by omega
        simp [hx, hp, hp', hpc, hpc', h2]
      · have h2 : ¬ ((p : Int) = x) := by omega
        by_cases hxc : x = c
        · subst hxc; simp [hx, hxp, h2, hc, hc', hpc, hpc']
        · have h3 : ¬ ((c : Int) = x) := by omega
          simp [hx, hxp, hxc, h2, h3]
  · simp [unlEnd, unlD, Wheel.nPv, Wheel.nNx, Wheel.nLv, Wheel.nSl, Wheel.setLh, Wheel.setLt, Wheel.setOcc, Wheel.setNd, hdOr]
  · simp [unlEnd, unlD, Wheel.nPv, Wheel.nNx, Wheel.nLv, Wheel.nSl, Wheel.setLh, Wheel.setLt, Wheel.setOcc, Wheel.setNd, laOr_snoc]

theorem unlink_any {w : World} {B : Nat} {s : Wheel} {L : Option (Nat × Nat) → List Nat} {fr : List Nat} {f : Int → Option Int} {hand : List Nat} {r : Option (Nat × Nat)} {i : Nat} {A C : List Nat} (H : WheelAt w B s) (I : WInv s L fr f hand) (hr : lOk r) (eL : L r = A ++ i :: C) :
    Calls Tryz.prog 184 #[.pointer (some ⟨B, 1, none⟩), .int .i16 (i : Int)] w fun e w' => e = .returned (.tuple #[]) ∧ (∃ s', UnlEff s s' r i A C ∧ s'.occ = unlOcc s r A C ∧ WheelAt w' B s') ∧ Mut B 1 1939 w w' := by
  have hx : i ∈ L r := by rw [eL]; simp
  obtain ⟨_, hi, elv, esl⟩ := I.mem r i hx
  have D := I.dll r hr
  have hnod := I.nod r
  rw [eL] at D hnod
  obtain ⟨niA, niC, nA, nC, ndA, ndC, _⟩ := nodup_mid hnod
  obtain ⟨S1, e1, _, e3, e4⟩ := seg_join D
  have hlt := seg_lt _ _ _ _ _ D
  have epv : (s.nd i).pv = laOr A := e3
  have enx : (s.nd i).nx = hdOr C := by
    match C, e4 with
    | [], e4 => exact e4.2.symm
    | c :: C, e4 => exact e4.1
  rcases list_end A with rfl | ⟨A', p, rfl⟩
  · rw [laOr_nil] at epv
    match C, enx, niC, hlt with
    | [], enx, _, _ =>
      have enx' : (s.nd i).nx = -1 := enx
      match r, elv, esl, hr with
      | none, elv, _, _ =>
        refine (unlink_due_A H hi elv epv enx').mono ?_
        rintro e w1 ⟨rfl, H1, M1⟩
        exact ⟨rfl, ⟨_, unl_effA s none i s.occ, rfl, H1⟩, M1⟩
      | some (k, z), elv, esl, hr =>
        refine (unlink_slot_A H hi hr.1 hr.2 elv esl epv enx').mono ?_
        rintro e w1 ⟨rfl, H1, M1⟩
        exact ⟨rfl, ⟨_, unl_effA s (some (k, z)) i _, by simp [unlOcc]; rfl, H1⟩, M1⟩
    | c :: C, enx, niC, hlt =>
      have enx' : (s.nd i).nx = (c : Int) := enx
      have hc : c ≠ i := fun e => niC (by simp [e])
      have hc6 : c < 64 := hlt c (by simp)
      match r, elv, esl, hr with
      | none, elv, _, _ =>
        refine (unlink_due_B H hi elv epv hc6 hc enx').mono ?_
        rintro e w1 ⟨rfl, H1, M1⟩
        exact ⟨rfl, ⟨_, unl_effB s none C hc, rfl, H1⟩, M1⟩
      | some (k, z), elv, esl, hr =>
        refine (unlink_slot_B H hi hr.1 hr.2 elv esl epv hc6 hc enx').mono ?_
        rintro e w1 ⟨rfl, H1, M1⟩
        exact ⟨rfl, ⟨_, unl_effB s (some (k, z)) C hc, by simp [unlOcc]; rfl, H1⟩, M1⟩
  · rw [laOr_snoc] at epv
    have hp : p ≠ i := fun e => niA (by simp [e])
    have hp6 : p < 64 := hlt p (by simp)
    have ehd : s.lh r ≠ -1 := by
      have : ∀ l : List Nat, l ≠ [] → Seg 64 (fun x => (s.nd x).pv) (fun x => (s.nd x).nx) (-1) (s.lh r) l (laOr (A' ++ [p])) (hdOr (i :: C)) → s.lh r ≠ -1 := fun l hl h => by
        match l, hl, h with
        | [], hl, _ => exact absurd rfl hl
        | y :: l, _, h => have := h.1; omega
      exact this _ (by simp) S1
    match C, enx, niC, hlt, nA with
    | [], enx, _, _, _ =>
      have enx' : (s.nd i).nx = -1 := enx
      match r, elv, esl, hr, ehd with
      | none, elv, _, _, ehd =>
        refine (unlink_due_C H hi elv hp6 hp epv ehd enx').mono ?_
        rintro e w1 ⟨rfl, H1, M1⟩
        exact ⟨rfl, ⟨_, unl_effC s none A' hp, rfl, H1⟩, M1⟩
      | some (k, z), elv, esl, hr, ehd =>
        refine (unlink_slot_C H hi hr.1 hr.2 elv esl hp6 hp epv ehd enx').mono ?_
        rintro e w1 ⟨rfl, H1, M1⟩
        exact ⟨rfl, ⟨_, unl_effC s (some (k, z)) A' hp, by simp [unlOcc]; rfl, H1⟩, M1⟩
    | c :: C, enx, niC, hlt, nA =>
      have enx' : (s.nd i).nx = (c : Int) := enx
      have hc : c ≠ i := fun e => niC (by simp [e])
      have hc6 : c < 64 := hlt c (by simp)
      have hpc : p ≠ c := fun e => nA p (by simp) (by simp [hdOr, e])
      match r, elv, esl, hr, ehd with
      | none, elv, _, _, ehd =>
        refine (unlink_due_D H hi elv hp6 hp epv ehd hc6 hc enx').mono ?_
        rintro e w1 ⟨rfl, H1, M1⟩
        exact ⟨rfl, ⟨_, unl_effD s none A' C hp hc hpc, rfl, H1⟩, M1⟩
      | some (k, z), elv, esl, hr, ehd =>
        refine (unlink_slot_D H hi hr.1 hr.2 elv esl hp6 hp epv ehd hc6 hc enx').mono ?_
        rintro e w1 ⟨rfl, H1, M1⟩
        exact ⟨rfl, ⟨_, unl_effD s (some (k, z)) A' C hp hc hpc, by simp [unlOcc]; rfl, H1⟩, M1⟩

end Go.Proofs.Qxb6500877aGreatDoor
