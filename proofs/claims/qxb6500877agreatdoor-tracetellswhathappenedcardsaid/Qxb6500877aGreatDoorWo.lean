import Derived.Test.Qxb6500877aGreatDoorWn
set_option linter.unusedVariables false
set_option linter.unusedSimpArgs false
namespace Go.Proofs.Qxb6500877aGreatDoor
open Go.RowKit

def lvOf : Option (Nat × Nat) → Int
  | none => -1
  | some (k, _) => (k : Int)
def slOf : Option (Nat × Nat) → Int
  | none => 0
  | some (_, z) => (z : Int)
theorem home_inj : ∀ {r q : Option (Nat × Nat)}, lvOf r = lvOf q → slOf r = slOf q → r = q
  | none, none, _, _ => rfl
  | none, some (k, z), h, _ => by simp only [lvOf] at h; omega
  | some (k, z), none, h, _ => by simp only [lvOf] at h; omega
  | some (k, z), some (k', z'), h, h' => by
    simp only [lvOf, slOf] at h h'
    have e1 : k = k' := by omega
    have e2 : z = z' := by omega
    rw [e1, e2]

/-- What it does to link row i in between A and C. -/
structure InsEff (s s' : Wheel) (r : Option (Nat × Nat)) (i : Nat) (A C : List Nat) (lv sl : Int) : Prop where
  nd : ∀ x, s'.nd x = if x = i then { s.nd i with pv := laOr A, nx := hdOr C, lv := lv, sl := sl } else { s.nd x with pv := if hdOr C = x then (i : Int) else (s.nd x).pv, nx := if laOr A = x then (i : Int) else (s.nd x).nx }
  lh : ∀ q, s'.lh q = if q = r ∧ A = [] then (i : Int) else s.lh q
  lt : ∀ q, s'.lt q = if q = r ∧ C = [] then (i : Int) else s.lt q
  now : s'.now = s.now
  free : s'.free = s.free
  live : s'.live = s.live
  nid : s'.nid = s.nid
  mb : s'.mb = s.mb

theorem ins_eff {s : Wheel} {r : Option (Nat × Nat)} {i : Nat} {A C xs : List Nat} {lv sl : Int} (D : Dll 64 (fun x => (s.nd x).pv) (fun x => (s.nd x).nx) (s.lh r) (s.lt r) (A ++ C)) (hi : i ∉ A ++ C) (nA : ∀ x ∈ A, hdOr C ≠ x) (e : xs = A.reverse) :
    InsEff s (insF ((s.nLv i lv).nSl i sl) r i xs) r i A C lv sl ∧ (insF ((s.nLv i lv).nSl i sl) r i xs).occ = s.occ := by
  refine ⟨?_, by rw [insF_occ]; rfl⟩
  obtain ⟨S1, S2⟩ := seg_join D
  subst e
  have hC : hdOr C ≠ i := by
    match C, hi with
    | [], _ => simp only [hdOr]; omega
    | c :: C, hi => simp only [hdOr]; intro e; have : c = i := by omega
                    exact hi (by simp [this])
  rcases list_end A with rfl | ⟨A', p, rfl⟩
  · have e1 : hdOr C = s.lh r := S1.2
    have e2 : ((s.nLv i lv).nSl i sl).lh r = s.lh r := rfl
    match C, hC, e1, S2 with
    | [], _, e1, _ =>
      have e3 : s.lh r = -1 := e1.symm
      simp only [List.reverse_nil, insF, e2, e3, if_true]
      refine ⟨fun x => ?_, fun q => ?_, fun q => ?_, rfl, rfl, rfl, rfl, rfl⟩
      · simp only [insA, Wheel.nPv, Wheel.nNx, Wheel.nLv, Wheel.nSl, Wheel.setLh, Wheel.setLt, Wheel.setNd, laOr_nil, hdOr]
        by_cases hx : x = i
        · subst hx; simp
        · have : ¬ ((-1 : Int) = x) := by omega
          simp [hx, this]
      · simp [insA, Wheel.nPv, Wheel.nNx, Wheel.nLv, Wheel.nSl, Wheel.setLh, Wheel.setLt, Wheel.setNd]
      · simp [insA, Wheel.nPv, Wheel.nNx, Wheel.nLv, Wheel.nSl, Wheel.setLh, Wheel.setLt, Wheel.setNd]
    | c :: C, hC, e1, _ =>
      have e3 : s.lh r = (c : Int) := e1.symm
      have hc : ¬ (c = i) := by simp only [hdOr] at hC; omega
      have hc' : ¬ (i = c) := fun e => hc e.symm
      simp only [List.reverse_nil, insF, e2, e3, Int.toNat_natCast]
      rw [if_neg (by omega)]
      refine ⟨fun x => ?_, fun q => ?_, fun q => ?_, rfl, rfl, rfl, rfl, rfl⟩
      · simp only [insB, Wheel.nPv, Wheel.nNx, Wheel.nLv, Wheel.nSl, Wheel.setLh, Wheel.setLt, Wheel.setNd, laOr_nil, hdOr]
        by_cases hx : x = i
        · subst hx; simp [hc, hc']
        · have h1 : ¬ ((-1 : Int) = x) := by omega
          by_cases hxc : x = c
          · subst hxc; simp [hx, h1, hc, hc']
          · have h2 : ¬ ((c : Int) = x) := by omega
            simp [hx, h1, hxc, h2]
      · simp [insB, Wheel.nPv, Wheel.nNx, Wheel.nLv, Wheel.nSl, Wheel.setLh, Wheel.setLt, Wheel.setNd]
      · simp [insB, Wheel.nPv, Wheel.nNx, Wheel.nLv, Wheel.nSl, Wheel.setLh, Wheel.setLt, Wheel.setNd]
  · have hp : ¬ (p = i) := fun e => hi (by simp [e])
    have hp' : ¬ (i = p) := fun e => hp e.symm
    have e1 : hdOr C = (s.nd p).nx := (seg_last S1).2
    have e2 : (((s.nLv i lv).nSl i sl).nd p).nx = (s.nd p).nx := (mark_nd s i lv sl p).2.1
    have hpC : hdOr C ≠ p := nA p (by simp)
    simp only [List.reverse_append, List.reverse_cons, List.reverse_nil, List.nil_append, List.singleton_append, insF, e2]
    match C, hC, e1, hpC with
    | [], _, e1, _ =>
      have e3 : (s.nd p).nx = -1 := e1.symm
      rw [if_pos e3]
      refine ⟨fun x => ?_, fun q => ?_, fun q => ?_, rfl, rfl, rfl, rfl, rfl⟩
      · simp only [insC, Wheel.nPv, Wheel.nNx, Wheel.nLv, Wheel.nSl, Wheel.setLh, Wheel.setLt, Wheel.setNd, laOr_snoc, hdOr]
        by_cases hx : x = i
        · subst hx; simp [hp, hp']
        · have h1 : ¬ ((-1 : Int) = x) := by omega
          by_cases hxp : x = p
          · subst hxp; simp [hx, h1, hp, hp']
          · have h2 : ¬ ((p : Int) = x) := by omega
            simp [hx, h1, hxp, h2]
      · simp [insC, Wheel.nPv, Wheel.nNx, Wheel.nLv, Wheel.nSl, Wheel.setLh, Wheel.setLt, Wheel.setNd]
      · simp [insC, Wheel.nPv, Wheel.nNx, Wheel.nLv, Wheel.nSl, Wheel.setLh, Wheel.setLt, Wheel.setNd]
    | c :: C, hC, e1, hpC =>
      have e3 : (s.nd p).nx = (c : Int) := e1.symm
      have hc : ¬ (c = i) := by simp only [hdOr] at hC; omega
      have hc' : ¬ (i = c) := fun e => hc e.symm
      have hpc : ¬ (p = c) := by simp only [hdOr] at hpC; omega
      have hpc' : ¬ (c = p) := fun e => hpc e.symm
      rw [e3, if_neg (by omega), Int.toNat_natCast]
      refine ⟨fun x => ?_, fun q => ?_, fun q => ?_, rfl, rfl, rfl, rfl, rfl⟩
      · simp only [insD, Wheel.nPv, Wheel.nNx, Wheel.nLv, Wheel.nSl, Wheel.setLh, Wheel.setLt, Wheel.setNd, laOr_snoc, hdOr]
        by_cases hx : x = i
        · subst hx; simp [hp, hp', hc, hc']
        · by_cases hxp : x = p
          · subst hxp
            have h2 : ¬ ((c : Int) = x) := by omega
            simp [hx, hp, hp', hpc, hpc', h2]
          · have h2 : ¬ ((p : Int) = x) := by omega
            by_cases hxc : x = c
            · subst hxc; simp [hx, hxp, h2, hc, hc', hpc, hpc']
            · have h3 : ¬ ((c : Int) = x) := by omega
              simp [hx, hxp, hxc, h2, h3]
      · simp [insD, Wheel.nPv, Wheel.nNx, Wheel.nLv, Wheel.nSl, Wheel.setLh, Wheel.setLt, Wheel.setNd]
      · simp [insD, Wheel.nPv, Wheel.nNx, Wheel.nLv, Wheel.nSl, Wheel.setLh, Wheel.setLt, Wheel.setNd]

end Go.Proofs.Qxb6500877aGreatDoor
