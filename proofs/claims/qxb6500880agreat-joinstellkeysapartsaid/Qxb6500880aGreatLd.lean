import Derived.Deep.CutBlock
import Derived.OwnWalk
import Derived.Maps.AppendAt
import Derived.Maps.OwnSet
import Derived.Maps.OwnOps
import Derived.Laws.ResultCell
import Derived.Test.Qxb6500880aGreatLc
import Derived.Test.Qxb6500880aGreatTc
set_option linter.unusedVariables false
set_option linter.unusedSimpArgs false
namespace Go.Proofs.Qxb6500880aGreat
open Go.RowKit

theorem fkN_e {np i : Nat} (h : fkN np i = kf 1) : 64 ≤ i ∧ i < 64 + np := by
  unfold fkN at h
  split at h
  · cases h
  · split at h
    · omega
    · cases h
theorem fkN_ee {np i : Nat} (h : i < np) : fkN np (64 + i) = kf 1 := by
  unfold fkN; rw [if_neg (by omega), if_pos (by omega)]; rfl
theorem fkN_cc {np i : Nat} : fkN np (64 + np + i) = kf 0 := by
  unfold fkN; rw [if_neg (by omega), if_neg (by omega)]; rfl
/-- The keys that two plain loops want. -/
def WantK (np nt fs sn : Nat) (fv : Nat → Nat → Nat) (r : Nat → Nat) : Prop := ∃ j, j < nt ∧ (∃ i, i < np ∧ fv (64 + np + j) fs = fv (64 + i) 0 ∧ fv (64 + np + j) sn = fv (64 + i) 1) ∧ same3 (fv (64 + np + j)) r
/-- The engine's answer has as many rows as keys are wanted, and each row is wanted. -/
theorem want_eq {np nt fs sn rows0 rows1 rows2 n : Nat} {fv ky : Nat → Nat → Nat} {d0 d1 d2 cf : Nat → Nat} (hfs : fs < 3) (hsn : sn < 3) (cf0 : cf 0 = fs) (cf1 : cf 1 = sn)
    (ct0 : ∀ r, hasR d0 3 rows0 r ↔ ∃ i', i' < 64 + np + nt ∧ fkN np i' = kf 0 ∧ ∀ t, t < 3 → fv i' t = r t) (ct1 : ∀ r, hasR d1 2 rows1 r ↔ ∃ i', i' < 64 + np + nt ∧ fkN np i' = kf 1 ∧ ∀ t, t < 2 → fv i' t = r t)
    (K : KI d0 rows0 d2 rows2 (fun r => ∃ i, i < rows1 ∧ ∀ t, t < 2 → d0 (r * 3 + cf t) = d1 (i * 2 + t))) (D : distR d2 3 rows2)
    (hk : ∀ r, (∃ i, i < n ∧ same3 (ky i) r) ↔ WantK np nt fs sn fv r) (hd : ∀ i j, i < n → j < i → ¬ same3 (ky i) (ky j)) :
    rows2 = n ∧ ∀ j, j < rows2 → ∃ i, i < n ∧ same3 (ky i) (fun t => d2 (j * 3 + t)) := by
  have A : ∀ j, j < rows2 → ∃ i, i < n ∧ same3 (ky i) (fun t => d2 (j * 3 + t)) := fun j hj => by
    obtain ⟨r, hr, ⟨i, hi, hF⟩, hrow⟩ := K.a j hj
    obtain ⟨i', h1, h2, h3⟩ := (ct0 _).1 (row_in (A := 3) hr)
    obtain ⟨i2, g1, g2, g3⟩ := (ct1 _).1 (row_in (A := 2) hi)
    have hc := fkN_c h2
    have he := fkN_e g2
    refine (hk _).2 ⟨i' - (64 + np), by omega, ⟨i2 - 64, by omega, ?_, ?_⟩, fun t ht => ?_⟩
    · rw [show 64 + np + (i' - (64 + np)) = i' by omega, show 64 + (i2 - 64) = i2 by omega]
      have e1 := hF 0 (by omega)
      rw [cf0] at e1
      exact (h3 fs hfs).trans (e1.trans (g3 0 (by omega)).symm)
    · rw [show 64 + np + (i' - (64 + np)) = i' by omega, show 64 + (i2 - 64) = i2 by omega]
      have e1 := hF 1 (by omega)
      rw [cf1] at e1
      exact (h3 sn hsn).trans (e1.trans (g3 1 (by omega)).symm)
    · rw [show 64 + np + (i' - (64 + np)) = i' by omega]
      exact (h3 t ht).trans (hrow t ht).symm
  have Bk : ∀ i, i < n → ∃ j, j < rows2 ∧ same3 (ky i) (fun t => d2 (j * 3 + t)) := fun i hi => by
    obtain ⟨j', hj', ⟨i0, hi0, m0, m1⟩, hs⟩ := (hk (ky i)).1 ⟨i, hi, fun t _ => rfl⟩
    obtain ⟨r, hr, hr'⟩ := (ct0 (fv (64 + np + j'))).2 ⟨64 + np + j', by omega, fkN_cc, fun t _ => rfl⟩
    obtain ⟨i1, hi1, hi1'⟩ := (ct1 (fv (64 + i0))).2 ⟨64 + i0, by omega, fkN_ee hi0, fun t _ => rfl⟩
    obtain ⟨j, hj, hrow⟩ := K.b r hr ⟨i1, hi1, fun t ht => by
      rcases (by omega : t = 0 ∨ t = 1) with e | e
      · subst e; rw [cf0, hr' fs hfs, m0]; exact (hi1' 0 (by omega)).symm
      · subst e; rw [cf1, hr' sn hsn, m1]; exact (hi1' 1 (by omega)).symm⟩
    refine ⟨j, hj, fun t ht => ?_⟩
    show ky i t = d2 (j * 3 + t)
    rw [hrow t ht, hr' t ht]
    exact (hs t ht).symm
  refine ⟨Nat.le_antisymm ?_ ?_, A⟩
  · have hx : ∀ j, ∃ i, j < rows2 → i < n ∧ same3 (ky i) (fun t => d2 (j * 3 + t)) := fun j => by
      by_cases q : j < rows2
      · obtain ⟨i, h1, h2⟩ := A j q
        exact ⟨i, fun _ => ⟨h1, h2⟩⟩
      · exact ⟨0, fun z => absurd z q⟩
    refine pigeonM n rows2 (fun j => Classical.choose (hx j)) (fun i hi => (Classical.choose_spec (hx i) hi).1) (fun i j hi hj e => ?_)
    have h1 := (Classical.choose_spec (hx i) hi).2
    have h2 := (Classical.choose_spec (hx j) (by omega)).2
    have e' : Classical.choose (hx i) = Classical.choose (hx j) := e
    rw [e'] at h1
    exact D i j hi hj (fun c hc => (h2 c hc).symm.trans (h1 c hc))
  · have hx : ∀ i, ∃ j, i < n → j < rows2 ∧ same3 (ky i) (fun t => d2 (j * 3 + t)) := fun i => by
      by_cases q : i < n
      · obtain ⟨j, h1, h2⟩ := Bk i q
        exact ⟨j, fun _ => ⟨h1, h2⟩⟩
      · exact ⟨0, fun z => absurd z q⟩
    refine pigeonM rows2 n (fun i => Classical.choose (hx i)) (fun i hi => (Classical.choose_spec (hx i) hi).1) (fun i j hi hj e => ?_)
    have h1 := (Classical.choose_spec (hx i) hi).2
    have h2 := (Classical.choose_spec (hx j) (by omega)).2
    have e' : Classical.choose (hx i) = Classical.choose (hx j) := e
    rw [e'] at h1
    exact hd i j hi hj (fun t ht => (h1 t ht).trans (h2 t ht).symm)
end Go.Proofs.Qxb6500880aGreat
