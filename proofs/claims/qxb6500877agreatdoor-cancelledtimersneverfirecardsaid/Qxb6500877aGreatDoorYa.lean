import Derived.Test.Qxb6500877aGreatDoorVf1
set_option linter.unusedVariables false
set_option linter.unusedSimpArgs false
namespace Go.Proofs.Qxb6500877aGreatDoor
open Go.RowKit

theorem Mach.idn {w : World} {B mb t k : Nat} {ν : Net} {τ : TSt} (h : Mach w B mb t k ν τ) {id : Int} {v : TmV} (e : τ.tm id = some v) : id < τ.nx := by
  obtain ⟨s, L, fr, f, T, I, q1, q2, q3⟩ := h.tim
  rw [← q3.tm] at e
  obtain ⟨x, _, hx, rfl, _⟩ := tm_some I e
  have := (q3.wo.inm x hx).2.2
  rw [q3.nx] at this
  exact this
theorem Mach.dlr {w : World} {B mb t k : Nat} {ν : Net} {τ : TSt} (h : Mach w B mb t k ν τ) {id : Int} {v : TmV} (e : τ.tm id = some v) : v.dl < 18446744073709551616 := by
  obtain ⟨s, L, fr, f, T, I, q1, q2, q3⟩ := h.tim
  rw [← q3.tm] at e
  obtain ⟨x, hx, _, _, rfl⟩ := tm_some I e
  obtain ⟨d, h1, h2⟩ := I.dls x hx
  show (s.nd x).dl < _
  omega
theorem plainElem_bool_inv {H : Type} {P : Program} {e : TypeId} (he : P.underlying e = some .bool) {v : Value} {z : DataW H × List MemPlace} (h : plainElem P e v = some z) : ∃ x, v = .bool x ∧ z = (.lit (.bool x), []) := by
  unfold plainElem at h
  rw [he] at h
  cases v <;> simp at h
  exact ⟨_, rfl, h.symm⟩
theorem MapB.look {w : World} {b n : Nat} {χ : Int → Bool} (h : MapB w b n χ) {id : Int} (h0 : 0 ≤ id) (h1 : id < 18446744073709551616) :
    (Instr.lookup 89 (.map (some b)) (.int .u64 id) false).run Tryz.prog w = .ok (.bool (χ id)) w := by
  obtain ⟨D, h, r⟩ := h
  have hz : (zeroValue 4).run Tryz.prog w = .ok (.bool false) w := by kernel_rfl
  obtain ⟨v, ps, hrun, hv⟩ := World.ownsMap.lookup h mapLaw Tryz.underlying89 hz (plainElem_bool Tryz.underlying4 false) (key64 h0 h1)
  rw [r id h0 h1] at hv
  rw [hrun]
  obtain ⟨x, rfl, e⟩ := plainElem_bool_inv Tryz.underlying4 hv
  have e1 := congrArg Prod.fst e
  simp at e1
  rw [e1]
/-- What a step does to the timers, with the ids. -/
def TimX (o : OpS) (t : Nat) (τ : TSt) (c tm : Int) (l : List FiredS) (τ' : TSt) : Prop :=
  TimR o t τ c tm l τ' ∧ τ.nx ≤ τ'.nx ∧ (o.kd = 9 → c = 0 → ∃ v, τ.tm o.x = some v)
/-- A cancelled timer is not pending, and was armed. -/
def CanOk (χ : Int → Bool) (τ : TSt) : Prop := ∀ id, χ id = true → τ.tm id = none ∧ id < τ.nx
theorem timx_all {o : OpS} {t : Nat} {τ τ' : TSt} {c tm : Int} {l : List FiredS} {χ : Int → Bool} (h : TimX o t τ c tm l τ') (hi : CanOk χ τ) (hn : ∀ id v, τ.tm id = some v → id < τ.nx ∧ 0 ≤ id ∧ id < 18446744073709551616) :
    (∀ e ∈ l, (0 ≤ e.id ∧ e.id < 18446744073709551616) ∧ noteX o c χ e.id = false) ∧ drops (noteT o c tm t τ.tm) l = τ'.tm ∧ CanOk (noteX o c χ) τ' := by
  obtain ⟨hT, hx, h9⟩ := h
  have hnot : ∀ id v, τ.tm id = some v → χ id = false := fun id v e => by
    cases hc : χ id with
    | false => rfl
    | true => rw [(hi id hc).1] at e; simp at e
  rcases hT with ⟨hk, hnx, hA⟩ | ⟨hk, rfl, hτ, h67, h8⟩
  · have eX : noteX o c χ = χ := by unfold noteX; rw [if_neg (by omega)]
    have eT : noteT o c tm t τ.tm = τ.tm := noteT_else (by omega)
    rw [eX, eT]
    rcases hA with ⟨_, rfl, rfl⟩ | ⟨_, A⟩
    · exact ⟨fun e he => by simp at he, drops_nil _, hi⟩
    · refine ⟨fun e he => ?_, drops_all A, fun id hid => ⟨?_, by have := (hi id hid).2; omega⟩⟩
      · have h1 := (A.fin e he).1
        exact ⟨(hn _ _ h1).2, hnot _ _ h1⟩
      · cases hq : τ'.tm id with
        | none => rfl
        | some v => have := (A.rest id v).1 hq; rw [(hi id hid).1] at this; simp at this
  · refine ⟨fun e he => by simp at he, by rw [drops_nil]; exact hτ.symm, fun id hid => ?_⟩
    rw [hτ]
    unfold noteX at hid
    unfold noteT
    by_cases hc : c = 0
    · rw [if_neg (by simp [hc])]
      by_cases k6 : o.kd = 6
      · rw [if_pos k6]
        rw [if_neg (by omega)] at hid
        have := hi id hid
        have e := h67 (.inl k6) hc
        exact ⟨by unfold updT; rw [if_neg (by omega)]; exact this.1, by omega⟩
      rw [if_neg k6]
      by_cases k7 : o.kd = 7
      · rw [if_pos k7]
        rw [if_neg (by omega)] at hid
        have := hi id hid
        have e := h67 (.inr k7) hc
        exact ⟨by unfold updT; rw [if_neg (by omega)]; exact this.1, by omega⟩
      rw [if_neg k7]
      by_cases k8 : o.kd = 8
      · rw [if_pos k8]
        rw [if_neg (by omega)] at hid
        have := hi id hid
        refine ⟨?_, by omega⟩
        unfold updT
        split
        · rename_i e
          rw [← e, this.1]
          rfl
        · exact this.1
      rw [if_neg k8]
      by_cases k9 : o.kd = 9
      · rw [if_pos k9]
        rw [if_pos ⟨hc, k9⟩] at hid
        unfold updT
        by_cases e : id = o.x
        · rw [if_pos e]
          obtain ⟨v, hv⟩ := h9 k9 hc
          have := (hn _ _ hv).1
          exact ⟨rfl, by omega⟩
        · rw [if_neg e] at hid ⊢
          have := hi id hid
          exact ⟨this.1, by omega⟩
      · rw [if_neg k9]
        rw [if_neg (by omega)] at hid
        have := hi id hid
        exact ⟨this.1, by omega⟩
    · rw [if_pos hc]
      rw [if_neg (by omega)] at hid
      have := hi id hid
      exact ⟨this.1, by omega⟩
theorem after_max (t : Nat) (ht : t < 18446744073709551616) : afterF t 18446744073709551615 = 18446744073709551615 := by
  unfold afterF
  split <;> omega
theorem gone_all {w : World} {B mb t k : Nat} {ν : Net} {τ τ' : TSt} {ft : Nat} {l : List FiredS} (M : Mach w B mb t k ν τ') (A : AdvR τ.tm τ'.tm 18446744073709551615 ft l) : ∀ id, τ'.tm id = none := fun id => by
  cases h : τ'.tm id with
  | none => rfl
  | some v =>
    have h1 := A.late id v h
    have h2 := M.dlr h
    omega
end Go.Proofs.Qxb6500877aGreatDoor
