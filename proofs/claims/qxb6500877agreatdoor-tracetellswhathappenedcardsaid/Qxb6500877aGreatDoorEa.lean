import Derived.Test.Qxb6500877aGreatDoorDb
set_option linter.unusedVariables false
set_option linter.unusedSimpArgs false
namespace Go.Proofs.Qxb6500877aGreatDoor
open Go.RowKit

theorem afterF_nil (t : Nat) : afterF t 0 = t := by unfold afterF; rw [if_neg (by omega)]; rfl
theorem AdvR.mem {τ τ' : Int → Option TmV} {til ft : Nat} {l : List FiredS} (A : AdvR τ τ' til ft l) (e : FiredS) : e ∈ l ↔ (τ e.id = some ⟨e.core, e.dl, e.ck⟩ ∧ e.dl ≤ (til : Int) ∧ e.t = max e.dl (ft : Int)) := by
  constructor
  · exact A.fin e
  · rintro ⟨h1, h2, h3⟩
    apply Classical.byContradiction
    intro hn
    have hx : ∃ e' ∈ l, e'.id = e.id := by
      apply Classical.byContradiction
      intro hne
      have h4 := (A.rest e.id ⟨e.core, e.dl, e.ck⟩).2 ⟨h1, fun e' he' q => hne ⟨e', he', q⟩⟩
      have h5 : (til : Int) < e.dl := A.late _ _ h4
      omega
    obtain ⟨e', he', q⟩ := hx
    obtain ⟨g1, g2, g3⟩ := A.fin e' he'
    rw [q, h1] at g1
    simp only [Option.some.injEq, TmV.mk.injEq] at g1
    apply hn
    have : e = e' := by
      cases e; cases e'
      simp only [FiredS.mk.injEq] at *
      obtain ⟨q1, q2, q3⟩ := g1
      subst q1 q2 q3
      exact ⟨q.symm, rfl, rfl, rfl, by rw [h3, g3]⟩
    rw [this]
    exact he'
theorem AdvR.unique {τ τ1 τ2 : Int → Option TmV} {til ft : Nat} {l l' : List FiredS} (A : AdvR τ τ1 til ft l) (A' : AdvR τ τ2 til ft l') : l = l' ∧ τ1 = τ2 := by
  have e : l = l' := sorted_unique (fun a h => by omega) (fun a b h h' => by omega) l l' A.fs A'.fs (fun e => by rw [A.mem, A'.mem])
  subst e
  refine ⟨rfl, funext fun id => ?_⟩
  cases h1 : τ1 id with
  | some v => exact ((A'.rest id v).2 ((A.rest id v).1 h1)).symm
  | none =>
    cases h2 : τ2 id with
    | none => rfl
    | some v => rw [(A.rest id v).2 ((A'.rest id v).1 h2)] at h1; cases h1
theorem afterF_add (t a b : Nat) (ht : t < 18446744073709551616) : afterF (afterF t a) b = afterF t (a + b) := by
  unfold afterF
  repeat' split
  all_goals omega
theorem AdvR.comp {τ τ1 τ2 : Int → Option TmV} {t a b : Nat} (ht : t < 18446744073709551616) (ha : a ≠ 0) {l l' : List FiredS} (A : AdvR τ τ1 (afterF t a) (afterF t 1) l) (A' : AdvR τ1 τ2 (afterF (afterF t a) b) (afterF (afterF t a) 1) l') : AdvR τ τ2 (afterF t (a + b)) (afterF t 1) (l ++ l') := by
  rw [afterF_add t a b ht] at A'
  have m1 : afterF t a ≤ afterF t (a + b) := by unfold afterF; repeat' split
                                                all_goals omega
  have m2 : afterF t 1 ≤ afterF t a := by unfold afterF; repeat' split
                                          all_goals omega
  have m3 : afterF (afterF t a) 1 ≤ afterF t a + 1 := by unfold afterF; repeat' split
                                                         all_goals omega
  have lt : ∀ e ∈ l', τ1 e.id = some ⟨e.core, e.dl, e.ck⟩ ∧ ((afterF t a : Nat) : Int) < e.dl := fun e he => ⟨(A'.fin e he).1, A.late _ _ (A'.fin e he).1⟩
  refine ⟨?_, ?_, ?_, ?_⟩
  · refine List.pairwise_append.2 ⟨A.fs, A'.fs, fun x hx y hy => ?_⟩
    have h1 := (A.fin x hx).2.1
    have h2 := (lt y hy).2
    exact .inl (by omega)
  · intro e he
    rcases List.mem_append.1 he with h | h
    · obtain ⟨h1, h2, h3⟩ := A.fin e h
      exact ⟨h1, by omega, h3⟩
    · obtain ⟨h1, h2, h3⟩ := A'.fin e h
      have h4 := (lt e h).2
      exact ⟨((A.rest _ _).1 h1).1, h2, by rw [h3]; omega⟩
  · intro id v
    rw [A'.rest, A.rest]
    constructor
    · rintro ⟨⟨h1, h2⟩, h3⟩
      exact ⟨h1, fun e he => by rcases List.mem_append.1 he with h | h; exact h2 e h; exact h3 e h⟩
    · rintro ⟨h1, h2⟩
      exact ⟨⟨h1, fun e he => h2 e (List.mem_append.2 (.inl he))⟩, fun e he => h2 e (List.mem_append.2 (.inr he))⟩
  · exact A'.late
theorem TSt.eq {τ τ' : TSt} (h1 : τ.tm = τ'.tm) (h2 : τ.nx = τ'.nx) : τ = τ' := by cases τ; cases τ'; simp at *; exact ⟨h1, h2⟩
theorem AdvanceR.unique {τ τ1 τ2 : TSt} {t n : Nat} {l l' : List FiredS} (A : AdvanceR τ τ1 t n l) (A' : AdvanceR τ τ2 t n l') : l = l' ∧ τ1 = τ2 := by
  obtain ⟨e1, A⟩ := A
  obtain ⟨e2, A'⟩ := A'
  rcases A with ⟨h, h1, h2⟩ | ⟨h, A⟩
  · rcases A' with ⟨_, g1, g2⟩ | ⟨g, _⟩
    · exact ⟨by rw [h2, g2], by rw [h1, g1]⟩
    · exact absurd h g
  · rcases A' with ⟨g, _⟩ | ⟨_, A'⟩
    · exact absurd g h
    · obtain ⟨q1, q2⟩ := A.unique A'
      exact ⟨q1, TSt.eq q2 (by rw [e1, e2])⟩
theorem AdvanceR.comp {τ τ1 τ2 : TSt} {t a b : Nat} {l l' : List FiredS} (ht : t < 18446744073709551616) (A : AdvanceR τ τ1 t a l) (A' : AdvanceR τ1 τ2 (afterF t a) b l') : AdvanceR τ τ2 t (a + b) (l ++ l') := by
  obtain ⟨e1, A⟩ := A
  obtain ⟨e2, A'⟩ := A'
  refine ⟨by rw [e2, e1], ?_⟩
  rcases A with ⟨rfl, rfl, rfl⟩ | ⟨h, A⟩
  · rw [afterF_nil] at A'
    rw [Nat.zero_add, List.nil_append]
    exact A'
  · rcases A' with ⟨rfl, rfl, rfl⟩ | ⟨g, A'⟩
    · rw [Nat.add_zero, List.append_nil]
      exact .inr ⟨h, A⟩
    · exact .inr ⟨by omega, AdvR.comp ht h A A'⟩
theorem firedSg_app (σ : Sg) (l l' : List FiredS) : firedSg (firedSg σ l) l' = firedSg σ (l ++ l') := by simp [firedSg]
/-- No more than 64 timers go off. -/
theorem AdvR.len {w : World} {B mb t k : Nat} {ν : Net} {τ : TSt} {σ : Sg} (M : Mach w B mb t k ν τ σ) {τ' : Int → Option TmV} {til ft : Nat} {l : List FiredS} (A : AdvR τ.tm τ' til ft l) : l.length ≤ 64 := by
  obtain ⟨s, L, fr, f, T, I, en, em, tw⟩ := M.tim
  have key : ∀ e ∈ l, ∃ x : Nat, x < 64 ∧ (s.nd x).id = e.id := fun e he => by
    have h := (A.fin e he).1
    rw [← tw.tm] at h
    unfold tmOf at h
    cases hf : f e.id with
    | none => rw [hf] at h; cases h
    | some i =>
      obtain ⟨x, _, h2, h3, _⟩ := I.map _ _ hf
      exact ⟨x, h2, h3⟩
  have hch : ∃ g : FiredS → Nat, ∀ e ∈ l, g e < 64 ∧ (s.nd (g e)).id = e.id := by
    refine ⟨fun e => if h : ∃ x : Nat, x < 64 ∧ (s.nd x).id = e.id then Classical.choose h else 0, fun e he => ?_⟩
    have h := key e he
    simp only [dif_pos h]
    exact Classical.choose_spec h
  obtain ⟨g, hg⟩ := hch
  have hnd : (l.map g).Nodup := by
    rw [List.Nodup, List.pairwise_map]
    refine A.fs.imp_of_mem ?_
    intro a b ha hb hab e
    have h1 := (hg a ha).2
    have h2 := (hg b hb).2
    rw [e, h2] at h1
    have h3 := (A.fin a ha).1
    have h4 := (A.fin b hb).1
    rw [← h1, h4] at h3
    simp only [Option.some.injEq, TmV.mk.injEq] at h3
    omega
  have := nodup_le 64 _ hnd (fun x hx => by
    obtain ⟨e, he, rfl⟩ := List.mem_map.1 hx
    exact (hg e he).1)
  simpa using this
theorem AdvanceR.len {w : World} {B mb t k : Nat} {ν : Net} {τ : TSt} {σ : Sg} (M : Mach w B mb t k ν τ σ) {τ' : TSt} {t' n : Nat} {l : List FiredS} (A : AdvanceR τ τ' t' n l) : l.length ≤ 64 := by
  rcases A.2 with ⟨_, _, rfl⟩ | ⟨_, A⟩
  · simp
  · exact A.len M
end Go.Proofs.Qxb6500877aGreatDoor
