import Derived.Test.Qxb6500877aGreatDoorFa
set_option linter.unusedVariables false
set_option linter.unusedSimpArgs false
namespace Go.Proofs.Qxb6500877aGreatDoor
open Go.RowKit

theorem dl_rng {w : World} {B mb t k : Nat} {ν : Net} {τ : TSt} {σ : Sg} (M : Mach w B mb t k ν τ σ) {id : Int} {v : TmV} (h : τ.tm id = some v) : 0 ≤ v.dl ∧ v.dl < 18446744073709551616 := by
  obtain ⟨s, L, fr, f, T, I, en, em, tw⟩ := M.tim
  rw [← tw.tm] at h
  unfold tmOf at h
  cases hf : f id with
  | none => rw [hf] at h; cases h
  | some i =>
    obtain ⟨x, rfl, h2, h3, _⟩ := I.map _ _ hf
    obtain ⟨d, hd, hd2⟩ := I.dls x h2
    rw [hf] at h
    simp only [Option.map_some, Option.some.injEq] at h
    rw [← h]
    show 0 ≤ (s.nd ((x : Int).toNat)).dl ∧ (s.nd ((x : Int).toNat)).dl < 18446744073709551616
    rw [show ((x : Int).toNat) = x by omega, hd]
    omega
/-- The first timer of a list, or none. -/
def NextE (l : List TmR) (e : Ending) : Prop := (l = [] ∧ e = .returned (.tuple #[.int .u64 0, .bool false])) ∨ ∃ a r, l = a :: r ∧ e = .returned (.tuple #[.int .u64 a.dl, .bool true])
theorem next_m {w : World} {B mb t k : Nat} {ν : Net} {τ : TSt} {σ : Sg} (M : Mach w B mb t k ν τ σ) {l : List TmR} (hl : TmSorted τ.tm l) : Calls Tryz.prog 111 #[.pointer (some ⟨B, 1, none⟩)] w fun e w' => NextE l e ∧ Below w.heap.size w w' := by
  obtain ⟨s, L, fr, f, T, I, en, em, tw⟩ := M.tim
  have h2 := pendT_sorted I tw.wo
  rw [tw.tm] at h2
  have el := hl.unique h2
  refine (next_any T.wh I M.tab).mono ?_
  rintro e w' ⟨h, hb⟩
  refine ⟨?_, hb⟩
  rw [el, pendT]
  rcases h with ⟨h, he⟩ | ⟨x, r, hx, h, he⟩
  · exact .inl ⟨by rw [h]; rfl, he⟩
  · exact .inr ⟨tmR s x, r.map (tmR s), by rw [h]; rfl, he⟩
set_option maxHeartbeats 1000000 in
theorem nextDeadline_m {w : World} {B mb t k : Nat} {ν : Net} {τ : TSt} {σ : Sg} (M : Mach w B mb t k ν τ σ) {l : List TmR} (hl : TmSorted τ.tm l) : Calls Tryz.prog 53 #[.pointer (some ⟨B, 0, none⟩)] w fun e w' => NextE l e ∧ Below w.heap.size w w' := by
  have hn := next_m M hl
  go_enter Tryz.func53, Tryz.ntmps53
  go_wp2_with fail
  refine hn.mono ?_
  rintro e w1 ⟨h, hb⟩
  rcases h with ⟨h, rfl⟩ | ⟨a, r, h, rfl⟩
  · clear hn hl
    go_wp2
    go_ret2
    exact ⟨.inl ⟨h, rfl⟩, hb⟩
  · have HH := hideIt h
    clear hn hl h
    go_wp2
    go_ret2
    exact ⟨.inr ⟨a, r, HH.out, rfl⟩, hb⟩
def untilN (t : Nat) (d : Int) : Nat := max (d - t).toNat 1
set_option maxHeartbeats 1000000 in
theorem until_any {t : Nat} {d : Int} (ht : t < 18446744073709551616) (h0 : 0 ≤ d) (h1 : d < 18446744073709551616) (w : World) : Calls Tryz.prog 112 #[.int .u64 (t : Int), .int .u64 d] w fun e w' => e = .returned (.int .u64 (((d - t).toNat : Nat) : Int)) ∧ w' = w := by
  by_cases hc : d ≤ (t : Int)
  · have e : (d - (t : Int)).toNat = 0 := by omega
    rw [e]
    go_enter Tryz.func112, Tryz.ntmps112
    go_wp2
    go_ret
    exact ⟨rfl, rfl⟩
  · have hw : IntKind.u64.wrap (d - (t : Int)) = d - (t : Int) := by rw [IntKind.wrap_u64]; omega
    have hx : (((d - (t : Int)).toNat : Nat) : Int) = d - (t : Int) := by omega
    rw [hx]
    go_enter Tryz.func112, Tryz.ntmps112
    go_wp2
    go_ret
    exact ⟨by first | rfl | rw [hw], rfl⟩
/-- What TicksToNext answers. -/
def TickE (t : Nat) (l : List TmR) (e : Ending) : Prop := (l = [] ∧ e = .returned (.tuple #[.int .u64 0, .bool false])) ∨ ∃ a r, l = a :: r ∧ e = .returned (.tuple #[.int .u64 ((untilN t a.dl : Nat) : Int), .bool true])
set_option maxHeartbeats 1000000 in
theorem ticksToNext_m {w : World} {B mb t k : Nat} {ν : Net} {τ : TSt} {σ : Sg} (M : Mach w B mb t k ν τ σ) {l : List TmR} (hl : TmSorted τ.tm l) : Calls Tryz.prog 54 #[.pointer (some ⟨B, 0, none⟩)] w fun e w' => TickE t l e ∧ Below w.heap.size w w' := by
  have hn := next_m M hl
  go_enter Tryz.func54, Tryz.ntmps54
  go_wp2_with fail
  refine hn.mono ?_
  rintro e w1 ⟨h, hb⟩
  rcases h with ⟨h, rfl⟩ | ⟨a, r, h, rfl⟩
  · clear hn hl
    go_wp2
    go_ret2
    exact ⟨.inl ⟨h, rfl⟩, hb⟩
  · have hd := dl_rng M ((hl.2 a).1 (by rw [h]; simp))
    have M1 := M.below hb
    have c0 := M1.clk
    have hu := until_any M.tlt hd.1 hd.2 w1
    have HH := hideIt h
    have e1 : (((a.dl - (t : Int)).toNat : Nat) : Int) < 18446744073709551616 := by have := hd.1; have := hd.2; simp only at *; omega
    obtain ⟨u, hu2⟩ : ∃ u, Hid ((a.dl - (t : Int)).toNat = u) := ⟨_, hideIt rfl⟩
    rw [hu2.out] at hu e1
    have hun : untilN t a.dl = max u 1 := by unfold untilN; rw [hu2.out]
    have HUN := hideIt hun
    clear hn hl h hd M1 hun
    go_wp2_with fail
    refine hu.mono ?_
    rintro e w2 ⟨rfl, rfl⟩
    by_cases hm : u = 0
    · subst hm
      go_wp2
      go_ret2
      exact ⟨.inr ⟨a, r, HH.out, by rw [HUN.out]; rfl⟩, hb⟩
    · have u1 : (1 : Int) ≤ u := by omega
      have u2 : ¬ ((u : Int) < 1) := by omega
      have u3 : max (u : Int) 1 = u := by omega
      have u4 : max u 1 = u := by omega
      rw [u4] at HUN
      clear u4 hm
      go_wp2
      go_ret2
      exact ⟨.inr ⟨a, r, HH.out, by rw [HUN.out]; rfl⟩, hb⟩
set_option maxHeartbeats 1000000 in
theorem advanceToNext_m {w : World} {B mb t k : Nat} {ν : Net} {τ : TSt} {σ : Sg} (M : Mach w B mb t k ν τ σ) {l : List TmR} (hl : TmSorted τ.tm l) : Calls Tryz.prog 55 #[.pointer (some ⟨B, 0, none⟩)] w fun e w' =>
    (l = [] ∧ e = .returned (.slice none 0 0) ∧ Below w.heap.size w w') ∨ ∃ (a : TmR) (r : List TmR) (v : Value) (lf : List FiredS) (τ' : TSt), l = a :: r ∧ e = .returned v ∧ FiredAt w' w.heap.size v lf ∧ Done w w' B mb (afterF t (untilN t a.dl)) k ν τ' (firedSg σ lf) ∧ AdvanceR τ τ' t (untilN t a.dl) lf := by
  have hn := ticksToNext_m M hl
  go_enter Tryz.func55, Tryz.ntmps55
  go_wp2_with fail
  refine hn.mono ?_
  rintro e w1 ⟨h, hb⟩
  rcases h with ⟨h, rfl⟩ | ⟨a, r, h, rfl⟩
  · clear hn hl
    go_wp2
    go_ret
    exact .inl ⟨h, rfl, hb⟩
  · have hd := dl_rng M ((hl.2 a).1 (by rw [h]; simp))
    have M1 := M.below hb
    have hlt : untilN t a.dl < 18446744073709551616 := by unfold untilN; have := hd.1; have := hd.2; simp only at *; omega
    have adv := advance_m M1 hlt
    have HH := hideIt h
    have hbm := hb
    obtain ⟨u, hu2⟩ : ∃ u, Hid (untilN t a.dl = u) := ⟨_, hideIt rfl⟩
    rw [hu2.out] at adv ⊢
    clear hn hl h hd hlt
    go_wp2_with fail
    refine adv.mono ?_
    rintro e w2 ⟨v, lf, τ', rfl, hF, D, A⟩
    have HA := hideIt A
    have HD := hideIt D
    have HF := hideIt hF
    clear A D hF
    go_wp2
    go_ret
    refine .inr ⟨a, r, v, lf, τ', HH.out, rfl, HF.out.wide hbm.size, ?_, ?_⟩
    · rw [hu2.out]
      exact ((Done.refl M).below hbm).andThen HD.out
    · rw [hu2.out]
      exact HA.out
/-- One tick fewer makes none go off. -/
theorem early_none {τ τ1 : TSt} {t : Nat} {a : TmR} {r : List TmR} {l1 : List FiredS} (ht : t < 18446744073709551616) (hl : TmSorted τ.tm (a :: r)) (A : AdvanceR τ τ1 t (untilN t a.dl - 1) l1) : l1 = [] := by
  rcases A.2 with ⟨_, _, h⟩ | ⟨h0, A⟩
  · exact h
  · cases l1 with
    | nil => rfl
    | cons e l =>
      exfalso
      obtain ⟨h1, h2, h3⟩ := A.fin e (by simp)
      have hm := (hl.2 ⟨e.id, e.core, e.dl, e.ck⟩).2 h1
      have ha : a.dl ≤ e.dl := by
        rcases List.mem_cons.1 hm with q | q
        · rw [← q]; exact Int.le_refl _
        · have := (List.pairwise_cons.1 hl.1).1 _ q
          simp only at this
          omega
      have h4 : afterF t (untilN t a.dl - 1) ≤ t + (untilN t a.dl - 1) := by unfold afterF; split <;> omega
      unfold untilN at *
      omega
/-- The first that goes off is the first timer. -/
theorem on_time {τ τ2 : TSt} {t : Nat} {a : TmR} {r : List TmR} {l2 : List FiredS} (ht : t < 18446744073709551616) (hd : 0 ≤ a.dl ∧ a.dl < 18446744073709551616) (hl : TmSorted τ.tm (a :: r)) (A : AdvanceR τ τ2 t (untilN t a.dl) l2) : ∃ (e : FiredS) (l : List FiredS), l2 = e :: l ∧ e.id = a.id ∧ e.core = a.core ∧ e.dl = a.dl ∧ e.ck = a.ck := by
  rcases A.2 with ⟨h, _⟩ | ⟨h0, A⟩
  · unfold untilN at h; omega
  · have hin : (⟨a.id, a.core, a.dl, a.ck, max a.dl ((afterF t 1 : Nat) : Int)⟩ : FiredS) ∈ l2 := (A.mem _).2 ⟨(hl.2 a).1 (by simp), by
      show a.dl ≤ ((afterF t (untilN t a.dl) : Nat) : Int)
      unfold afterF untilN
      split <;> omega, rfl⟩
    cases l2 with
    | nil => simp at hin
    | cons e l =>
      refine ⟨e, l, rfl, ?_⟩
      rcases List.mem_cons.1 hin with q | q
      · rw [← q]; exact ⟨rfl, rfl, rfl, rfl⟩
      · have h1 := (List.pairwise_cons.1 A.fs).1 _ q
        simp only at h1
        obtain ⟨g1, _, _⟩ := A.fin e (by simp)
        have hm := (hl.2 ⟨e.id, e.core, e.dl, e.ck⟩).2 g1
        rcases List.mem_cons.1 hm with q2 | q2
        · rw [← q2] at h1
          simp only at h1
          omega
        · have := (List.pairwise_cons.1 hl.1).1 _ q2
          simp only at this
          omega
end Go.Proofs.Qxb6500877aGreatDoor
