import Derived.Test.Qxb6500877aGreatDoorSk
import Derived.Test.Qxb6500877aGreatDoorWv
set_option linter.unusedVariables false
set_option linter.unusedSimpArgs false
namespace Go.Proofs.Qxb6500877aGreatDoor
open Go.RowKit

/-- How far the reset has come: rows below t are vacant, queues below c are empty. -/
structure Emptied (s : Sched) (t c : Nat) : Prop where
  tk : ∀ x, x < t → s.tk x = ⟨0, -1, 0, -1, -1⟩
  qu : ∀ d, d < c → (∀ b, b < 4 → s.hd d b = -1 ∧ s.tl d b = -1) ∧ s.fl d = 0 ∧ s.qn d = 0 ∧ s.cur d = -1 ∧ s.ld d = 0
theorem sum_zero (g : Nat → Nat) : ∀ l : List Nat, (∀ x ∈ l, g x = 0) → (l.map g).sum = 0
  | [], _ => by simp
  | y :: l, h => by
    have := sum_zero g l (fun x hx => h x (by simp [hx]))
    have := h y (by simp)
    simp only [List.map_cons, List.sum_cons]
    omega
theorem Emptied.ok {s : Sched} (h : Emptied s 16 4) : SOk s := by
  refine ⟨⟨fun _ _ => [], ?_⟩, fun c hc => ?_⟩
  · refine ⟨fun c b hc hb => ?_, fun c b => List.nodup_nil, fun c b x hx => by simp at hx, fun x hx _ q => ?_, fun c hc => .inl (h.qu c hc).2.2.2.1, fun x hx _ q => ?_, fun x hx _ => .inl (by rw [h.tk x hx]), fun c hc => ⟨0, (h.qu c hc).2.1, by omega, fun b _ => by simp⟩, fun c hc => by rw [(h.qu c hc).2.2.1]; rfl⟩
    · obtain ⟨h1, h2⟩ := (h.qu c hc).1 b hb
      exact ⟨h2, h1.symm⟩
    · rw [h.tk x hx] at q; simp at q
    · rw [h.tk x hx] at q; simp at q
  · rw [(h.qu c hc).2.2.2.2]
    have : cnt s c = 0 := sum_zero _ _ (fun x hx => by
      have hx' : x < 16 := by simpa using hx
      simp [here, h.tk x hx'])
    rw [this]; rfl
theorem Emptied.row {s : Sched} {t c : Nat} (h : Emptied s t c) : Emptied (vacate s t) (t + 1) c := by
  refine ⟨fun x hx => ?_, h.qu⟩
  by_cases e : x = t
  · subst e; simp [vacate, Sched.pSt, Sched.pHome, Sched.pBand, Sched.pPrev, Sched.pNext, Sched.setTk]
  · have : (vacate s t).tk x = s.tk x := by simp [vacate, Sched.pSt, Sched.pHome, Sched.pBand, Sched.pPrev, Sched.pNext, Sched.setTk, e]
    rw [this]
    exact h.tk x (by omega)

set_option maxHeartbeats 4000000 in
theorem sreset_any {w : World} {B : Nat} {s : Sched} (H : SchedAt w B s) (V : Vac w) (hB : 0 < B) :
    Calls Tryz.prog 114 #[.pointer (some ⟨B, 6596, none⟩)] w fun e w' => e = .returned (.tuple #[]) ∧ (∃ s', SchedAt w' B s' ∧ SOk s') ∧ Mut B 6596 6724 w w' := by
  have hB0 : ¬ (B = 0) := by omega
  have hB1 : ¬ (0 = B) := by omega
  go_enter Tryz.func114, Tryz.ntmps114
  go_wp2_with fail
  go_loopg [6] 16 (fun g v wr => ∃ (t : Nat) (s' : Sched), t + g = 16 ∧ v = .int .i64 (t : Int) ∧ SchedAt wr B s' ∧ Emptied s' t 0 ∧ Mut B 6596 6724 w wr)
  case atStart => exact ⟨0, s, by omega, rfl, H, ⟨fun x hx => by omega, fun d hd => by omega⟩, Mut.refl _ _ _ _⟩
  case round =>
    obtain ⟨t, s', htg, rfl, H1, E1, M1⟩ := hrel
    by_cases ht : t < 16
    · obtain ⟨t0, t1, t2, t3, t4⟩ := H1.task ht
      have i0 : (0 : Int) ≤ t := by omega
      have i1 : (t : Int) < 16 := by omega
      obtain ⟨v0, v1, v2, v3, v4⟩ := V.mut M1 hB
      have fz := H1.frz
      go_wp2_with fail
      go_region_held3 (fun w' => w'.cell? ⟨0, 0, none⟩ = some (.int .u8 0) ∧ w'.cell? ⟨0, 1, none⟩ = some (.int .i64 (-1)) ∧ w'.cell? ⟨0, 2, none⟩ = some (.int .i8 0) ∧ w'.cell? ⟨0, 3, none⟩ = some (.int .i8 (-1)) ∧ w'.cell? ⟨0, 4, none⟩ = some (.int .i8 (-1))) (refine ⟨?_, ?_, ?_, ?_, ?_⟩ <;> go_simp) (fail)
      go_wp2
      go_roundg (16 - (t + 1))
      case measure => omega
      case rel => exact ⟨t + 1, _, by omega, by go_num, (((((H1.putSt ht _).putHome ht _).putBand ht _).putPrev ht _).putNext ht _).drew, E1.row, M1.trans ((((((Mut.refl B 6596 6724 _).setCell (by omega) (by omega) _).setCell (by omega) (by omega) _).setCell (by omega) (by omega) _).setCell (by omega) (by omega) _).setCell (by omega) (by omega) _).drew⟩
    · have e16 : t = 16 := by omega
      subst e16
      clear ht htg
      go_wp2_with fail
      go_loopg [16] 4 (fun g v wr => ∃ (c : Nat) (s' : Sched), c + g = 4 ∧ v = .int .i64 (c : Int) ∧ SchedAt wr B s' ∧ Emptied s' 16 c ∧ Mut B 6596 6724 w wr)
      case atStart => exact ⟨0, s', by omega, rfl, H1, E1, M1⟩
      case round =>
        clear H1 E1 M1
        obtain ⟨c, s2, hcg, rfl, H2, E2, M2⟩ := hrel
        by_cases hc : c < 4
        · have j0 : (0 : Int) ≤ c := by omega
          have j1 : (c : Int) < 4 := by omega
          go_wp2_with fail
          go_loopg [24] 4 (fun g v wr => ∃ (k : Nat) (s' : Sched), k + g = 4 ∧ v = .int .i64 (k : Int) ∧ SchedAt wr B s' ∧ Emptied s' 16 c ∧ (∀ b, b < k → s'.hd c b = -1 ∧ s'.tl c b = -1) ∧ Mut B 6596 6724 w wr)
          case atStart => exact ⟨0, s2, by omega, rfl, H2, E2, fun b hb => by omega, M2⟩
          case round =>
            clear H2 E2 M2
            obtain ⟨k, s3, hkg, rfl, H3, E3, B3, M3⟩ := hrel
            by_cases hk : k < 4
            · have q := H3.queue hc
              have z0 := (q.1 k hk).1
              have z1 := (q.1 k hk).2
              have k0 : (0 : Int) ≤ k := by omega
              have k1 : (k : Int) < 4 := by omega
              have fz := H3.frz
              clear q
              have HB := hideIt B3
              clear B3
              go_wp2
              go_roundg (4 - (k + 1))
              case measure => omega
              case rel =>
                refine ⟨k + 1, _, by omega, by go_num, (H3.putHd hc hk _).putTl hc hk _, ⟨E3.tk, fun d hd => ?_⟩, fun b hb => ?_, M3.trans (((Mut.refl B 6596 6724 _).setCell (by omega) (by omega) _).setCell (by omega) (by omega) _)⟩
                · obtain ⟨e1, e2⟩ := E3.qu d hd
                  refine ⟨fun b hb => ?_, e2⟩
                  have : ¬ (d = c ∧ b = k) := fun q => by omega
                  simp [Sched.setHd, Sched.setTl, this]
                  exact e1 b hb
                · by_cases e : b = k
                  · subst e; simp [Sched.setHd, Sched.setTl]
                  · simp [Sched.setHd, Sched.setTl, e]
                    exact HB.out b (by omega)
            · have e4 : k = 4 := by omega
              subst e4
              clear hk hkg
              have q := H3.queue hc
              have z2 := q.2.1
              have z3 := q.2.2
              obtain ⟨c0, c1⟩ := H3.core hc
              have fz := H3.frz
              clear q
              have HB := hideIt B3
              clear B3
              have n0 : ¬ (6676 + c * 10 + 8 = 6676 + c * 10 + 9) := by omega
              have n1 : ¬ (6676 + c * 10 + 9 = 6676 + c * 10 + 8) := by omega
              have n2 : ¬ (6676 + c * 10 + 8 = 6716 + c) := by omega
              have n3 : ¬ (6716 + c = 6676 + c * 10 + 8) := by omega
              have n4 : ¬ (6676 + c * 10 + 8 = 6720 + c) := by omega
              have n5 : ¬ (6720 + c = 6676 + c * 10 + 8) := by omega
              have n6 : ¬ (6676 + c * 10 + 9 = 6716 + c) := by omega
              have n7 : ¬ (6716 + c = 6676 + c * 10 + 9) := by omega
              have n8 : ¬ (6676 + c * 10 + 9 = 6720 + c) := by omega
              have n9 : ¬ (6720 + c = 6676 + c * 10 + 9) := by omega
              have n10 : ¬ (6716 + c = 6720 + c) := by omega
              have n11 : ¬ (6720 + c = 6716 + c) := by omega
              go_wp2
              go_roundg (4 - (c + 1))
              case measure => omega
              case rel =>
                refine ⟨c + 1, _, by omega, by go_num, (((H3.putFl hc _).putQn hc _).putCur hc _).putLd hc _, ⟨E3.tk, fun d hd => ?_⟩, M3.trans (((((Mut.refl B 6596 6724 _).setCell (by omega) (by omega) _).setCell (by omega) (by omega) _).setCell (by omega) (by omega) _).setCell (by omega) (by omega) _)⟩
                by_cases e : d = c
                · subst e
                  refine ⟨fun b hb => HB.out b hb, ?_, ?_, ?_, ?_⟩ <;> simp [Sched.setFl, Sched.setQn, Sched.setCur, Sched.setLd]
                · obtain ⟨e1, e2, e3, e4, e5⟩ := E3.qu d (by omega)
                  refine ⟨e1, ?_, ?_, ?_, ?_⟩ <;> simp [Sched.setFl, Sched.setQn, Sched.setCur, Sched.setLd, e] <;> assumption
        · have e4 : c = 4 := by omega
          subst e4
          go_wp2
          go_end0
          exact ⟨rfl, ⟨s2, H2, E2.ok⟩, M2⟩

end Go.Proofs.Qxb6500877aGreatDoor
