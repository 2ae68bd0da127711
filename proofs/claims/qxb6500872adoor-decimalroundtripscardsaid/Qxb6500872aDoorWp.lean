import Derived.Test.Qxb6500872aDoorWo
set_option linter.unusedVariables false
namespace Go.Proofs.Qxb6500872aDoor
open Go.RowKit

/-- A value's text's length. -/
def strSize : Value → Nat
  | .string u => u.size
  | _ => 0

def CanonRet (b : Bool) (D : Int) (e : Ending) : Prop :=
  ∃ r l, e = .returned (.string r) ∧ Canon l ∧ dval l = D ∧ tx r = if b && decide (dval l ≠ 0) then 45 :: l else l

theorem canon_end {u : ByteArray} (hd : Digs (tx u)) (h : ¬ 1 < u.size ∨ ∃ hp : 0 < u.size, (u[0].toNat : Int) ≠ 48) : Canon (tx u) := by
  refine ⟨hd.1, hd.2, fun hh => ?_⟩
  have hp : 0 < u.size := by
    rw [← tx_len]; exact List.length_pos_iff.2 hd.1
  rw [tx_head u hp] at hh ⊢
  simp at hh
  rcases h with h | ⟨_, h⟩
  · have : tx (u.extract 1 u.size) = [] := List.length_eq_zero_iff.1 (by rw [tx_extract, List.length_drop, tx_len]; omega)
    rw [this, hh]
  · exact absurd hh h
theorem canon_step {u : ByteArray} (hp : 1 < u.size) (hd : Digs (tx u)) (h : (u[0].toNat : Int) = 48) : Digs (tx (u.extract 1 u.size)) ∧ dval (tx (u.extract 1 u.size)) = dval (tx u) := by
  have e := tx_head u (by omega)
  rw [e, h] at hd
  refine ⟨⟨fun h0 => ?_, hd.2.tail⟩, ?_⟩
  · have := congrArg List.length h0
    rw [tx_extract, List.length_drop, tx_len] at this
    simp at this
    omega
  · rw [e, h]; simp [dval]
theorem canon_zero {l : List Int} (h : Canon l) : dval l = 0 ↔ l = [48] := by
  constructor
  · intro h0
    exact canon_unique h ⟨by simp, fun c hc => by simp at hc; omega, fun _ => rfl⟩ (by rw [h0]; rfl)
  · intro h0; rw [h0]; rfl
theorem tx_48 {u : ByteArray} : u = ⟨#[48]⟩ ↔ tx u = [48] := by
  constructor
  · intro h; rw [h]; rfl
  · intro h; exact tx_inj (by rw [h]; rfl)
theorem not48 {u : ByteArray} (h : ¬ u = ⟨#[48]⟩) : (u.toList == [48]) = false := by
  rw [ByteArray.toList_eq]
  cases hb : (u.data.toList == [48]) with
  | false => rfl
  | true =>
    exfalso
    apply h
    have h1 : u.data.toList = [48] := by simpa using hb
    have h2 : u.data = #[48] := Array.toList_inj.1 h1
    cases u; simpa using h2
theorem tx_app (a b : ByteArray) : tx (a ++ b) = tx a ++ tx b := by
  simp [tx, ByteArray.data_append]

set_option maxHeartbeats 2000000 in
theorem canonical_any {s : ByteArray} {w : World} (hs : s.size ≤ 2000000) (hd : Digs (strip (tx s)).2) :
    Calls Tryd.prog 11 #[.string s] w fun e w' => CanonRet (strip (tx s)).1 (dval (strip (tx s)).2) e ∧ w' = w := by
  have hp : 0 < s.size := by
    rcases Nat.eq_zero_or_pos s.size with h | h
    · exfalso
      have : tx s = [] := List.length_eq_zero_iff.1 (by rw [tx_len, h])
      rw [this] at hd
      exact hd.1 rfl
    · exact h
  have hsE : (s.extract 1 s.size).size ≤ s.size := by rw [← tx_len, tx_extract, List.length_drop, tx_len]; omega
  have hx : (s[0].toNat : Int) = 43 ∨ (s[0].toNat : Int) = 45 ∨ ((s[0].toNat : Int) ≠ 43 ∧ (s[0].toNat : Int) ≠ 45) := by omega
  rcases hx with h43 | h45 | ⟨hn43, hn45⟩
  · have HST : strip (tx s) = (false, tx (s.extract 1 s.size)) := by
      rw [tx_head s hp, h43]; rfl
    rw [HST] at hd ⊢
    have HD : Hid (Digs (tx (s.extract 1 s.size))) := hd
    clear hd HST
    generalize hDV : dval (tx (s.extract 1 s.size)) = D
    have HV : Hid (dval (tx (s.extract 1 s.size)) = D) := hDV
    clear hDV
    go_enter Tryd.func11, Tryd.ntmps11
    go_wp2
    go_loopw [0] (fun v wr => ∃ u : ByteArray, v = .string u ∧ u.size ≤ s.size ∧ Hid (Digs (tx u) ∧ dval (tx u) = D) ∧ wr = w) (fun v _ => strSize v)
    case atStart => exact ⟨s.extract 1 s.size, rfl, by omega, ⟨HD.out, HV.out⟩, rfl⟩
    case round =>
      obtain ⟨u, rfl, hu, HU, rfl⟩ := hrel
      have hup : 0 < u.size := by rw [← tx_len]; exact List.length_pos_iff.2 HU.out.1.1
      have huE : (u.extract 1 u.size).size = u.size - 1 := by rw [← tx_len, tx_extract, List.length_drop, tx_len]
      by_cases h1 : 1 < u.size
      · by_cases h48 : (u[0].toNat : Int) = 48
        · have hb48 : ((u[0].toNat : Int) == 48) = true := by simp [h48]
          have HS := canon_step h1 HU.out.1 h48
          have HSd : Hid (Digs (tx (u.extract 1 u.size)) ∧ dval (tx (u.extract 1 u.size)) = D) := ⟨HS.1, HS.2.trans HU.out.2⟩
          clear HS h48
          go_wp2
          go_roundw
          case rel => exact ⟨_, rfl, by omega, HSd, by trivial⟩
          case measure => simp only [strSize]; omega
        · have hb48 : ((u[0].toNat : Int) == 48) = false := by simp [h48]
          have HC : Hid (Canon (tx u)) := canon_end HU.out.1 (.inr ⟨hup, h48⟩)
          clear h48
          by_cases hz : u = ⟨#[48]⟩
          · have hzb : (u.toList == [48]) = true := by rw [ByteArray.toList_eq, hz]; rfl
            have HZ : Hid (tx u = [48]) := tx_48.1 hz
            clear hz
            go_wp2
            go_ret
            exact ⟨⟨_, [48], rfl, HZ.out ▸ HC.out, by rw [← HU.out.2, HZ.out], by simp [dval, tx, Tp]⟩, rfl⟩
          · have hzb : (u.toList == [48]) = false := not48 hz
            have HZ : Hid (tx u ≠ [48]) := fun h => hz (tx_48.2 h)
            clear hz
            go_wp2
            go_ret
            exact ⟨⟨_, tx u, rfl, HC.out, HU.out.2, by rw [tx_app]; have h0 : dval (tx u) ≠ 0 := fun h => HZ.out ((canon_zero HC.out).1 h); simp [h0]; try rfl⟩, rfl⟩
      · have HC : Hid (Canon (tx u)) := canon_end HU.out.1 (.inl h1)
        by_cases hz : u = ⟨#[48]⟩
        · have hzb : (u.toList == [48]) = true := by rw [ByteArray.toList_eq, hz]; rfl
          have HZ : Hid (tx u = [48]) := tx_48.1 hz
          clear hz
          go_wp2
          go_ret
          exact ⟨⟨_, [48], rfl, HZ.out ▸ HC.out, by rw [← HU.out.2, HZ.out], by simp [dval, tx, Tp]⟩, rfl⟩
        · have hzb : (u.toList == [48]) = false := not48 hz
          have HZ : Hid (tx u ≠ [48]) := fun h => hz (tx_48.2 h)
          clear hz
          go_wp2
          go_ret
          exact ⟨⟨_, tx u, rfl, HC.out, HU.out.2, by rw [tx_app]; have h0 : dval (tx u) ≠ 0 := fun h => HZ.out ((canon_zero HC.out).1 h); simp [h0]; try rfl⟩, rfl⟩
  · have HST : strip (tx s) = (true, tx (s.extract 1 s.size)) := by
      rw [tx_head s hp, h45]; rfl
    rw [HST] at hd ⊢
    have HD : Hid (Digs (tx (s.extract 1 s.size))) := hd
    clear hd HST
    generalize hDV : dval (tx (s.extract 1 s.size)) = D
    have HV : Hid (dval (tx (s.extract 1 s.size)) = D) := hDV
    clear hDV
    go_enter Tryd.func11, Tryd.ntmps11
    go_wp2
    go_loopw [0] (fun v wr => ∃ u : ByteArray, v = .string u ∧ u.size ≤ s.size ∧ Hid (Digs (tx u) ∧ dval (tx u) = D) ∧ wr = w) (fun v _ => strSize v)
    case atStart => exact ⟨s.extract 1 s.size, rfl, by omega, ⟨HD.out, HV.out⟩, rfl⟩
    case round =>
      obtain ⟨u, rfl, hu, HU, rfl⟩ := hrel
      have hup : 0 < u.size := by rw [← tx_len]; exact List.length_pos_iff.2 HU.out.1.1
      have huE : (u.extract 1 u.size).size = u.size - 1 := by rw [← tx_len, tx_extract, List.length_drop, tx_len]
      by_cases h1 : 1 < u.size
      · by_cases h48 : (u[0].toNat : Int) = 48
        · have hb48 : ((u[0].toNat : Int) == 48) = true := by simp [h48]
          have HS := canon_step h1 HU.out.1 h48
          have HSd : Hid (Digs (tx (u.extract 1 u.size)) ∧ dval (tx (u.extract 1 u.size)) = D) := ⟨HS.1, HS.2.trans HU.out.2⟩
          clear HS h48
          go_wp2
          go_roundw
          case rel => exact ⟨_, rfl, by omega, HSd, by trivial⟩
          case measure => simp only [strSize]; omega
        · have hb48 : ((u[0].toNat : Int) == 48) = false := by simp [h48]
          have HC : Hid (Canon (tx u)) := canon_end HU.out.1 (.inr ⟨hup, h48⟩)
          clear h48
          by_cases hz : u = ⟨#[48]⟩
          · have hzb : (u.toList == [48]) = true := by rw [ByteArray.toList_eq, hz]; rfl
            have HZ : Hid (tx u = [48]) := tx_48.1 hz
            clear hz
            go_wp2
            go_ret
            exact ⟨⟨_, [48], rfl, HZ.out ▸ HC.out, by rw [← HU.out.2, HZ.out], by simp [dval, tx, Tp]⟩, rfl⟩
          · have hzb : (u.toList == [48]) = false := not48 hz
            have HZ : Hid (tx u ≠ [48]) := fun h => hz (tx_48.2 h)
            clear hz
            go_wp2
            go_ret
            exact ⟨⟨_, tx u, rfl, HC.out, HU.out.2, by rw [tx_app]; have h0 : dval (tx u) ≠ 0 := fun h => HZ.out ((canon_zero HC.out).1 h); simp [h0]; try rfl⟩, rfl⟩
      · have HC : Hid (Canon (tx u)) := canon_end HU.out.1 (.inl h1)
        by_cases hz : u = ⟨#[48]⟩
        · have hzb : (u.toList == [48]) = true := by rw [ByteArray.toList_eq, hz]; rfl
          have HZ : Hid (tx u = [48]) := tx_48.1 hz
          clear hz
          go_wp2
          go_ret
          exact ⟨⟨_, [48], rfl, HZ.out ▸ HC.out, by rw [← HU.out.2, HZ.out], by simp [dval, tx, Tp]⟩, rfl⟩
        · have hzb : (u.toList == [48]) = false := not48 hz
          have HZ : Hid (tx u ≠ [48]) := fun h => hz (tx_48.2 h)
          clear hz
          go_wp2
          go_ret
          exact ⟨⟨_, tx u, rfl, HC.out, HU.out.2, by rw [tx_app]; have h0 : dval (tx u) ≠ 0 := fun h => HZ.out ((canon_zero HC.out).1 h); simp [h0]; try rfl⟩, rfl⟩
  · have HST : strip (tx s) = (false, tx s) := by
      rw [tx_head s hp]
      simp [strip, hn43, hn45]
    rw [HST] at hd ⊢
    have HD : Hid (Digs (tx s)) := hd
    clear hd HST
    generalize hDV : dval (tx s) = D
    have HV : Hid (dval (tx s) = D) := hDV
    clear hDV
    have hb43 : ((s[0].toNat : Int) == 43) = false := by simp [hn43]
    have hb45 : ((s[0].toNat : Int) == 45) = false := by simp [hn45]
    clear hn43 hn45
    go_enter Tryd.func11, Tryd.ntmps11
    go_wp2
    go_loopw [0] (fun v wr => ∃ u : ByteArray, v = .string u ∧ u.size ≤ s.size ∧ Hid (Digs (tx u) ∧ dval (tx u) = D) ∧ wr = w) (fun v _ => strSize v)
    case atStart => exact ⟨s, rfl, by omega, ⟨HD.out, HV.out⟩, rfl⟩
    case round =>
      obtain ⟨u, rfl, hu, HU, rfl⟩ := hrel
      have hup : 0 < u.size := by rw [← tx_len]; exact List.length_pos_iff.2 HU.out.1.1
      have huE : (u.extract 1 u.size).size = u.size - 1 := by rw [← tx_len, tx_extract, List.length_drop, tx_len]
      by_cases h1 : 1 < u.size
      · by_cases h48 : (u[0].toNat : Int) = 48
        · have hb48 : ((u[0].toNat : Int) == 48) = true := by simp [h48]
          have HS := canon_step h1 HU.out.1 h48
          have HSd : Hid (Digs (tx (u.extract 1 u.size)) ∧ dval (tx (u.extract 1 u.size)) = D) := ⟨HS.1, HS.2.trans HU.out.2⟩
          clear HS h48
          go_wp2
          go_roundw
          case rel => exact ⟨_, rfl, by omega, HSd, by trivial⟩
          case measure => simp only [strSize]; omega
        · have hb48 : ((u[0].toNat : Int) == 48) = false := by simp [h48]
          have HC : Hid (Canon (tx u)) := canon_end HU.out.1 (.inr ⟨hup, h48⟩)
          clear h48
          by_cases hz : u = ⟨#[48]⟩
          · have hzb : (u.toList == [48]) = true := by rw [ByteArray.toList_eq, hz]; rfl
            have HZ : Hid (tx u = [48]) := tx_48.1 hz
            clear hz
            go_wp2
            go_ret
            exact ⟨⟨_, [48], rfl, HZ.out ▸ HC.out, by rw [← HU.out.2, HZ.out], by simp [dval, tx, Tp]⟩, rfl⟩
          · have hzb : (u.toList == [48]) = false := not48 hz
            have HZ : Hid (tx u ≠ [48]) := fun h => hz (tx_48.2 h)
            clear hz
            go_wp2
            go_ret
            exact ⟨⟨_, tx u, rfl, HC.out, HU.out.2, by rw [tx_app]; have h0 : dval (tx u) ≠ 0 := fun h => HZ.out ((canon_zero HC.out).1 h); simp [h0]; try rfl⟩, rfl⟩
      · have HC : Hid (Canon (tx u)) := canon_end HU.out.1 (.inl h1)
        by_cases hz : u = ⟨#[48]⟩
        · have hzb : (u.toList == [48]) = true := by rw [ByteArray.toList_eq, hz]; rfl
          have HZ : Hid (tx u = [48]) := tx_48.1 hz
          clear hz
          go_wp2
          go_ret
          exact ⟨⟨_, [48], rfl, HZ.out ▸ HC.out, by rw [← HU.out.2, HZ.out], by simp [dval, tx, Tp]⟩, rfl⟩
        · have hzb : (u.toList == [48]) = false := not48 hz
          have HZ : Hid (tx u ≠ [48]) := fun h => hz (tx_48.2 h)
          clear hz
          go_wp2
          go_ret
          exact ⟨⟨_, tx u, rfl, HC.out, HU.out.2, by rw [tx_app]; have h0 : dval (tx u) ≠ 0 := fun h => HZ.out ((canon_zero HC.out).1 h); simp [h0]; try rfl⟩, rfl⟩
end Go.Proofs.Qxb6500872aDoor
