import Derived.Deep.CutBlock
import Derived.Test.Qxb6500877aGreatDoorQd0
set_option linter.unusedVariables false
set_option linter.unusedSimpArgs false
namespace Go.Proofs.Qxb6500877aGreatDoor
open Go.RowKit

set_option maxRecDepth 20000 in
set_option maxHeartbeats 8000000 in
theorem each_any {w0 w : World} {B b1 b3 g cap : Nat} {s : Wheel} {L : Option (Nat × Nat) → List Nat} {fr : List Nat} {f : Int → Option Int} (I : WInv s L fr f []) (q : EQ B b1 b3 g) (hcap : cap = (preL L 11).length) (E0 : ES w0 w B s b1 b3 g cap ([])) :
    Calls Tryz.prog 163 #[.pointer (some ⟨B, 1, none⟩), .func (.func 164) #[] #[.pointer (some ⟨b3, 0, none⟩), .pointer (some ⟨b1, 0, none⟩)]] w fun e w' => e = .returned (.tuple #[]) ∧ ES w0 w' B s b1 b3 g cap (preL L 11) := by
  have HI := hideIt I
  have HXX : Hid (∀ r, lOk r → (∀ A x C, L r = A ++ x :: C → (s.nd x).nx = hdOr C ∧ x < 64) ∧ s.lh r = hdOr (L r)) := hideIt (fun r hr => ⟨fun A x C e => by
    have hD := I.dll r hr
    rw [e] at hD
    exact dll_next hD, dll_head (I.dll r hr)⟩)
  have E := E0
  have hl := (E.H.list (r := none) trivial).1
  have hl' : w.cell? ⟨B, 518, none⟩ = some (.int .i16 (s.lh none)) := hl
  rw [(HXX.out none trivial).2] at hl'
  have HX : Hid (∀ A x C, L none = A ++ x :: C → (s.nd x).nx = hdOr C ∧ x < 64) := hideIt (HXX.out none trivial).1
  have hsm : ([] ++ L none : List Nat).length ≤ cap := by
    rw [hcap]
    exact preL_len (L := L) (k := 0) 11
  clear E0 I
  go_enter Tryz.func163, Tryz.ntmps163
  go_upto_block 0 with fail
  go_cut [] (fun wd => ES w0 wd B s b1 b3 g cap ([] ++ L none))
  case first =>
    go_wp2_with fail
    go_loopg [4] (L none).length (fun gg v wr => ∃ A C : List Nat, Hid (L none = A ++ C) ∧ C.length = gg ∧ v = .int .i16 (hdOr C) ∧ ES w0 wr B s b1 b3 g cap ([] ++ A))
    case atStart => exact ⟨[], L none, hideIt rfl, rfl, rfl, by rw [List.append_nil]; exact E⟩
    case round =>
      clear E hl
      obtain ⟨A, C, HQ, hCg, rfl, E⟩ := hrel
      cases C with
      | nil =>
        have EE : ES w0 wr B s b1 b3 g cap ([] ++ L none) := by rw [HQ.out, List.append_nil]; exact E
        clear E
        simp only [hdOr_nil]
        go_wp2
        go_meet
        case rel => exact EE
      | cons x C =>
        obtain ⟨hnx, hx⟩ := HX.out A x C HQ.out
        have hfit : ([] ++ A).length < cap := by
          have h1 := HQ.out
          rw [h1] at hsm
          simp only [List.length_append, List.length_cons] at hsm ⊢
          omega
        have hcall := E.note q hx hfit
        have x0 : (0 : Int) ≤ x := by omega
        have x1 : (x : Int) < 64 := by omega
        have hxn : ((x : Int) != -1) = true := by simp <;> omega
        simp only [hdOr_cons]
        clear E
        go_wp2_with fail
        refine hcall.mono ?_
        rintro e w3 ⟨rfl, E⟩
        obtain ⟨_, _, _, _, _, t5, _, _⟩ := E.H.node hx
        rw [hnx] at t5
        clear hcall hnx
        have HE := hideIt E
        clear E
        go_wp2
        go_roundg C.length
        case measure => simp at hCg; omega
        case rel => exact ⟨A ++ [x], C, hideIt (by rw [HQ.out]; simp), rfl, rfl, by rw [← List.append_assoc]; exact HE.out⟩
  case rest =>
  clear E hl hl' HX hsm
  have E : ES w0 wc B s b1 b3 g cap (preL L 0) := hcut
  clear hcut
  go_wp2_with fail
  go_loopg [5] 11 (fun gg v wr => ∃ k : Nat, k + gg = 11 ∧ v = .int .i64 (k : Int) ∧ ES w0 wr B s b1 b3 g cap (preL L k))
  case atStart => exact ⟨0, by omega, rfl, E⟩
  case round =>
    clear E
    obtain ⟨k, hk, rfl, E⟩ := hrel
    by_cases hk11 : k < 11
    · have k0 : (0 : Int) ≤ k := by omega
      have k1 : (k : Int) < 11 := by omega
      obtain ⟨m, em, hm, hbit⟩ := HI.out.occ k hk11
      have hb := E.H.bits hk11
      rw [em] at hb
      have HB := hideIt hbit
      clear hbit em
      go_upto_block 3 with fail
      go_cut [] (fun wd => ES w0 wd B s b1 b3 g cap (preL L k ++ lev L k 64))
      case first =>
        go_wp2_with fail
        go_loopg [6] 64 (fun gg v wr => ∃ z0 m : Nat, z0 + gg = 64 ∧ v = .int .u64 (m : Int) ∧ m < 18446744073709551616 ∧ Hid (∀ z, z < 64 → (m.testBit z = true ↔ z0 ≤ z ∧ L (some (k, z)) ≠ [])) ∧ ES w0 wr B s b1 b3 g cap (preL L k ++ lev L k z0))
        case atStart => exact ⟨0, m, by omega, rfl, hm, hideIt (fun z hz => by rw [HB.out z hz]; simp), by rw [lev, List.append_nil]; exact E⟩
        case round =>
          clear E hb HB hm
          obtain ⟨z0, m, hz0, rfl, hm, HB, E⟩ := hrel
          by_cases hm0 : m = 0
          · subst hm0
            have e64 : lev L k 64 = lev L k z0 := by
              have := lev_skip (L := L) (k := k) (z0 := z0) (64 - z0) (fun z h1 h2 => by
                have h3 := HB.out z (by omega)
                simp at h3
                exact h3 h1)
              rw [show z0 + (64 - z0) = 64 by omega] at this
              exact this
            rw [← e64] at E
            clear e64
            go_wp2
            go_meet
            case rel => exact E
          · have htz := @tz64_any m (by omega) hm wr E.T
            obtain ⟨zlt, zbit, zlow⟩ := tz64_facts (by omega) hm
            generalize tz64 m = z at *
            obtain ⟨hzz, hne⟩ := (HB.out z zlt).1 zbit
            have ez : lev L k z = lev L k z0 := by
              have := lev_skip (L := L) (k := k) (z0 := z0) (z - z0) (fun y h1 h2 => by
                have h3 := HB.out y (by omega)
                rw [zlow y (by omega)] at h3
                simp at h3
                exact h3 h1)
              rw [show z0 + (z - z0) = z by omega] at this
              exact this
            rw [← ez] at E
            have HB2 : Hid (∀ y, y < 64 → ((m &&& (m - 1)).testBit y = true ↔ z + 1 ≤ y ∧ L (some (k, y)) ≠ [])) := hideIt (fun y hy => by
              rw [low_off (low_form zbit zlow), Bool.and_eq_true, HB.out y hy]
              simp
              constructor
              · rintro ⟨⟨h1, h2⟩, h3⟩
                refine ⟨?_, h2⟩
                by_cases h4 : y < z
                · have h5 := zlow y h4
                  have h6 := (HB.out y hy).2 ⟨h1, h2⟩
                  rw [h5] at h6
                  simp at h6
                · omega
              · rintro ⟨h1, h2⟩
                exact ⟨⟨by omega, h2⟩, by omega⟩)
            have hm2 : (m &&& (m - 1)) < 18446744073709551616 := Nat.lt_of_le_of_lt Nat.and_le_left hm
            obtain ⟨hlw, hlb⟩ := low_bits (m := m) (by omega) hm
            have hl := (E.H.list (r := some (k, z)) ⟨hk11, zlt⟩).1
            have hl' : wr.cell? ⟨B, 520 + k * 128 + z * 2, none⟩ = some (.int .i16 (s.lh (some (k, z)))) := hl
            rw [(HXX.out (some (k, z)) ⟨hk11, zlt⟩).2] at hl'
            have HX : Hid (∀ A x C, L (some (k, z)) = A ++ x :: C → (s.nd x).nx = hdOr C ∧ x < 64) := hideIt (HXX.out (some (k, z)) ⟨hk11, zlt⟩).1
            have hsm : ((preL L k ++ lev L k z) ++ L (some (k, z))).length ≤ cap := by
              rw [hcap, List.append_assoc]
              exact preZ_len (L := L) (z := z + 1) hk11 (by omega)
            have z0' : (0 : Int) ≤ z := by omega
            have z1' : (z : Int) < 64 := by omega
            have hm0b : ((m : Int) != 0) = true := by simp; omega
            have HZ := hideIt (And.intro zbit (And.intro zlow (And.intro hne ez)))
            clear zbit zlow hne ez hl
            go_upto_block 5 with fail
            go_cut [] (fun wd => ES w0 wd B s b1 b3 g cap ((preL L k ++ lev L k z) ++ L (some (k, z))))
            case first =>
              go_upto_region 10 with fail
              go_wp2_with fail
              refine htz.mono ?_
              rintro e wr ⟨rfl, rfl⟩
              clear htz
              go_wp2_with fail
              have hl := hl'
              go_loopg [8] (L (some (k, z))).length (fun gg v wr => ∃ A C : List Nat, Hid (L (some (k, z)) = A ++ C) ∧ C.length = gg ∧ v = .int .i16 (hdOr C) ∧ ES w0 wr B s b1 b3 g cap ((preL L k ++ lev L k z) ++ A))
              case atStart => exact ⟨[], L (some (k, z)), hideIt rfl, rfl, rfl, by rw [List.append_nil]; exact E⟩
              case round =>
                clear E hl
                obtain ⟨A, C, HQ, hCg, rfl, E⟩ := hrel
                cases C with
                | nil =>
                  have EE : ES w0 wr B s b1 b3 g cap ((preL L k ++ lev L k z) ++ L (some (k, z))) := by rw [HQ.out, List.append_nil]; exact E
                  clear E
                  simp only [hdOr_nil]
                  go_wp2
                  go_meet
                  case rel => exact EE
                | cons x C =>
                  obtain ⟨hnx, hx⟩ := HX.out A x C HQ.out
                  have hfit : ((preL L k ++ lev L k z) ++ A).length < cap := by
                    have h1 := HQ.out
                    rw [h1] at hsm
                    simp only [List.length_append, List.length_cons] at hsm ⊢
                    omega
                  have hcall := E.note q hx hfit
                  have x0 : (0 : Int) ≤ x := by omega
                  have x1 : (x : Int) < 64 := by omega
                  have hxn : ((x : Int) != -1) = true := by simp <;> omega
                  simp only [hdOr_cons]
                  clear E
                  go_wp2_with fail
                  refine hcall.mono ?_
                  rintro e w3 ⟨rfl, E⟩
                  obtain ⟨_, _, _, _, _, t5, _, _⟩ := E.H.node hx
                  rw [hnx] at t5
                  clear hcall hnx
                  have HE := hideIt E
                  clear E
                  go_wp2
                  go_roundg C.length
                  case measure => simp at hCg; omega
                  case rel => exact ⟨A ++ [x], C, hideIt (by rw [HQ.out]; simp), rfl, rfl, by rw [← List.append_assoc]; exact HE.out⟩
            case rest =>
              clear E htz hl' HX hsm
              have E : ES w0 wc B s b1 b3 g cap (preL L k ++ lev L k (z + 1)) := by
                have e : lev L k (z + 1) = lev L k z ++ L (some (k, z)) := rfl
                rw [e, ← List.append_assoc]
                exact hcut
              clear hcut
              go_wp2
              go_roundg (64 - (z + 1))
              case measure => omega
              case rel => exact ⟨z + 1, m &&& (m - 1), by omega, rfl, hm2, HB2, E⟩
      case rest =>
        have E2 : ES w0 wc B s b1 b3 g cap (preL L (k + 1)) := hcut
        clear hcut E hb
        go_wp2
        go_roundg (11 - (k + 1))
        case measure => omega
        case rel => exact ⟨k + 1, by omega, by go_num, E2⟩
    · have e : k = 11 := by omega
      subst e
      go_wp2
      go_end0
      exact ⟨rfl, E⟩
end Go.Proofs.Qxb6500877aGreatDoor
