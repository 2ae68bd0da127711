import Derived.Test.Qxb6500877aGreatDoorWu
set_option linter.unusedVariables false
set_option linter.unusedSimpArgs false
namespace Go.Proofs.Qxb6500877aGreatDoor
open Go.RowKit

theorem hideIt {p : Prop} (h : p) : Hid p := h
theorem OpenSt.done {w wr : World} {B n base k a til : Nat} {s0 s : Wheel} {all ys : List Nat} {vi : Int} {L : Option (Nat × Nat) → List Nat} {fr : List Nat} {f : Int → Option Int} {l : List FiredS} {v : Value} (R : OpenSt w B n base k s0 a all ys [] vi s L fr f l v wr) {m : Nat} (em : s0.now = m) (hm : m ≤ til) :
    AdvSt w B n base til s0.mb a s L fr f l v wr := ⟨R.T, R.I, R.F, R.M, R.mb, ⟨m, by rw [R.now, em], hm⟩, R.len, R.co, R.hb⟩
/-- The first slot in use, and what is known of it. -/
theorem WInv.first {s : Wheel} {L : Option (Nat × Nat) → List Nat} {fr : List Nat} {f : Int → Option Int} {m : Nat} (I : WInv s L fr f []) (em : s.now = m) (h : ¬ ∀ k, k < 11 → s.occ k = 0) :
    ∃ q mo z st : Nat, q < 11 ∧ s.occ q = mo ∧ 0 < mo ∧ mo < 18446744073709551616 ∧ (∀ k, k < q → s.occ k = 0) ∧ z = tz64 mo ∧ z < 64 ∧ L (some (q, z)) ≠ [] ∧ z * 64 ^ q < 18446744073709551616 ∧ st = m / 64 ^ (q + 1) * 64 ^ (q + 1) + z * 64 ^ q ∧ st < 18446744073709551616 ∧ (∀ k z', L (some (k, z')) ≠ [] → q ≤ k) ∧ st / 64 ^ (q + 1) = m / 64 ^ (q + 1) ∧
      (∀ y ∈ L (some (q, z)), ∀ d : Nat, (s.nd y).dl = d → st ≤ d ∧ d / 64 ^ q = st / 64 ^ q) := by
  obtain ⟨q, hq, hne, hlo⟩ := least_occ h
  obtain ⟨mo, h1, h2, h3⟩ := I.occ q hq
  have hmo : 0 < mo := by omega
  have hz := tz64_lt hmo h2
  have hl := (h3 _ hz).1 (tz_bit hmo h2)
  have hlv : ∀ k z', L (some (k, z')) ≠ [] → q ≤ k := fun k z' hk => by
    by_cases hc : q ≤ k
    · exact hc
    · exact absurd (I.empty (fun _ => hlo k (by omega)) z') hk
  obtain ⟨x, hx⟩ := List.exists_mem_of_ne_nil _ hl
  obtain ⟨d, hd, hd'⟩ := I.dls x (I.mem _ x hx).2.1
  have F := slot_facts hz (I.dig q _ x hx d m hd em)
  refine ⟨q, mo, tz64 mo, _, hq, h1, hmo, h2, hlo, rfl, hz, hl, by have := F.2.2.1; omega, rfl, by have := F.2.2.1; omega, hlv, F.2.1, fun y hy d' hd2 => ?_⟩
  have F' := slot_facts hz (I.dig q _ y hy d' m hd2 em)
  exact ⟨F'.2.2.1, F'.2.2.2.symm⟩

set_option maxHeartbeats 8000000 in
theorem advance_any {w : World} {B n base til m : Nat} {s : Wheel} {L : Option (Nat × Nat) → List Nat} {fr : List Nat} {f : Int → Option Int} (T : TimersAt w B n s f) (I : WInv s L fr f []) (TB : TabAt w) (hB2 : 2 < B) (hm2 : 2 < s.mb) (hB : B < base) (hm : s.mb < base) (hb : base ≤ w.heap.size) (em : s.now = m) (hmt : m ≤ til) (ht : til < 18446744073709551616) :
    Calls Tryz.prog 103 #[.pointer (some ⟨B, 1, none⟩), .int .u64 (til : Int), .slice none 0 0] w fun e w' => ∃ v s' L' fr' f' l, e = .returned v ∧ AdvSt w B n base til s.mb fr.length s' L' fr' f' l v w' ∧ s'.now = til := by
  have hnc : NC s (s.lh none) (L none) := seg_nc _ _ _ _ (I.dll none trivial)
  obtain ⟨c0, _⟩ := T.wh.one
  rw [em] at c0
  go_enter Tryz.func103, Tryz.ntmps103
  go_wp2_with fail
  refine (after_any (t := m) (n := 1) (by omega) (by omega) w).mono ?_
  rintro e w ⟨rfl, rfl⟩
  go_wp2_with fail
  refine (take_any (r := none) T.wh trivial hnc).mono ?_
  rintro e w1 ⟨rfl, H1, M1⟩
  have R0 : OpenSt w B n base 0 s fr.length (L none) [] (L none) (s.lh none) (taken s none (L none) (markL s (L none)).occ) (putL L none []) fr f [] (.slice none 0 0) w1 := by
    refine OpenSt.start T I trivial (FiredAt.nil _ _) (by simp) (by simp) hB hb M1 H1 (fun j hj => ?_)
    rw [(markL_eq s (L none)).2.2.2.2.1]
    obtain ⟨o, g1, g2, g3⟩ := I.occ j hj
    refine ⟨o, g1, g2, fun y hy => ?_⟩
    rw [putL_other _ _ (by simp)]
    exact g3 y hy
  generalize afterF m 1 = ft
  clear H1 M1 hnc c0
  go_wp2_with fail
  go_loopg [8, 2] (L none).length (fun g a8 a2 wr => ∃ ys xs vi s' L' fr' f' l' v', a8 = .int .i16 vi ∧ a2 = v' ∧ xs.length = g ∧ OpenSt w B n base 0 s fr.length (L none) ys xs vi s' L' fr' f' l' v' wr)
  case atStart => exact ⟨_, _, _, _, _, _, _, _, _, rfl, rfl, rfl, R0⟩
  case round =>
    clear R0
    obtain ⟨ys, xs, vi, s', L', fr', f', l', v', rfl, rfl, hxl, R⟩ := hrel
    match xs, R with
    | [], R =>
      have hv : vi = -1 := R.nc
      subst hv
      clear hxl
      have A0 := R.done em hmt
      clear R
      go_wp2_with fail
      go_loopg [2] (pot s') (fun g a2 wr => ∃ s' L' fr' f' l' v', a2 = v' ∧ pot s' = g ∧ AdvSt w B n base til s.mb fr.length s' L' fr' f' l' v' wr)
      case atStart => exact ⟨_, _, _, _, _, _, rfl, rfl, A0⟩
      case round =>
        clear A0
        obtain ⟨s1, L1, fr1, f1, l1, v1, rfl, hpot, A⟩ := hrel
        have HP := hideIt hpot
        clear hpot
        obtain ⟨m1, em1, hm1⟩ := A.now
        have TB1 := TB.mut3 A.M hB2 hm2 (by omega)
        have fz := A.T.wh.frz
        obtain ⟨c0, _⟩ := A.T.wh.one
        by_cases hall : ∀ k, k < 11 → s1.occ k = 0
        · have A2 := A.moved em1 hB ht (Nat.le_refl til) (fun k z h => absurd (A.I.empty (fun hk => hall k hk) z) h)
          have hes := earliest_none A.T.wh hall
          clear hall
          go_wp2_with fail
          refine hes.mono ?_
          rintro e w3 ⟨rfl, rfl⟩
          go_wp2
          go_ret
          exact ⟨_, _, _, _, _, _, rfl, A2, rfl⟩
        · obtain ⟨q, mo, z, st, hq, h1, h2, h3, h4, h5, h6, h7, h8, h9, h10, h11, h12, h13⟩ := A.I.first em1 hall
          have hes := earliest_some A.T.wh TB1 hq h1 h2 h3 h4
          rw [← h5] at hes
          have hss := slotStart_any A.T.wh em1 (by omega) hq h6 h8
          rw [← h9] at hss
          have H13 : Hid (∀ y ∈ L1 (some (q, z)), ∀ d : Nat, (s1.nd y).dl = d → st ≤ d ∧ d / 64 ^ q = st / 64 ^ q) := h13
          by_cases hgt : til < st
          · have A2 := A.moved em1 hB ht (Nat.le_refl til) (fun k z' hk => div_up (between_div hm1 (Nat.le_of_lt hgt) h12) (h11 k z' hk))
            have hgi : (til : Int) < (st : Int) := by omega
            clear h1 h2 h3 h4 h5 h8 h9 h10 h11 h12 h13 hall
            go_wp2_with fail
            refine hes.mono ?_
            rintro e w3 ⟨rfl, rfl⟩
            go_wp2_with fail
            refine hss.mono ?_
            rintro e w3 ⟨rfl, rfl⟩
            go_wp2
            go_ret
            exact ⟨_, _, _, _, _, _, rfl, A2, rfl⟩
          · have A2 := A.moved em1 hB ht (m' := st) (by omega) (fun k z' hk => div_up h12 (h11 k z' hk))
            have hgi : ¬ ((til : Int) < (st : Int)) := by omega
            clear h1 h2 h3 h4 h5 h8 h9 h10 h11 h12 h13 hall
            go_wp2_with fail
            refine hes.mono ?_
            rintro e w3 ⟨rfl, rfl⟩
            go_wp2_with fail
            refine hss.mono ?_
            rintro e w3 ⟨rfl, rfl⟩
            go_wp2_with fail
            refine (open_any A2.T A2.I hq h6 A2.F A2.len A2.co hB (by rw [A2.mb]; exact hm) A2.hb rfl H13.out).mono ?_
            rintro e w3 ⟨v3, s3, L3, fr3, f3, l3, vi3, rfl, O3⟩
            obtain ⟨A3, hp3⟩ := A2.opened h7 O3
            have hp3' : pot s3 < pot s1 := hp3
            clear A A2 O3 hes hss fz hp3
            go_wp2
            go_roundg (pot s3)
            case measure => rw [← HP.out]; exact hp3'
            case rel => exact ⟨_, _, _, _, _, _, rfl, rfl, A3⟩
    | x :: xs, R =>
      obtain ⟨hv, hx, _⟩ := R.nc
      subst hv
      have x0 : (0 : Int) ≤ x := by omega
      have x1 : (x : Int) < 64 := by omega
      have hxb : ((x : Int) != -1) = true := by simp <;> omega
      obtain ⟨_, _, _, _, _, x5, _, _⟩ := R.T.wh.node hx
      have hid := R.I.ids x hx
      have hroom := R.I.room
      have hll : l'.length < 100000 := by
        have h1 := R.len
        have h2 := nodup_le 64 fr' R.I.frn (NC_lt _ _ R.I.fre)
        omega
      have hm' : s'.mb < base := by rw [R.mb]; exact hm
      go_wp2_with fail
      refine (expire_any R.T hx hid hroom R.F hll hB hm' R.hb).mono ?_
      rintro e w3 ⟨v3, rfl, T3, F3, M3⟩
      have R3 := R.expired T3 F3 ⟨M3.os, M3.tape, M3.output, M3.size, M3.block, M3.frz, M3.cell⟩
      clear R T3 F3 M3 x5
      go_wp2
      go_roundg xs.length
      case measure => rw [← hxl]; simp
      case rel => exact ⟨_, _, _, _, _, _, _, _, _, rfl, rfl, rfl, R3⟩

end Go.Proofs.Qxb6500877aGreatDoor
