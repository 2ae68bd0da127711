import Derived.Test.Qxb6500877aGreatDoorTc
set_option linter.unusedVariables false
set_option linter.unusedSimpArgs false
namespace Go.Proofs.Qxb6500877aGreatDoor
open Go.RowKit

set_option maxHeartbeats 8000000 in
theorem advance_t {τ0 : Int → Option TmV} {ft : Nat} {w : World} {B n base til m : Nat} {s : Wheel} {L : Option (Nat × Nat) → List Nat} {fr : List Nat} {f : Int → Option Int} (T : TimersAt w B n s f) (I : WInv s L fr f []) (TB : TabAt w) (hB2 : 2 < B) (hm2 : 2 < s.mb) (hB : B < base) (hm : s.mb < base) (hb : base ≤ w.heap.size) (em : s.now = m) (hmt : m ≤ til) (ht : til < 18446744073709551616) (hO : WO s L fr f []) (hv : tmOf s f = τ0) (eft : afterF m 1 = ft) :
    Calls Tryz.prog 103 #[.pointer (some ⟨B, 1, none⟩), .int .u64 (til : Int), .slice none 0 0] w fun e w' => ∃ v s' L' fr' f' l, e = .returned v ∧ AdvSt w B n base til s.mb fr.length s' L' fr' f' l v w' ∧ s'.now = til ∧ s'.nid = s.nid ∧ WO s' L' fr' f' [] ∧ AdvR τ0 (tmOf s' f') til ft l := by
  have hnc : NC s (s.lh none) (L none) := seg_nc _ _ _ _ (I.dll none trivial)
  obtain ⟨c0, _⟩ := T.wh.one
  rw [em] at c0
  have haf := after_any (t := m) (n := 1) (by omega) (by omega) w
  rw [eft] at haf
  go_enter Tryz.func103, Tryz.ntmps103
  go_wp2_with fail
  refine haf.mono ?_
  rintro e w ⟨rfl, rfl⟩
  go_wp2_with fail
  refine (take_any (r := none) T.wh trivial hnc).mono ?_
  rintro e w1 ⟨rfl, H1, M1⟩
  have R0 : OpenSt w B n base 0 s fr.length (L none) [] (L none) (s.lh none) (taken s none (L none) (markL s (L none)).occ) (putL L none []) fr f [] (.slice none 0 0) w1 := by
    refine OpenSt.start T I trivial (FiredAt.nil _ _) (by simp) (by simp) hB hb M1 H1 (fun j hj => ?_)
    rw [(markL_eq s (L none)).2.2.2.2.1]
    obtain ⟨o, g1, g2, g3⟩ := I.occ j hj
    refine ⟨o, g1, g2, fun y hy => ?_⟩
    rw [putL_other _ _ (by simp)]
    exact g3 y hy
  have HFT : Hid (m ≤ ft ∧ ft ≤ m + 1) := hideIt (by rw [← eft]; unfold afterF; split <;> omega)
  have HD1 : Hid (AD τ0 ft s.nid (taken s none (L none) (markL s (L none)).occ) (putL L none []) fr f (L none) []) := hideIt (AD.due hO hv rfl _)
  have HDU : Hid (∀ x ∈ L none, (s.nd x).dl ≤ m) := hideIt (fun x hx => by rw [← em]; exact hO.due x hx)
  clear hO hv eft haf
  clear H1 M1 hnc c0
  go_wp2_with fail
  go_loopg [8, 2] (L none).length (fun g a8 a2 wr => ∃ ys xs vi s' L' fr' f' l' v', a8 = .int .i16 vi ∧ a2 = v' ∧ xs.length = g ∧ OpenSt w B n base 0 s fr.length (L none) ys xs vi s' L' fr' f' l' v' wr ∧ Hid (AD τ0 ft s.nid s' L' fr' f' xs l'))
  case atStart => exact ⟨_, _, _, _, _, _, _, _, _, rfl, rfl, rfl, R0, HD1⟩
  case round =>
    clear R0 HD1
    obtain ⟨ys, xs, vi, s', L', fr', f', l', v', rfl, rfl, hxl, R, HD0⟩ := hrel
    match xs, R, HD0 with
    | [], R, HD0 =>
      have hv : vi = -1 := R.nc
      subst hv
      clear hxl
      have A0 := R.done em hmt
      have HM0 : Hid (∀ m1 : Nat, s'.now = m1 → m1 = m) := hideIt (fun m1 e => by have := R.now; omega)
      clear R
      go_wp2_with fail
      go_loopg [2] (pot s') (fun g a2 wr => ∃ s' L' fr' f' l' v', a2 = v' ∧ pot s' = g ∧ AdvSt w B n base til s.mb fr.length s' L' fr' f' l' v' wr ∧ Hid (AD τ0 ft s.nid s' L' fr' f' [] l') ∧ Hid (∀ m1 : Nat, s'.now = m1 → m ≤ m1))
      case atStart => exact ⟨_, _, _, _, _, _, rfl, rfl, A0, HD0, hideIt (fun m1 e => by have := HM0.out m1 e; omega)⟩
      case round =>
        clear A0 HD0 HM0
        obtain ⟨s1, L1, fr1, f1, l1, v1, rfl, hpot, A, HD0, HM0⟩ := hrel
        have HP := hideIt hpot
        clear hpot
        obtain ⟨m1, em1, hm1⟩ := A.now
        have TB1 := TB.mut3 A.M hB2 hm2 (by omega)
        have fz := A.T.wh.frz
        obtain ⟨c0, _⟩ := A.T.wh.one
        by_cases hall : ∀ k, k < 11 → s1.occ k = 0
        · have A2 := A.moved em1 hB ht (Nat.le_refl til) (fun k z h => absurd (A.I.empty (fun hk => hall k hk) z) h)
          have HF := hideIt (HD0.out.stop A.I em1 hm1 (fun k z y hy => by rw [A.I.empty (fun hk => hall k hk) z] at hy; simp at hy) (fun k z h => absurd (A.I.empty (fun hk => hall k hk) z) h))
          have hes := earliest_none A.T.wh hall
          clear hall
          go_wp2_with fail
          refine hes.mono ?_
          rintro e w3 ⟨rfl, rfl⟩
          go_wp2
          go_ret
          exact ⟨_, _, _, _, _, _, rfl, A2, rfl, HF.out.1.2, HF.out.1.1, HF.out.2⟩
        · obtain ⟨q, mo, z, st, hq, h1, h2, h3, h4, h5, h6, h7, h8, h9, h10, h11, h12, h13⟩ := A.I.first em1 hall
          have HFF := hideIt (first_facts A.I HD0.out.wo em1 hq h1 h2 h3 h4 h5 h6 h7 h9)
          have hes := earliest_some A.T.wh TB1 hq h1 h2 h3 h4
          rw [← h5] at hes
          have hss := slotStart_any A.T.wh em1 (by omega) hq h6 h8
          rw [← h9] at hss
          have H13 : Hid (∀ y ∈ L1 (some (q, z)), ∀ d : Nat, (s1.nd y).dl = d → st ≤ d ∧ d / 64 ^ q = st / 64 ^ q) := h13
          by_cases hgt : til < st
          · have A2 := A.moved em1 hB ht (Nat.le_refl til) (fun k z' hk => div_up (between_div hm1 (Nat.le_of_lt hgt) h12) (h11 k z' hk))
            have HF := hideIt (HD0.out.stop A.I em1 hm1 (fun k z' y hy => by
              by_cases e : (k, z') = (q, z)
              · simp only [Prod.mk.injEq] at e
                obtain ⟨rfl, rfl⟩ := e
                obtain ⟨d, hd, _⟩ := A.I.dls y (A.I.mem _ y hy).2.1
                have := (H13.out y hy d hd).1
                rw [hd]; omega
              · have := HFF.out.2.1 k z' y hy e
                omega) (HFF.out.2.2.2 til hm1 hgt))
            have hgi : (til : Int) < (st : Int) := by omega
            clear h1 h2 h3 h4 h5 h8 h9 h10 h11 h12 h13 hall
            go_wp2_with fail
            refine hes.mono ?_
            rintro e w3 ⟨rfl, rfl⟩
            go_wp2_with fail
            refine hss.mono ?_
            rintro e w3 ⟨rfl, rfl⟩
            go_wp2
            go_ret
            exact ⟨_, _, _, _, _, _, rfl, A2, rfl, HF.out.1.2, HF.out.1.1, HF.out.2⟩
          · have A2 := A.moved em1 hB ht (m' := st) (by omega) (fun k z' hk => div_up h12 (h11 k z' hk))
            have hgi : ¬ ((til : Int) < (st : Int)) := by omega
            have HO : Hid (∀ o, AD τ0 ft s.nid (taken (s1.pNow st) (some (q, z)) (L1 (some (q, z))) o) (putL L1 (some (q, z)) []) fr1 f1 (L1 (some (q, z))) l1) := hideIt (fun o => HD0.out.opened em1 HFF.out.1 HFF.out.2.1 HFF.out.2.2.1 o)
            have HST : Hid (ft ≤ st ∧ st < 18446744073709551616 ∧ m ≤ st) := hideIt (by
              have e1 := HFF.out.1
              have e2 := HM0.out m1 em1
              have e3 := HFT.out.2
              omega)
            clear h1 h2 h3 h4 h5 h8 h9 h10 h11 h12 h13 hall
            go_wp2_with fail
            refine hes.mono ?_
            rintro e w3 ⟨rfl, rfl⟩
            go_wp2_with fail
            refine hss.mono ?_
            rintro e w3 ⟨rfl, rfl⟩
            go_wp2_with fail
            refine (open_t (τ0 := τ0) (ft := ft) (N := s.nid) A2.T A2.I hq h6 A2.F A2.len A2.co hB (by rw [A2.mb]; exact hm) A2.hb rfl H13.out HO.out HST.out.1 HST.out.2.1).mono ?_
            rintro e w3 ⟨v3, s3, L3, fr3, f3, l3, vi3, rfl, O3, hD3⟩
            have HD3 := hideIt hD3
            have HM3 : Hid (∀ m1 : Nat, s3.now = m1 → m ≤ m1) := hideIt (fun m1 e => by
              have e1 : s3.now = (st : Int) := O3.now
              have e2 := HST.out.2.2
              omega)
            clear hD3
            obtain ⟨A3, hp3⟩ := A2.opened h7 O3
            have hp3' : pot s3 < pot s1 := hp3
            clear A A2 O3 hes hss fz hp3
            go_wp2
            go_roundg (pot s3)
            case measure => rw [← HP.out]; exact hp3'
            case rel => exact ⟨_, _, _, _, _, _, rfl, rfl, A3, HD3, HM3⟩
    | x :: xs, R, HD0 =>
      obtain ⟨hv, hx, _⟩ := R.nc
      subst hv
      have x0 : (0 : Int) ≤ x := by omega
      have x1 : (x : Int) < 64 := by omega
      have hxb : ((x : Int) != -1) = true := by simp <;> omega
      obtain ⟨_, _, _, _, _, x5, _, _⟩ := R.T.wh.node hx
      have hid := R.I.ids x hx
      have hroom := R.I.room
      have hll : l'.length < 100000 := by
        have h1 := R.len
        have h2 := nodup_le 64 fr' R.I.frn (NC_lt _ _ R.I.fre)
        omega
      have hm' : s'.mb < base := by rw [R.mb]; exact hm
      go_wp2_with fail
      refine (expire_any R.T hx hid hroom R.F hll hB hm' R.hb).mono ?_
      rintro e w3 ⟨v3, rfl, T3, F3, M3⟩
      have R3 := R.expired T3 F3 ⟨M3.os, M3.tape, M3.output, M3.size, M3.block, M3.frz, M3.cell⟩
      have HD3 := hideIt (HD0.out.expired (t := (ft : Int)) R.I (by
        rw [R.dl x (by simp), R.now, em]
        exact HDU.out x (by rw [R.sp]; simp)) (by
        have h1 := HDU.out x (by rw [R.sp]; simp)
        have h2 := R.dl x (by simp)
        have h3 := HFT.out.1
        rw [h2]; omega))
      clear R T3 F3 M3 x5
      go_wp2
      go_roundg xs.length
      case measure => rw [← hxl]; simp
      case rel => exact ⟨_, _, _, _, _, _, _, _, _, rfl, rfl, rfl, R3, HD3⟩

end Go.Proofs.Qxb6500877aGreatDoor
