import Derived.Test.Qxb6500877aGreatDoorTe
import Derived.Test.Qxb6500877aGreatDoorWy
set_option linter.unusedVariables false
set_option linter.unusedSimpArgs false
namespace Go.Proofs.Qxb6500877aGreatDoor
open Go.RowKit


set_option maxHeartbeats 4000000 in
theorem cancel_t {w : World} {B n x : Nat} {s : Wheel} {L : Option (Nat × Nat) → List Nat} {fr : List Nat} {f : Int → Option Int} {id : Int} (T : TimersAt w B n s f) (I : WInv s L fr f []) (h0 : 0 ≤ id) (h1 : id < 18446744073709551616) (hf : f id = some (x : Int)) (hO : WO s L fr f []) :
    Calls Tryz.prog 141 #[.pointer (some ⟨B, 1, none⟩), .int .u64 id] w fun e w' => (∃ c d k : Int, tmOf s f id = some ⟨c, d, k⟩ ∧ (0 ≤ c ∧ c < 4) ∧ e = .returned (.tuple #[timerV id c d k, .bool true])) ∧ (∃ s' L' fr' f', TimersAt w' B n s' f' ∧ WInv s' L' fr' f' [] ∧ WO s' L' fr' f' [] ∧ tmOf s' f' = updT (tmOf s f) id none ∧ s'.nid = s.nid ∧ s'.now = s.now ∧ s'.mb = s.mb) ∧ Mut2 B 1 1939 s.mb w w' := by
  have hlt : B < w.heap.size := World.block_lt_of_cell? _ _ T.wh.one.1
  have hlm := T.mp.lt
  obtain ⟨x', ex, hx, eid, hmem⟩ := I.map id x hf
  have ex' : x' = x := by omega
  subst ex'
  have hmem' : ∃ r, x' ∈ L r := by
    rcases hmem with q | q
    · simp at q
    · exact q
  obtain ⟨r, hxr⟩ := hmem'
  have hr : lOk r := (I.mem r x' hxr).1
  obtain ⟨A, C, eL⟩ := List.append_of_mem hxr
  have HEID := hideIt eid
  have HTF := hideIt (tm_at (s := s) hf)
  have HF := hideIt hf
  have HO := hideIt hO
  clear hmem ex eid hO
  have x0 : (0 : Int) ≤ x' := by omega
  have x1 : (x' : Int) < 64 := by omega
  generalize hW : w.alloc (.cells #[.int .u64 0, .int .i64 0, .int .u64 0, .int .u64 0] 84) = W at *
  have hb0 : Below w.heap.size w W := by rw [← hW]; exact one_alloc _ _
  have hsz : W.heap.size = w.heap.size + 1 := by rw [← hW]; simp
  have F0 : Four W w.heap.size 0 0 0 0 := by rw [← hW]; exact four_new _ _ _ _ _ _
  have TW := T.below hb0
  have M0 : Mut B 1 1939 w W := Mut.of_below hb0 hlt
  have hrun := TW.mp.look h0 h1
  rw [hf] at hrun
  have hrun' : (Instr.lookup 161 (.map (some s.mb)) (.int .u64 id) true).run Tryz.prog W = .ok (.tuple #[.int .i16 x', .bool true]) W := hrun
  obtain ⟨_, _, _, _, o4⟩ := TW.wh.one
  obtain ⟨y0, y1, y2, y3, _, _, _, _⟩ := TW.wh.node hx
  have hcos := I.cos x' hx
  clear hrun hf
  go_enter Tryz.func141, Tryz.ntmps141
  go_upto_region 4 with fail
  go_cut [8] (fun a8 wc => ∃ b, a8 = .pointer (some ⟨b, 0, none⟩) ∧ Four wc b (s.nd x').id (s.nd x').core (s.nd x').dl (s.nd x').ck ∧ b ≠ B ∧ b ≠ s.mb ∧ b ≠ w.heap.size ∧ Below W.heap.size W wc)
  case first =>
    go_wp2
    go_meet
    case rel => exact ⟨_, rfl, by rw [← hsz]; exact four_new _ _ _ _ _ _, by omega, by omega, by omega, one_alloc _ _⟩
  case rest =>
    obtain ⟨b, rfl, F8, hb1, hb2, hb3, hbc⟩ := hcut
    have TC := TW.below hbc
    have hltW : B < W.heap.size := by omega
    have FC := F0.of_block (w' := wc) ((Mut.of_below (lo := 0) (hi := 0) hbc hltW).block w.heap.size (by omega) (by omega))
    have MC : Mut2 B 1 1939 s.mb w wc := (M0.trans (Mut.of_below hbc hltW)).to2
    clear o4 y0 y1 y2 y3 hrun' F0 TW M0 hb0
    go_wp2_with fail
    refine (unlink_any TC.wh I hr eL).mono ?_
    rintro e w1 ⟨rfl, ⟨s1, E1, ho1, H1⟩, M1⟩
    have I1 := unl_inv I hr eL E1 ho1
    have T1 : TimersAt w1 B n s1 f := ⟨H1, by rw [E1.mb]; exact TC.mp.mut M1 TC.ne, by rw [E1.mb]; exact TC.ne⟩
    have F81 := F8.mut M1 hb1
    have FC1 := FC.mut M1 (by omega)
    have MC1 : Mut2 B 1 1939 s.mb w w1 := MC.trans M1.to2
    have e1 : s1.mb = s.mb := E1.mb
    have e2 : s1.now = s.now := E1.now
    have hid1 := I1.ids x' hx
    have hroom := I1.room
    have HO1 := hideIt (HO.out.unl eL E1)
    have HID1 : Hid ((s1.nd x').id = id) := hideIt ((E1.keep x').1.trans HEID.out)
    have HTM1 : Hid (tmOf s1 f = tmOf s f) := hideIt (tm_keep (fun y => (E1.keep y).2))
    have HN1 : Hid (s1.nid = s.nid) := hideIt E1.nid
    clear F8 FC MC TC H1 M1 E1 ho1
    go_wp2_with fail
    refine (retire_any T1 hx hid1 hroom).mono ?_
    rintro e w2 ⟨rfl, T2, M2⟩
    rw [e1] at M2
    have I2 := retire_inv I1
    have HO2 := hideIt (HO1.out.retire (by simp) (I1.notin (by have := (I1.hnd x' (by simp)).2; omega)))
    have HT2 : Hid (tmOf (retireF s1 x') (forget f (s1.nd x').id) = updT (tmOf s f) id none) := hideIt (by rw [tm_forget I1 (by rw [HID1.out]; exact HF.out), HTM1.out, HID1.out])
    have F82 := F81.mut2 M2 hb1 hb2
    have FC2 := FC1.mut2 M2 (by omega) (by omega)
    have MC2 : Mut2 B 1 1939 s.mb w w2 := MC1.trans M2
    have e3 : (retireF s1 x').mb = s.mb := e1
    clear F81 FC1 MC1 M2 T1 I1
    obtain ⟨z0, z1, z2, z3, _⟩ := F82
    obtain ⟨g0, g1, g2, g3, fz⟩ := FC2
    have hbn : ¬ (w.heap.size = b) := fun e => hb3 e.symm
    have hbn' : ¬ (b = w.heap.size) := hb3
    have HE1 := hideIt e1
    have HE2 := hideIt e2
    have HE3 := hideIt e3
    clear e1 e2 e3
    go_wp2
    have hq1 : w.heap.size ≠ B ∧ w.heap.size ≠ (retireF s1 x').mb := ⟨by omega, by rw [HE3.out]; omega⟩
    have hq2 : w.heap.size ≤ w.heap.size ∧ w.heap.size ≠ B := ⟨Nat.le_refl _, by omega⟩
    exact bodyPost_ret (v := .tuple #[timerV (s.nd x').id (s.nd x').core (s.nd x').dl (s.nd x').ck, .bool true]) (by simp [timerV, results, Tryz.results141, go_sem, g0, g1, g2, g3]) rfl
      ⟨⟨_, _, _, HTF.out, hcos, by rw [HEID.out]⟩, ⟨_, _, _, _, (((T2.other ⟨w.heap.size, 0, none⟩ hq1 _).other ⟨w.heap.size, 1, none⟩ hq1 _).other ⟨w.heap.size, 2, none⟩ hq1 _).other ⟨w.heap.size, 3, none⟩ hq1 _, I2, HO2.out, HT2.out, HN1.out, HE2.out, HE3.out⟩, (((MC2.fresh ⟨w.heap.size, 0, none⟩ hq2 _).fresh ⟨w.heap.size, 1, none⟩ hq2 _).fresh ⟨w.heap.size, 2, none⟩ hq2 _).fresh ⟨w.heap.size, 3, none⟩ hq2 _⟩

set_option maxHeartbeats 4000000 in
theorem rearm_t {w : World} {B n x m d : Nat} {s : Wheel} {L : Option (Nat × Nat) → List Nat} {fr : List Nat} {f : Int → Option Int} {id : Int} (T : TimersAt w B n s f) (I : WInv s L fr f []) (em : s.now = m) (hd : d < 18446744073709551616) (h0 : 0 ≤ id) (h1 : id < 18446744073709551616) (hf : f id = some (x : Int)) (hO : WO s L fr f []) :
    Calls Tryz.prog 140 #[.pointer (some ⟨B, 1, none⟩), .int .u64 id, .int .u64 (d : Int)] w fun e w' => (∃ c d0 k : Int, tmOf s f id = some ⟨c, d0, k⟩ ∧ (0 ≤ c ∧ c < 4) ∧ e = .returned (.tuple #[timerV id c d k, .bool true]) ∧ (∃ s' L' fr' f', TimersAt w' B n s' f' ∧ WInv s' L' fr' f' [] ∧ WO s' L' fr' f' [] ∧ tmOf s' f' = updT (tmOf s f) id (some ⟨c, d, k⟩) ∧ s'.nid = s.nid ∧ s'.now = s.now ∧ s'.mb = s.mb)) ∧ Mut2 B 1 1939 s.mb w w' := by
  have hlt : B < w.heap.size := World.block_lt_of_cell? _ _ T.wh.one.1
  have hlm := T.mp.lt
  obtain ⟨x', ex, hx, eid, hmem⟩ := I.map id x hf
  have ex' : x' = x := by omega
  subst ex'
  have hmem' : ∃ r, x' ∈ L r := by
    rcases hmem with q | q
    · simp at q
    · exact q
  obtain ⟨r, hxr⟩ := hmem'
  have hr : lOk r := (I.mem r x' hxr).1
  obtain ⟨A, C, eL⟩ := List.append_of_mem hxr
  have HEID := hideIt eid
  have HTF := hideIt (tm_at (s := s) hf)
  have HF := hideIt hf
  have HO := hideIt hO
  have HM : Hid (m < 18446744073709551616) := hideIt (by obtain ⟨m', q1, q2⟩ := I.now; omega)
  clear hmem ex eid hO
  have x0 : (0 : Int) ≤ x' := by omega
  have x1 : (x' : Int) < 64 := by omega
  generalize hW : w.alloc (.cells #[.int .u64 0, .int .i64 0, .int .u64 0, .int .u64 0] 84) = W at *
  have hb0 : Below w.heap.size w W := by rw [← hW]; exact one_alloc _ _
  have hsz : W.heap.size = w.heap.size + 1 := by rw [← hW]; simp
  have F0 : Four W w.heap.size 0 0 0 0 := by rw [← hW]; exact four_new _ _ _ _ _ _
  have TW := T.below hb0
  have M0 : Mut B 1 1939 w W := Mut.of_below hb0 hlt
  have hrun := TW.mp.look h0 h1
  rw [hf] at hrun
  have hrun' : (Instr.lookup 161 (.map (some s.mb)) (.int .u64 id) true).run Tryz.prog W = .ok (.tuple #[.int .i16 x', .bool true]) W := hrun
  obtain ⟨_, _, _, _, o4⟩ := TW.wh.one
  obtain ⟨y0, y1, y2, y3, _, _, _, _⟩ := TW.wh.node hx
  clear hrun hf
  by_cases hdd : (s.nd x').dl = d
  · have hcos := I.cos x' hx
    have hdb : ((s.nd x').dl != (d : Int)) = false := by simp [hdd]
    have HDD := hideIt hdd
    clear hdd
    obtain ⟨g0, g1, g2, g3, fz⟩ := F0
    have q1 : ¬ (w.heap.size = B) := by omega
    have q2 : ¬ (B = w.heap.size) := by omega
    go_enter Tryz.func140, Tryz.ntmps140
    go_wp2
    have hq1 : w.heap.size ≠ B ∧ w.heap.size ≠ s.mb := ⟨by omega, by omega⟩
    have hq2 : w.heap.size ≤ w.heap.size ∧ w.heap.size ≠ B := ⟨Nat.le_refl _, by omega⟩
    exact bodyPost_ret (v := .tuple #[timerV (s.nd x').id (s.nd x').core (s.nd x').dl (s.nd x').ck, .bool true]) (by simp [timerV, results, Tryz.results140, go_sem, g0, g1, g2, g3]) rfl
      ⟨⟨(s.nd x').core, (s.nd x').dl, (s.nd x').ck, HTF.out, hcos, by rw [HEID.out, HDD.out], ⟨_, _, _, _, (((TW.other ⟨w.heap.size, 0, none⟩ hq1 _).other ⟨w.heap.size, 1, none⟩ hq1 _).other ⟨w.heap.size, 2, none⟩ hq1 _).other ⟨w.heap.size, 3, none⟩ hq1 _, I, HO.out, by rw [← HDD.out]; exact (updT_self HTF.out).symm, rfl, rfl, rfl⟩⟩, (((M0.to2.fresh ⟨w.heap.size, 0, none⟩ hq2 _).fresh ⟨w.heap.size, 1, none⟩ hq2 _).fresh ⟨w.heap.size, 2, none⟩ hq2 _).fresh ⟨w.heap.size, 3, none⟩ hq2 _⟩

  · have hdb : ((s.nd x').dl != (d : Int)) = true := by simpa using hdd
    clear hdd
    go_enter Tryz.func140, Tryz.ntmps140
    go_wp2_with fail
    refine (unlink_any TW.wh I hr eL).mono ?_
    rintro e w1 ⟨rfl, ⟨s1, E1, ho1, H1⟩, M1⟩
    have I1 := unl_inv I hr eL E1 ho1
    have e1 : s1.mb = s.mb := E1.mb
    have em1 : s1.now = m := by rw [E1.now]; exact em
    have I2 := hand_inv I1 { s1.nd x' with dl := d } rfl rfl rfl ⟨d, rfl, hd⟩
    have T2 : TimersAt (w1.setCell ⟨B, 2 + x' * 8 + 2, none⟩ (.int .u64 (d : Int))) B n (s1.setNd x' { s1.nd x' with dl := d }) f := ⟨H1.putDl hx d, (show MapOf (w1.setCell ⟨B, 2 + x' * 8 + 2, none⟩ (.int .u64 (d : Int))) s1.mb n f by rw [e1]; exact (TW.mp.mut M1 TW.ne).cell TW.ne _), by show s1.mb ≠ B; rw [e1]; exact TW.ne⟩
    have M2 : Mut B 1 1939 w (w1.setCell ⟨B, 2 + x' * 8 + 2, none⟩ (.int .u64 (d : Int))) := (M0.trans M1).setCell (by omega) (by omega) _
    have em2 : (s1.setNd x' { s1.nd x' with dl := d }).now = m := em1
    have ed2 : ((s1.setNd x' { s1.nd x' with dl := d }).nd x').dl = (d : Int) := by simp [Wheel.setNd]
    have F1 := (F0.mut M1 (by omega)).mut (((Mut.refl B 1 1939 w1).setCell (o := 2 + x' * 8 + 2) (by omega) (by omega) (.int .u64 (d : Int)))) (by omega)
    obtain ⟨_, _, v2, _, _, _, _, _⟩ := H1.node hx
    have fz1 := H1.frz
    have HE1 := hideIt e1
    have HM1 := hideIt em1
    have HO1 := hideIt (WO.setdl (d := (d : Int)) (HO.out.unl eL E1) (I1.notin (by have := (I1.hnd x' (by simp)).2; omega)))
    have HK1 : Hid (∀ y, (s1.nd y).id = (s.nd y).id ∧ (s1.nd y).core = (s.nd y).core ∧ (s1.nd y).dl = (s.nd y).dl ∧ (s1.nd y).ck = (s.nd y).ck) := hideIt E1.keep
    have HN1 : Hid (s1.nid = s.nid) := hideIt E1.nid
    have HT1 : Hid (tmOf (s1.setNd x' { s1.nd x' with dl := d }) f = updT (tmOf s f) id (some ⟨(s.nd x').core, d, (s.nd x').ck⟩)) := hideIt (by rw [tm_setdl I1 (by rw [(E1.keep x').1, HEID.out]; exact HF.out), tm_keep (fun y => (E1.keep y).2), (E1.keep x').1, (E1.keep x').2.1, (E1.keep x').2.2.2, HEID.out])
    clear o4 y0 y1 y2 y3 hrun' F0 TW M0 M1 hb0 H1 E1 ho1 e1 em1
    go_wp2_with fail
    refine (place_any T2 I2 em2 ed2).mono ?_
    rintro e w3 ⟨rfl, ⟨s3, A3, C3, _, eA3, E3, q13, q23, I3, T3⟩, M3⟩
    have HO3 := hideIt (HO1.out.place em2 ed2 HM.out hd eA3 E3 (I2.notin (by have := (I2.hnd x' (by simp)).2; omega)) q13 q23)
    have HT3 : Hid (tmOf s3 f = updT (tmOf s f) id (some ⟨(s.nd x').core, d, (s.nd x').ck⟩)) := hideIt (by rw [← HT1.out]; exact tm_keep (fun y => (E3.keep y).2))
    have HV3 : Hid ((s3.nd x').id = id ∧ (s3.nd x').core = (s.nd x').core ∧ (s3.nd x').dl = d ∧ (s3.nd x').ck = (s.nd x').ck) := hideIt (by
      obtain ⟨k1, k2, k3, k4⟩ := E3.keep x'
      obtain ⟨j1, j2, j3, j4⟩ := HK1.out x'
      refine ⟨k1.trans ?_, k2.trans ?_, k3.trans ?_, k4.trans ?_⟩
      · simp [Wheel.setNd]; rw [j1]; exact HEID.out
      · simp [Wheel.setNd]; exact j2
      · simp [Wheel.setNd]
      · simp [Wheel.setNd]; exact j4)
    have HN3 : Hid (s3.nid = s.nid) := hideIt (by rw [E3.nid]; exact HN1.out)
    clear eA3 q13 q23
    have hcos := I3.cos x' hx
    have F3 := F1.mut M3 (by omega)
    have M4 : Mut2 B 1 1939 s.mb w w3 := (M2.trans M3).to2
    have HE3 : Hid (s3.mb = s.mb) := by rw [Hid, E3.mb]; exact HE1.out
    have HM3 : Hid (s3.now = s.now) := by rw [Hid, E3.now, em]; exact HM1.out
    obtain ⟨y0, y1, y2, y3, _, _, _, _⟩ := T3.wh.node hx
    obtain ⟨g0, g1, g2, g3, fz⟩ := F3
    have q1 : ¬ (w.heap.size = B) := by omega
    have q2 : ¬ (B = w.heap.size) := by omega
    clear v2 fz1 F1 M2 M3 T2 I2 E3 em2 ed2
    go_wp2
    have hq1 : w.heap.size ≠ B ∧ w.heap.size ≠ s3.mb := ⟨by omega, by rw [HE3.out]; omega⟩
    have hq2 : w.heap.size ≤ w.heap.size ∧ w.heap.size ≠ B := ⟨Nat.le_refl _, by omega⟩
    exact bodyPost_ret (v := .tuple #[timerV (s3.nd x').id (s3.nd x').core (s3.nd x').dl (s3.nd x').ck, .bool true]) (by simp [timerV, results, Tryz.results140, go_sem, g0, g1, g2, g3]) rfl
      ⟨⟨(s.nd x').core, (s.nd x').dl, (s.nd x').ck, HTF.out, by rw [← HV3.out.2.1]; exact hcos, by rw [HV3.out.1, HV3.out.2.1, HV3.out.2.2.1, HV3.out.2.2.2], ⟨_, _, _, _, (((T3.other ⟨w.heap.size, 0, none⟩ hq1 _).other ⟨w.heap.size, 1, none⟩ hq1 _).other ⟨w.heap.size, 2, none⟩ hq1 _).other ⟨w.heap.size, 3, none⟩ hq1 _, I3, HO3.out, HT3.out, HN3.out, HM3.out, HE3.out⟩⟩, (((M4.fresh ⟨w.heap.size, 0, none⟩ hq2 _).fresh ⟨w.heap.size, 1, none⟩ hq2 _).fresh ⟨w.heap.size, 2, none⟩ hq2 _).fresh ⟨w.heap.size, 3, none⟩ hq2 _⟩

end Go.Proofs.Qxb6500877aGreatDoor
