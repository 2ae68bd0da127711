import Derived.Test.Qxb6500877aGreatDoorTe
import Derived.Test.Qxb6500877aGreatDoorWw
set_option linter.unusedVariables false
set_option linter.unusedSimpArgs false
namespace Go.Proofs.Qxb6500877aGreatDoor
open Go.RowKit

set_option maxHeartbeats 4000000 in
theorem arm_t {w : World} {B n m i d : Nat} {s : Wheel} {L : Option (Nat × Nat) → List Nat} {fr : List Nat} {f : Int → Option Int} {c ck : Int} (T : TimersAt w B n s f) (I : WInv s L (i :: fr) f []) (em : s.now = m) (hc : 0 ≤ c ∧ c < 4) (hd : d < 18446744073709551616) (hn : n < 1000000) (hO : WO s L (i :: fr) f []) (hi0 : 0 < s.nid) (hi1 : s.nid + 1 < 18446744073709551616) :
    Calls Tryz.prog 138 #[.pointer (some ⟨B, 1, none⟩), .int .i64 c, .int .u64 (d : Int), .int .u64 ck] w fun e w' => e = .returned (.int .u64 s.nid) ∧ (∃ s' L' fr' f', TimersAt w' B (n + 1) s' f' ∧ WInv s' L' fr' f' [] ∧ WO s' L' fr' f' [] ∧ tmOf s' f' = updT (tmOf s f) s.nid (some ⟨c, d, ck⟩) ∧ s'.nid = s.nid + 1 ∧ s'.now = m ∧ s'.mb = s.mb) ∧ Mut2 B 1 1939 s.mb w w' := by
  have hi : i < 64 := I.fre.2.1
  have ef : s.free = i := I.fre.1
  have i0 : (0 : Int) ≤ i := by omega
  have i1 : (i : Int) < 64 := by omega
  have hne : ¬ (s.mb = B) := T.ne
  have hne' : ¬ (B = s.mb) := fun e => T.ne e.symm
  obtain ⟨x0, x1, x2, x3, x4, x5, x6, x7⟩ := T.wh.node hi
  obtain ⟨_, o1, o2, o3, o4⟩ := T.wh.one
  rw [ef] at o1
  have fz := T.wh.frz
  have hlive : s.live = 64 - ((i :: fr).length : Int) := I.live
  have hlen := nodup_le 64 (i :: fr) I.frn (NC_lt _ _ I.fre)
  have hwl : IntKind.i64.wrap (s.live + 1) = s.live + 1 := wrap_i64 (by omega)
  clear hlive hlen
  have I1 := arm_inv (c := c) (ck := ck) I hc hd
  have HO1 := hideIt (hO.arm (c := c) (d := d) (ck := ck) I hi0 hi1)
  have HT1 := hideIt (tm_arm (c := c) (d := d) (ck := ck) I)
  have HM : Hid (m < 18446744073709551616) := hideIt (by obtain ⟨m', e1, e2⟩ := I.now; omega)
  clear hO hi0 hi1
  have n0 : ¬ (514 = 515) := by omega
  have n1 : ¬ (515 = 514) := by omega
  have n2 : ¬ (514 = 516) := by omega
  have n3 : ¬ (516 = 514) := by omega
  have n4 : ¬ (514 = 517) := by omega
  have n5 : ¬ (517 = 514) := by omega
  have n6 : ¬ (516 = 515) := by omega
  have n7 : ¬ (515 = 516) := by omega
  have n8 : ¬ (516 = 517) := by omega
  have n9 : ¬ (517 = 516) := by omega
  have n10 : ¬ (2 + i * 8 = 514) := by omega
  have n11 : ¬ (514 = 2 + i * 8) := by omega
  have n12 : ¬ (2 + i * 8 = 515) := by omega
  have n13 : ¬ (515 = 2 + i * 8) := by omega
  have n14 : ¬ (2 + i * 8 = 516) := by omega
  have n15 : ¬ (516 = 2 + i * 8) := by omega
  have n16 : ¬ (2 + i * 8 = 517) := by omega
  have n17 : ¬ (517 = 2 + i * 8) := by omega
  have n18 : ¬ (2 + i * 8 + 1 = 514) := by omega
  have n19 : ¬ (514 = 2 + i * 8 + 1) := by omega
  have n20 : ¬ (2 + i * 8 + 1 = 515) := by omega
  have n21 : ¬ (515 = 2 + i * 8 + 1) := by omega
  have n22 : ¬ (2 + i * 8 + 1 = 516) := by omega
  have n23 : ¬ (516 = 2 + i * 8 + 1) := by omega
  have n24 : ¬ (2 + i * 8 + 1 = 517) := by omega
  have n25 : ¬ (517 = 2 + i * 8 + 1) := by omega
  have n26 : ¬ (2 + i * 8 + 2 = 514) := by omega
  have n27 : ¬ (514 = 2 + i * 8 + 2) := by omega
  have n28 : ¬ (2 + i * 8 + 2 = 515) := by omega
  have n29 : ¬ (515 = 2 + i * 8 + 2) := by omega
  have n30 : ¬ (2 + i * 8 + 2 = 516) := by omega
  have n31 : ¬ (516 = 2 + i * 8 + 2) := by omega
  have n32 : ¬ (2 + i * 8 + 2 = 517) := by omega
  have n33 : ¬ (517 = 2 + i * 8 + 2) := by omega
  have n34 : ¬ (2 + i * 8 + 3 = 514) := by omega
  have n35 : ¬ (514 = 2 + i * 8 + 3) := by omega
  have n36 : ¬ (2 + i * 8 + 3 = 515) := by omega
  have n37 : ¬ (515 = 2 + i * 8 + 3) := by omega
  have n38 : ¬ (2 + i * 8 + 3 = 516) := by omega
  have n39 : ¬ (516 = 2 + i * 8 + 3) := by omega
  have n40 : ¬ (2 + i * 8 + 3 = 517) := by omega
  have n41 : ¬ (517 = 2 + i * 8 + 3) := by omega
  have n42 : ¬ (2 + i * 8 + 4 = 514) := by omega
  have n43 : ¬ (514 = 2 + i * 8 + 4) := by omega
  have n44 : ¬ (2 + i * 8 + 4 = 515) := by omega
  have n45 : ¬ (515 = 2 + i * 8 + 4) := by omega
  have n46 : ¬ (2 + i * 8 + 4 = 516) := by omega
  have n47 : ¬ (516 = 2 + i * 8 + 4) := by omega
  have n48 : ¬ (2 + i * 8 + 4 = 517) := by omega
  have n49 : ¬ (517 = 2 + i * 8 + 4) := by omega
  have n50 : ¬ (2 + i * 8 + 5 = 514) := by omega
  have n51 : ¬ (514 = 2 + i * 8 + 5) := by omega
  have n52 : ¬ (2 + i * 8 + 5 = 515) := by omega
  have n53 : ¬ (515 = 2 + i * 8 + 5) := by omega
  have n54 : ¬ (2 + i * 8 + 5 = 516) := by omega
  have n55 : ¬ (516 = 2 + i * 8 + 5) := by omega
  have n56 : ¬ (2 + i * 8 + 5 = 517) := by omega
  have n57 : ¬ (517 = 2 + i * 8 + 5) := by omega
  have n58 : ¬ (2 + i * 8 + 6 = 514) := by omega
  have n59 : ¬ (514 = 2 + i * 8 + 6) := by omega
  have n60 : ¬ (2 + i * 8 + 6 = 515) := by omega
  have n61 : ¬ (515 = 2 + i * 8 + 6) := by omega
  have n62 : ¬ (2 + i * 8 + 6 = 516) := by omega
  have n63 : ¬ (516 = 2 + i * 8 + 6) := by omega
  have n64 : ¬ (2 + i * 8 + 6 = 517) := by omega
  have n65 : ¬ (517 = 2 + i * 8 + 6) := by omega
  have n66 : ¬ (2 + i * 8 + 7 = 514) := by omega
  have n67 : ¬ (514 = 2 + i * 8 + 7) := by omega
  have n68 : ¬ (2 + i * 8 + 7 = 515) := by omega
  have n69 : ¬ (515 = 2 + i * 8 + 7) := by omega
  have n70 : ¬ (2 + i * 8 + 7 = 516) := by omega
  have n71 : ¬ (516 = 2 + i * 8 + 7) := by omega
  have n72 : ¬ (2 + i * 8 + 7 = 517) := by omega
  have n73 : ¬ (517 = 2 + i * 8 + 7) := by omega
  have n74 : ¬ (515 = 517) := by omega
  have n75 : ¬ (517 = 515) := by omega
  go_enter Tryz.func138, Tryz.ntmps138
  go_upto_region 5 with fail
  go_cut [] (fun wc => WheelAt wc B (((s.pFree (s.nd i).nx).pNid (IntKind.u64.wrap (s.nid + 1))).setNd i ⟨s.nid, c, d, ck, -1, -1, -3, 0⟩) ∧ Mut B 1 1939 w wc)
  case first =>
    go_wp2
    go_meet
    case rel =>
      have H2 := ((T.wh.putFree (s.nd i).nx).putNid (IntKind.u64.wrap (s.nid + 1))).putNode hi ⟨s.nid, c, d, ck, -1, -1, -3, 0⟩
      exact ⟨H2, (((((((((((Mut.refl B 1 1939 w).setCell (o := 514) (by omega) (by omega) _).setCell (o := 516) (by omega) (by omega) _).setCell (o := 2 + i * 8) (by omega) (by omega) _).setCell (o := 2 + i * 8 + 1) (by omega) (by omega) _).setCell (o := 2 + i * 8 + 2) (by omega) (by omega) _).setCell (o := 2 + i * 8 + 3) (by omega) (by omega) _).setCell (o := 2 + i * 8 + 4) (by omega) (by omega) _).setCell (o := 2 + i * 8 + 5) (by omega) (by omega) _).setCell (o := 2 + i * 8 + 6) (by omega) (by omega) _).setCell (o := 2 + i * 8 + 7) (by omega) (by omega) _)⟩
  case rest =>
    obtain ⟨HC, MC⟩ := hcut
    clear x0 x1 x2 x3 x4 x5 x6 x7 o1 o2 o3 o4 fz
    obtain ⟨w1, hrun, hm1, ht1⟩ := MapOf.store (T.mp.mut MC hne) (by unfold maxLen; omega) I.nid.1 I.nid.2 (v := i) (by omega) (by omega)
    have H1 := HC.turned ht1 hne'
    obtain ⟨_, o1, o2, o3, o4⟩ := HC.one
    obtain ⟨_, p1, p2, p3, p4⟩ := H1.one
    have p2' : w1.cell? ⟨B, 515, none⟩ = some (.int .i64 s.live) := p2
    have o4' : wc.cell? ⟨B, 517, none⟩ = some (.map (some s.mb)) := o4
    have fz := H1.frz
    clear o1 o2 o3 o4 p1 p2 p3 p4
    have M3 : Mut2 B 1 1939 s.mb w (w1.setCell ⟨B, 515, none⟩ (.int .i64 (s.live + 1))) := (MC.to2.trans (turned_mut ht1 hne')).setCell (by omega) (by omega) _
    have T3 : TimersAt (w1.setCell ⟨B, 515, none⟩ (.int .i64 (s.live + 1))) B (n + 1) (armF s i c d ck) (enroll f s.nid i) := ⟨H1.putLive (s.live + 1), hm1.cell hne _, hne⟩
    have em3 : (armF s i c d ck).now = m := em
    have ed3 : ((armF s i c d ck).nd i).dl = (d : Int) := by simp [armF, Wheel.pFree, Wheel.pNid, Wheel.pLive, Wheel.setNd]
    clear H1 hm1 ht1 HC MC
    go_wp2_with fail
    refine (place_any T3 I1 em3 ed3).mono ?_
    rintro e w4 ⟨rfl, ⟨s4, A, C, _, eA4, E4, q14, q24, I4, T4⟩, M4⟩
    have HW4 := hideIt (HO1.out.1.place em3 ed3 HM.out hd eA4 E4 (I1.notin (by have := (I1.hnd i (by simp)).2; omega)) q14 q24)
    have HT4 : Hid (tmOf s4 (enroll f s.nid i) = updT (tmOf s f) s.nid (some ⟨c, d, ck⟩)) := hideIt (by rw [← HT1.out]; exact tm_keep (fun y => (E4.keep y).2))
    clear eA4 q14 q24
    go_wp2
    go_ret
    exact ⟨rfl, ⟨s4, _, fr, _, T4, I4, HW4.out, HT4.out, by rw [E4.nid]; exact HO1.out.2, by rw [E4.now]; exact em3, by rw [E4.mb]; rfl⟩, M3.trans M4.to2⟩
end Go.Proofs.Qxb6500877aGreatDoor
