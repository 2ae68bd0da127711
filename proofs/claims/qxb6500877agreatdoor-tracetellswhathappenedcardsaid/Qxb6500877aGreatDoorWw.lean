import Derived.Test.Qxb6500877aGreatDoorWr
set_option linter.unusedVariables false
set_option linter.unusedSimpArgs false
namespace Go.Proofs.Qxb6500877aGreatDoor
open Go.RowKit

def armF (s : Wheel) (i : Nat) (c d ck : Int) : Wheel := (((s.pFree (s.nd i).nx).pNid (IntKind.u64.wrap (s.nid + 1))).setNd i ⟨s.nid, c, d, ck, -1, -1, -3, 0⟩).pLive (s.live + 1)
def enroll (f : Int → Option Int) (id i : Int) : Int → Option Int := fun j => if j = id then some i else f j
theorem arm_inv {s : Wheel} {L : Option (Nat × Nat) → List Nat} {fr : List Nat} {f : Int → Option Int} {i : Nat} {c ck : Int} {d : Nat} (I : WInv s L (i :: fr) f []) (hc : 0 ≤ c ∧ c < 4) (hd : d < 18446744073709551616) : WInv (armF s i c d ck) L fr (enroll f s.nid i) [i] := by
  have hlv := I.frl i (by simp)
  have hi : i < 64 := I.fre.2.1
  have hni := I.notin (x := i) (by omega)
  obtain ⟨hif, hfn⟩ := List.nodup_cons.1 I.frn
  have hne : ∀ {x : Nat}, x ≠ i → (armF s i c d ck).nd x = s.nd x := fun {x} h => by simp [armF, Wheel.pFree, Wheel.pNid, Wheel.pLive, Wheel.setNd, h]
  have hself : (armF s i c d ck).nd i = ⟨s.nid, c, d, ck, -1, -1, -3, 0⟩ := by simp [armF, Wheel.pFree, Wheel.pNid, Wheel.pLive, Wheel.setNd]
  have hL : ∀ q x, x ∈ L q → (armF s i c d ck).nd x = s.nd x := fun q x hx => hne (fun e => hni q (e ▸ hx))
  refine ⟨fun q hq => ?_, I.nod, fun q x hx => by rw [hL q x hx]; exact I.mem q x hx, fun x hx => ?_, by simp, ?_, fun x hx => ?_, hfn, ?_, fun id j hj => ?_, fun x hx => ?_, fun x hx => ?_, fun x hx => ?_, I.occ, I.now, fun k z x hx d n hd hn => ?_, ?_⟩
  · exact seg_congr _ _ _ _ _ (fun x hx => by rw [hL q x hx]; exact ⟨rfl, rfl⟩) (I.dll q hq)
  · have e : x = i := by simpa using hx
    rw [e, hself]; exact ⟨hi, rfl⟩
  · exact NC_congr _ _ (fun x hx => by rw [hne (fun e => hif (e ▸ hx))]) I.fre.2.2
  · rw [hne (fun e => hif (e ▸ hx))]
    exact I.frl x (by simp [hx])
  · show s.live + 1 = _
    rw [I.live, List.length_cons]
    omega
  · by_cases e : id = s.nid
    · simp only [enroll, if_pos e] at hj
      exact ⟨i, (Option.some.inj hj).symm, hi, by rw [hself]; exact e.symm, .inl (by simp)⟩
    · simp only [enroll, if_neg e] at hj
      obtain ⟨x, a, b, c', d'⟩ := I.map id j hj
      rcases d' with d' | ⟨q, d'⟩
      · simp at d'
      · exact ⟨x, a, b, by rw [hL q x d']; exact c', .inr ⟨q, d'⟩⟩
  · by_cases e : x = i
    · rw [e, hself]; exact I.nid
    · rw [hne e]; exact I.ids x hx
  · by_cases e : x = i
    · rw [e, hself]; exact ⟨d, rfl, hd⟩
    · rw [hne e]; exact I.dls x hx
  · by_cases e : x = i
    · rw [e, hself]; exact hc
    · rw [hne e]; exact I.cos x hx
  · rw [hL _ x hx] at hd
    exact I.dig k z x hx d n hd hn
  · show 0 ≤ IntKind.u64.wrap (s.nid + 1) ∧ IntKind.u64.wrap (s.nid + 1) < _
    rw [wrap_mod]
    omega

set_option maxHeartbeats 4000000 in
theorem arm_any {w : World} {B n m i d : Nat} {s : Wheel} {L : Option (Nat × Nat) → List Nat} {fr : List Nat} {f : Int → Option Int} {c ck : Int} (T : TimersAt w B n s f) (I : WInv s L (i :: fr) f []) (em : s.now = m) (hc : 0 ≤ c ∧ c < 4) (hd : d < 18446744073709551616) (hn : n < 1000000) :
    Calls Tryz.prog 138 #[.pointer (some ⟨B, 1, none⟩), .int .i64 c, .int .u64 (d : Int), .int .u64 ck] w fun e w' => e = .returned (.int .u64 s.nid) ∧ (∃ s' L' fr' f', TimersAt w' B (n + 1) s' f' ∧ WInv s' L' fr' f' [] ∧ s'.now = m ∧ s'.mb = s.mb) ∧ Mut2 B 1 1939 s.mb w w' := by
  have hi : i < 64 := I.fre.2.1
  have ef : s.free = i := I.fre.1
  have i0 : (0 : Int) ≤ i := by omega
  have i1 : (i : Int) < 64 := by omega
  have hne : ¬ (s.mb = B) := T.ne
  have hne' : ¬ (B = s.mb) := fun e => T.ne e.symm
  obtain ⟨x0, x1, x2, x3, x4, x5, x6, x7⟩ := T.wh.node hi
  obtain ⟨_, o1, o2, o3, o4⟩ := T.wh.one
  rw [ef] at o1
  have fz := T.wh.frz
  have hlive : s.live = 64 - ((i :: fr).length : Int) := I.live
  have hlen := nodup_le 64 (i :: fr) I.frn (NC_lt _ _ I.fre)
  have hwl : IntKind.i64.wrap (s.live + 1) = s.live + 1 := wrap_i64 (by omega)
  clear hlive hlen
  have I1 := arm_inv (c := c) (ck := ck) I hc hd
  have n0 : ¬ (514 = 515) := by omega
  have n1 : ¬ (515 = 514) := by omega
  have n2 : ¬ (514 = 516) := by omega
  have n3 : ¬ (516 = 514) := by omega
  have n4 : ¬ (514 = 517) := by omega
  have n5 : ¬ (517 = 514) := by omega
  have n6 : ¬ (516 = 515) := by omega
  have n7 : ¬ (515 = 516) := by omega
  have n8 : ¬ (516 = 517) := by omega
  have n9 : ¬ (517 = 516) := by omega
  have n10 : ¬ (2 + i * 8 = 514) := by omega
  have n11 : ¬ (514 = 2 + i * 8) := by omega
  have n12 : ¬ (2 + i * 8 = 515) := by omega
  have n13 : ¬ (515 = 2 + i * 8) := by omega
  have n14 : ¬ (2 + i * 8 = 516) := by omega
  have n15 : ¬ (516 = 2 + i * 8) := by omega
  have n16 : ¬ (2 + i * 8 = 517) := by omega
  have n17 : ¬ (517 = 2 + i * 8) := by omega
  have n18 : ¬ (2 + i * 8 + 1 = 514) := by omega
  have n19 : ¬ (514 = 2 + i * 8 + 1) := by omega
  have n20 : ¬ (2 + i * 8 + 1 = 515) := by omega
  have n21 : ¬ (515 = 2 + i * 8 + 1) := by omega
  have n22 : ¬ (2 + i * 8 + 1 = 516) := by omega
  have n23 : ¬ (516 = 2 + i * 8 + 1) := by omega
  have n24 : ¬ (2 + i * 8 + 1 = 517) := by omega
  have n25 : ¬ (517 = 2 + i * 8 + 1) := by omega
  have n26 : ¬ (2 + i * 8 + 2 = 514) := by omega
  have n27 : ¬ (514 = 2 + i * 8 + 2) := by omega
  have n28 : ¬ (2 + i * 8 + 2 = 515) := by omega
  have n29 : ¬ (515 = 2 + i * 8 + 2) := by omega
  have n30 : ¬ (2 + i * 8 + 2 = 516) := by omega
  have n31 : ¬ (516 = 2 + i * 8 + 2) := by omega
  have n32 : ¬ (2 + i * 8 + 2 = 517) := by omega
  have n33 : ¬ (517 = 2 + i * 8 + 2) := by omega
  have n34 : ¬ (2 + i * 8 + 3 = 514) := by omega
  have n35 : ¬ (514 = 2 + i * 8 + 3) := by omega
  have n36 : ¬ (2 + i * 8 + 3 = 515) := by omega
  have n37 : ¬ (515 = 2 + i * 8 + 3) := by omega
  have n38 : ¬ (2 + i * 8 + 3 = 516) := by omega
  have n39 : ¬ (516 = 2 + i * 8 + 3) := by omega
  have n40 : ¬ (2 + i * 8 + 3 = 517) := by omega
  have n41 : ¬ (517 = 2 + i * 8 + 3) := by omega
  have n42 : ¬ (2 + i * 8 + 4 = 514) := by omega
  have n43 : ¬ (514 = 2 + i * 8 + 4) := by omega
  have n44 : ¬ (2 + i * 8 + 4 = 515) := by omega
  have n45 : ¬ (515 = 2 + i * 8 + 4) := by omega
  have n46 : ¬ (2 + i * 8 + 4 = 516) := by omega
  have n47 : ¬ (516 = 2 + i * 8 + 4) := by omega
  have n48 : ¬ (2 + i * 8 + 4 = 517) := by omega
  have n49 : ¬ (517 = 2 + i * 8 + 4) := by omega
  have n50 : ¬ (2 + i * 8 + 5 = 514) := by omega
  have n51 : ¬ (514 = 2 + i * 8 + 5) := by omega
  have n52 : ¬ (2 + i * 8 + 5 = 515) := by omega
  have n53 : ¬ (515 = 2 + i * 8 + 5) := by omega
  have n54 : ¬ (2 + i * 8 + 5 = 516) := by omega
  have n55 : ¬ (516 = 2 + i * 8 + 5) := by omega
  have n56 : ¬ (2 + i * 8 + 5 = 517) := by omega
  have n57 : ¬ (517 = 2 + i * 8 + 5) := by omega
  have n58 : ¬ (2 + i * 8 + 6 = 514) := by omega
  have n59 : ¬ (514 = 2 + i * 8 + 6) := by omega
  have n60 : ¬ (2 + i * 8 + 6 = 515) := by omega
  have n61 : ¬ (515 = 2 + i * 8 + 6) := by omega
  have n62 : ¬ (2 + i * 8 + 6 = 516) := by omega
  have n63 : ¬ (516 = 2 + i * 8 + 6) := by omega
  have n64 : ¬ (2 + i * 8 + 6 = 517) := by omega
  have n65 : ¬ (517 = 2 + i * 8 + 6) := by omega
  have n66 : ¬ (2 + i * 8 + 7 = 514) := by omega
  have n67 : ¬ (514 = 2 + i * 8 + 7) := by omega
  have n68 : ¬ (2 + i * 8 + 7 = 515) := by omega
  have n69 : ¬ (515 = 2 + i * 8 + 7) := by omega
  have n70 : ¬ (2 + i * 8 + 7 = 516) := by omega
  have n71 : ¬ (516 = 2 + i * 8 + 7) := by omega
  have n72 : ¬ (2 + i * 8 + 7 = 517) := by omega
  have n73 : ¬ (517 = 2 + i * 8 + 7) := by omega
  have n74 : ¬ (515 = 517) := by omega
  have n75 : ¬ (517 = 515) := by omega
  go_enter Tryz.func138, Tryz.ntmps138
  go_upto_region 5 with fail
  go_cut [] (fun wc => WheelAt wc B (((s.pFree (s.nd i).nx).pNid (IntKind.u64.wrap (s.nid + 1))).setNd i ⟨s.nid, c, d, ck, -1, -1, -3, 0⟩) ∧ Mut B 1 1939 w wc)
  case first =>
    go_wp2
    go_meet
    case rel =>
      have H2 := ((T.wh.putFree (s.nd i).nx).putNid (IntKind.u64.wrap (s.nid + 1))).putNode hi ⟨s.nid, c, d, ck, -1, -1, -3, 0⟩
      exact ⟨H2, (((((((((((Mut.refl B 1 1939 w).setCell (o := 514) (by omega) (by omega) _).setCell (o := 516) (by omega) (by omega) _).setCell (o := 2 + i * 8) (by omega) (by omega) _).setCell (o := 2 + i * 8 + 1) (by omega) (by omega) _).setCell (o := 2 + i * 8 + 2) (by omega) (by omega) _).setCell (o := 2 + i * 8 + 3) (by omega) (by omega) _).setCell (o := 2 + i * 8 + 4) (by omega) (by omega) _).setCell (o := 2 + i * 8 + 5) (by omega) (by omega) _).setCell (o := 2 + i * 8 + 6) (by omega) (by omega) _).setCell (o := 2 + i * 8 + 7) (by omega) (by omega) _)⟩
  case rest =>
    obtain ⟨HC, MC⟩ := hcut
    clear x0 x1 x2 x3 x4 x5 x6 x7 o1 o2 o3 o4 fz
    obtain ⟨w1, hrun, hm1, ht1⟩ := MapOf.store (T.mp.mut MC hne) (by unfold maxLen; omega) I.nid.1 I.nid.2 (v := i) (by omega) (by omega)
    have H1 := HC.turned ht1 hne'
    obtain ⟨_, o1, o2, o3, o4⟩ := HC.one
    obtain ⟨_, p1, p2, p3, p4⟩ := H1.one
    have p2' : w1.cell? ⟨B, 515, none⟩ = some (.int .i64 s.live) := p2
    have o4' : wc.cell? ⟨B, 517, none⟩ = some (.map (some s.mb)) := o4
    have fz := H1.frz
    clear o1 o2 o3 o4 p1 p2 p3 p4
    have M3 : Mut2 B 1 1939 s.mb w (w1.setCell ⟨B, 515, none⟩ (.int .i64 (s.live + 1))) := (MC.to2.trans (turned_mut ht1 hne')).setCell (by omega) (by omega) _
    have T3 : TimersAt (w1.setCell ⟨B, 515, none⟩ (.int .i64 (s.live + 1))) B (n + 1) (armF s i c d ck) (enroll f s.nid i) := ⟨H1.putLive (s.live + 1), hm1.cell hne _, hne⟩
    have em3 : (armF s i c d ck).now = m := em
    have ed3 : ((armF s i c d ck).nd i).dl = (d : Int) := by simp [armF, Wheel.pFree, Wheel.pNid, Wheel.pLive, Wheel.setNd]
    clear H1 hm1 ht1 HC MC
    go_wp2_with fail
    refine (place_any T3 I1 em3 ed3).mono ?_
    rintro e w4 ⟨rfl, ⟨s4, A, C, _, _, E4, _, _, I4, T4⟩, M4⟩
    go_wp2
    go_ret
    exact ⟨rfl, ⟨s4, _, fr, _, T4, I4, by rw [E4.now]; exact em3, by rw [E4.mb]; rfl⟩, M3.trans M4.to2⟩
end Go.Proofs.Qxb6500877aGreatDoor
