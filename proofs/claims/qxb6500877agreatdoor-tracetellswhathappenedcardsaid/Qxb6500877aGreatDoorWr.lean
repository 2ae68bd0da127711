import Derived.Test.Qxb6500877aGreatDoorWq
set_option linter.unusedVariables false
set_option linter.unusedSimpArgs false
namespace Go.Proofs.Qxb6500877aGreatDoor
open Go.RowKit

theorem UnlEff.keep {s s' : Wheel} {r : Option (Nat × Nat)} {i : Nat} {A C : List Nat} (E : UnlEff s s' r i A C) (x : Nat) : (s'.nd x).id = (s.nd x).id ∧ (s'.nd x).core = (s.nd x).core ∧ (s'.nd x).dl = (s.nd x).dl ∧ (s'.nd x).ck = (s.nd x).ck := by
  rw [E.nd x]
  by_cases h : x = i
  · subst h; simp
  · simp [h]
theorem UnlEff.lvl {s s' : Wheel} {r : Option (Nat × Nat)} {i : Nat} {A C : List Nat} (E : UnlEff s s' r i A C) {x : Nat} (h : x ≠ i) : (s'.nd x).lv = (s.nd x).lv ∧ (s'.nd x).sl = (s.nd x).sl := by
  rw [E.nd x]
  simp [h]
theorem UnlEff.far {s s' : Wheel} {r : Option (Nat × Nat)} {i : Nat} {A C : List Nat} (E : UnlEff s s' r i A C) {x : Nat} (h : x ≠ i) (h' : x ∉ A ++ C) : s'.nd x = s.nd x := by
  rw [E.nd x, if_neg h]
  have h1 : ¬ (hdOr C = x) := by
    match C, h' with
    | [], _ => simp only [hdOr]; omega
    | c :: C, h' => intro e; have : c = x := by simp only [hdOr] at e; omega
                    exact h' (by simp [this])
  have h2 : ¬ (laOr A = x) := by
    rcases list_end A with rfl | ⟨A', q, rfl⟩
    · rw [laOr_nil]; omega
    · rw [laOr_snoc]
      intro e
      have : q = x := by omega
      exact h' (by simp [this])
  simp [h1, h2]

theorem unl_inv {s s' : Wheel} {L : Option (Nat × Nat) → List Nat} {fr : List Nat} {f : Int → Option Int} {hand : List Nat} {r : Option (Nat × Nat)} {i : Nat} {A C : List Nat} (I : WInv s L fr f hand) (hr : lOk r) (eL : L r = A ++ i :: C)
    (E : UnlEff s s' r i A C) (ho : s'.occ = unlOcc s r A C) : WInv s' (putL L r (A ++ C)) fr f (i :: hand) := by
  have hx : i ∈ L r := by rw [eL]; simp
  obtain ⟨_, hi, elv, esl⟩ := I.mem r i hx
  have hlv := lvOf_ge r
  have hnod := I.nod r
  rw [eL] at hnod
  obtain ⟨niA, niC, nA, nC, ndA, ndC, hnod'⟩ := nodup_mid hnod
  have hsub : ∀ x, x ∈ A ++ C → x ∈ L r ∧ x ≠ i := fun x hx => by
    rw [eL]
    refine ⟨?_, fun e => ?_⟩
    · simp only [List.mem_append, List.mem_cons] at hx ⊢
      rcases hx with h | h
      · exact .inl h
      · exact .inr (.inr h)
    · rw [e] at hx
      rcases List.mem_append.1 hx with h | h
      · exact niA h
      · exact niC h
  have hfar : ∀ q, q ≠ r → ∀ x ∈ L q, s'.nd x = s.nd x := fun q hq x hx' => E.far (fun e => hq (I.apart (e ▸ hx') hx)) (fun h => hq (I.apart hx' (hsub x h).1))
  have hih : i ∉ hand := fun h => by have := (I.hnd i h).2; omega
  refine ⟨fun q hq => ?_, fun q => ?_, fun q x hx => ?_, fun x hx => ?_, List.nodup_cons.2 ⟨hih, I.hnod⟩, ?_, fun x hx => ?_, I.frn, by rw [E.live]; exact I.live, fun id j hj => ?_, fun x hx => by rw [(E.keep x).1]; exact I.ids x hx, fun x hx => by rw [(E.keep x).2.2.1]; exact I.dls x hx, fun x hx => by rw [(E.keep x).2.1]; exact I.cos x hx, fun k hk => ?_, by rw [E.now]; exact I.now, fun k z x hx d n hd hn => ?_, by rw [E.nid]; exact I.nid⟩
  · by_cases e : q = r
    · subst e
      rw [putL_same]
      have D := I.dll q hq
      rw [eL] at D
      refine dll_delete D (fun x hx => ?_) (fun x hx => ?_) nA nC ndA ndC ?_ ?_
      · show (s'.nd x).pv = _
        rw [E.nd x, if_neg (hsub x hx).2]
      · show (s'.nd x).nx = _
        rw [E.nd x, if_neg (hsub x hx).2]
      · rw [E.lh]; simp
      · rw [E.lt]; simp
    · rw [putL_other _ _ e]
      have h1 : s'.lh q = s.lh q := by rw [E.lh, if_neg (fun h => e h.1)]
      have h2 : s'.lt q = s.lt q := by rw [E.lt, if_neg (fun h => e h.1)]
      rw [h1, h2]
      exact seg_congr _ _ _ _ _ (fun x hx => by rw [hfar q e x hx]; exact ⟨rfl, rfl⟩) (I.dll q hq)
  · by_cases e : q = r
    · subst e; rw [putL_same]; exact hnod'
    · rw [putL_other _ _ e]; exact I.nod q
  · rcases mem_putL hx with ⟨e, hx2⟩ | ⟨e, hx2⟩
    · obtain ⟨h1, h2⟩ := hsub x hx2
      rw [e, (E.lvl h2).1, (E.lvl h2).2]
      exact I.mem r x h1
    · rw [hfar q e x hx2]
      exact I.mem q x hx2
  · rcases List.mem_cons.1 hx with rfl | hx
    · refine ⟨hi, ?_⟩
      rw [E.nd x, if_pos rfl]
    · obtain ⟨a, b⟩ := I.hnd x hx
      have hxi : x ≠ i := fun e => hih (e ▸ hx)
      rw [(E.lvl hxi).1]
      exact ⟨a, b⟩
  · rw [E.free]
    refine NC_congr _ _ (fun x hx => ?_) I.fre
    have hl := I.frl x hx
    have hnx := I.notin (x := x) (by omega) r
    have hxi : x ≠ i := fun e => by rw [e] at hl; omega
    rw [E.far hxi (fun h => hnx (hsub x h).1)]
  · have hl := I.frl x hx
    have hxi : x ≠ i := fun e => by rw [e] at hl; omega
    rw [(E.lvl hxi).1]
    exact hl
  · obtain ⟨x, a, b, c, d⟩ := I.map id j hj
    refine ⟨x, a, b, by rw [(E.keep x).1]; exact c, ?_⟩
    by_cases hxi : x = i
    · exact .inl (by simp [hxi])
    rcases d with d | ⟨q, d⟩
    · exact .inl (by simp [d])
    · refine .inr ⟨q, ?_⟩
      by_cases e : q = r
      · subst e
        rw [putL_same]
        rw [eL] at d
        simp only [List.mem_append, List.mem_cons] at d ⊢
        rcases d with d | d | d
        · exact .inl d
        · exact absurd d hxi
        · exact .inr d
      · rw [putL_other _ _ e]; exact d
  · obtain ⟨m, h1, h2, h3⟩ := I.occ k hk
    rw [ho]
    match r, eL, hr with
    | none, eL, _ =>
      refine ⟨m, h1, h2, fun z hz => ?_⟩
      rw [putL_other _ _ (by simp)]
      exact h3 z hz
    | some (k', z'), eL, hr =>
      simp only [unlOcc]
      by_cases hem : A = [] ∧ C = []
      · rw [if_pos hem]
        by_cases hkk : k = k'
        · subst hkk
          obtain ⟨m', g1, g2, g3⟩ := notOcc_nat h2 hr.2
          refine ⟨m', by simp only [if_true]; rw [h1]; exact g1, g2, fun z hz => ?_⟩
          rw [g3 z hz, h3 z hz]
          by_cases hzz : z = z'
          · subst hzz
            rw [putL_same, hem.1, hem.2]
            simp
          · rw [putL_other _ _ (by simp [hzz])]
            simp [hzz]
        · refine ⟨m, by simp only [if_neg hkk]; exact h1, h2, fun z hz => ?_⟩
          rw [putL_other _ _ (by simp [hkk])]
          exact h3 z hz
      · rw [if_neg hem]
        refine ⟨m, h1, h2, fun z hz => ?_⟩
        rw [h3 z hz]
        by_cases e : (some (k, z) : Option (Nat × Nat)) = some (k', z')
        · rw [e, putL_same, eL]
          simp only [ne_eq, List.append_eq_nil_iff]
          constructor
          · intro _ h; exact hem h
          · intro _ h; simp at h
        · rw [putL_other _ _ e]
  · rw [(E.keep x).2.2.1] at hd
    rw [E.now] at hn
    rcases mem_putL hx with ⟨e, hx⟩ | ⟨e, hx⟩
    · refine I.dig k z x ?_ d n hd hn
      rw [e]
      exact (hsub x hx).1
    · exact I.dig k z x hx d n hd hn

/-- A row in hand, given back. -/
theorem retire_inv {s : Wheel} {L : Option (Nat × Nat) → List Nat} {fr : List Nat} {f : Int → Option Int} {hand : List Nat} {i : Nat} (I : WInv s L fr f (i :: hand)) : WInv (retireF s i) L (i :: fr) (forget f (s.nd i).id) hand := by
  obtain ⟨hi, hlv⟩ := I.hnd i (by simp)
  have hni := I.notin (x := i) (by omega)
  have hne : ∀ {x : Nat}, x ≠ i → (retireF s i).nd x = s.nd x := fun {x} h => by simp [retireF, Wheel.pFree, Wheel.pLive, Wheel.setNd, h]
  have hself : (retireF s i).nd i = freeNode s.free := by simp [retireF, Wheel.pFree, Wheel.pLive, Wheel.setNd]
  have hL : ∀ q x, x ∈ L q → (retireF s i).nd x = s.nd x := fun q x hx => hne (fun e => hni q (e ▸ hx))
  have hfi : i ∉ fr := fun h => by have := I.frl i h; omega
  refine ⟨fun q hq => ?_, I.nod, fun q x hx => by rw [hL q x hx]; exact I.mem q x hx, fun x hx => ?_, (List.nodup_cons.1 I.hnod).2, ?_, fun x hx => ?_, List.nodup_cons.2 ⟨hfi, I.frn⟩, ?_, fun id j hj => ?_, fun x hx => ?_, fun x hx => ?_, fun x hx => ?_, I.occ, I.now, fun k z x hx d n hd hn => ?_, I.nid⟩
  · exact seg_congr _ _ _ _ _ (fun x hx => by rw [hL q x hx]; exact ⟨rfl, rfl⟩) (I.dll q hq)
  · have hxi : x ≠ i := fun e => (List.nodup_cons.1 I.hnod).1 (e ▸ hx)
    rw [hne hxi]
    exact I.hnd x (by simp [hx])
  · refine ⟨rfl, hi, ?_⟩
    rw [hself]
    refine NC_congr _ _ (fun x hx => ?_) I.fre
    rw [hne (fun e => hfi (e ▸ hx))]
  · rcases List.mem_cons.1 hx with rfl | hx
    · rw [hself]; rfl
    · rw [hne (fun e => hfi (e ▸ hx))]
      exact I.frl x hx
  · show s.live - 1 = _
    rw [I.live, List.length_cons]
    omega
  · have hid : id ≠ (s.nd i).id := fun e => by simp [forget, e] at hj
    simp only [forget, if_neg hid] at hj
    obtain ⟨x, a, b, c, d⟩ := I.map id j hj
    have hxi : x ≠ i := fun e => hid (by rw [← c, e])
    refine ⟨x, a, b, by rw [hne hxi]; exact c, ?_⟩
    rcases d with d | d
    · rcases List.mem_cons.1 d with e | d
      · exact absurd e hxi
      · exact .inl d
    · exact .inr d
  · by_cases e : x = i
    · rw [e, hself]; exact ⟨by simp [freeNode], by simp [freeNode]⟩
    · rw [hne e]; exact I.ids x hx
  · by_cases e : x = i
    · rw [e, hself]; exact ⟨0, rfl, by omega⟩
    · rw [hne e]; exact I.dls x hx
  · by_cases e : x = i
    · rw [e, hself]; exact ⟨by simp [freeNode], by simp [freeNode]⟩
    · rw [hne e]; exact I.cos x hx
  · rw [hL _ x hx] at hd
    exact I.dig k z x hx d n hd hn

/-- A row in hand, its links or its deadline turned. -/
theorem hand_inv {s : Wheel} {L : Option (Nat × Nat) → List Nat} {fr : List Nat} {f : Int → Option Int} {hand : List Nat} {i : Nat} (I : WInv s L fr f (i :: hand)) (n : NodeS) (h1 : n.id = (s.nd i).id) (h2 : n.core = (s.nd i).core) (h3 : n.lv = (s.nd i).lv) (h4 : ∃ d : Nat, n.dl = d ∧ d < 18446744073709551616) : WInv (s.setNd i n) L fr f (i :: hand) := by
  obtain ⟨hi, hlv⟩ := I.hnd i (by simp)
  have hni := I.notin (x := i) (by omega)
  have hne : ∀ {x : Nat}, x ≠ i → (s.setNd i n).nd x = s.nd x := fun {x} h => by simp [Wheel.setNd, h]
  have hself : (s.setNd i n).nd i = n := by simp [Wheel.setNd]
  have hL : ∀ q x, x ∈ L q → (s.setNd i n).nd x = s.nd x := fun q x hx => hne (fun e => hni q (e ▸ hx))
  have hfi : i ∉ fr := fun h => by have := I.frl i h; omega
  refine ⟨fun q hq => ?_, I.nod, fun q x hx => by rw [hL q x hx]; exact I.mem q x hx, fun x hx => ?_, I.hnod, ?_, fun x hx => ?_, I.frn, I.live, fun id j hj => ?_, fun x hx => ?_, fun x hx => ?_, fun x hx => ?_, I.occ, I.now, fun k z x hx d n hd hn => ?_, I.nid⟩
  · exact seg_congr _ _ _ _ _ (fun x hx => by rw [hL q x hx]; exact ⟨rfl, rfl⟩) (I.dll q hq)
  · by_cases e : x = i
    · rw [e, hself, h3]; exact ⟨hi, hlv⟩
    · rw [hne e]; exact I.hnd x hx
  · exact NC_congr _ _ (fun x hx => by rw [hne (fun e => hfi (e ▸ hx))]) I.fre
  · rw [hne (fun e => hfi (e ▸ hx))]
    exact I.frl x hx
  · obtain ⟨x, a, b, c, d⟩ := I.map id j hj
    refine ⟨x, a, b, ?_, d⟩
    by_cases e : x = i
    · subst e; rw [hself, h1]; exact c
    · rw [hne e]; exact c
  · by_cases e : x = i
    · rw [e, hself, h1]; exact I.ids i hi
    · rw [hne e]; exact I.ids x hx
  · by_cases e : x = i
    · rw [e, hself]; exact h4
    · rw [hne e]; exact I.dls x hx
  · by_cases e : x = i
    · rw [e, hself, h2]; exact I.cos i hi
    · rw [hne e]; exact I.cos x hx
  · rw [hL _ x hx] at hd
    exact I.dig k z x hx d n hd hn
theorem WInv.room {s : Wheel} {L : Option (Nat × Nat) → List Nat} {fr : List Nat} {f : Int → Option Int} {hand : List Nat} {i : Nat} (I : WInv s L fr f (i :: hand)) : 0 < s.live ∧ s.live < 1000 := by
  obtain ⟨hi, hlv⟩ := I.hnd i (by simp)
  have hfi : i ∉ fr := fun h => by have := I.frl i h; omega
  have h := nodup_le 64 (i :: fr) (List.nodup_cons.2 ⟨hfi, I.frn⟩) (fun x hx => by
    rcases List.mem_cons.1 hx with rfl | hx
    · exact hi
    · exact NC_lt _ _ I.fre x hx)
  rw [List.length_cons] at h
  rw [I.live]
  omega

set_option maxHeartbeats 1000000 in
theorem place_any {w : World} {B n m d : Nat} {s : Wheel} {L : Option (Nat × Nat) → List Nat} {fr : List Nat} {f : Int → Option Int} {hand : List Nat} {i : Nat} (T : TimersAt w B n s f) (I : WInv s L fr f (i :: hand)) (em : s.now = m) (ed : (s.nd i).dl = d) :
    Calls Tryz.prog 183 #[.pointer (some ⟨B, 1, none⟩), .int .i16 (i : Int)] w fun e w' => e = .returned (.tuple #[]) ∧ (∃ s' A C, lOk (placeOf m d) ∧ L (placeOf m d) = A ++ C ∧ InsEff s s' (placeOf m d) i A C (lvOf (placeOf m d)) (slOf (placeOf m d)) ∧ (∀ y ∈ C, bef s i y = true) ∧ (∀ x A', A = A' ++ [x] → bef s i x = false) ∧ WInv s' (putL L (placeOf m d) (A ++ i :: C)) fr f hand ∧ TimersAt w' B n s' f) ∧ Mut B 1 1939 w w' := by
  obtain ⟨hi, hlv⟩ := I.hnd i (by simp)
  obtain ⟨m', em', hm'⟩ := I.now
  obtain ⟨d', ed', hd'⟩ := I.dls i hi
  have hmm : m' = m := by omega
  have hdd : d' = d := by omega
  subst hmm hdd
  have hni := I.notin (x := i) (by omega)
  have fin : ∀ (r : Option (Nat × Nat)) (ys xs : List Nat), lOk r → (L r).reverse = ys ++ xs → (∀ y ∈ ys, bef s i y = true) → (∀ x, xs.head? = some x → bef s i x = false) →
      ∃ A C, L r = A ++ C ∧ xs = A.reverse ∧ (∀ y ∈ C, bef s i y = true) ∧ (∀ x A', A = A' ++ [x] → bef s i x = false) ∧ InsEff s (insF ((s.nLv i (lvOf r)).nSl i (slOf r)) r i xs) r i A C (lvOf r) (slOf r) ∧ (insF ((s.nLv i (lvOf r)).nSl i (slOf r)) r i xs).occ = s.occ := fun r ys xs hr e h1 h2 => by
    have e2 : L r = xs.reverse ++ ys.reverse := by
      have := congrArg List.reverse e
      simpa using this
    have D := I.dll r hr
    have hnod := I.nod r
    rw [e2] at D hnod
    have hn2 : i ∉ xs.reverse ++ ys.reverse := by rw [← e2]; exact hni r
    obtain ⟨_, _, nA, _⟩ := nodup_mid (nodup_put hnod hn2)
    refine ⟨xs.reverse, ys.reverse, e2, by simp, fun y hy => h1 y (by simpa using hy), fun x A' hA => h2 x ?_, ins_eff D hn2 nA (by simp)⟩
    have := congrArg List.reverse hA
    simp at this
    rw [this]; rfl
  by_cases hc : d' ≤ m'
  · have ep : placeOf m' d' = none := by rw [placeOf, if_pos hc]
    rw [ep]
    refine (place_due T.wh hi em ed hc (I.insPre (by omega) trivial)).mono ?_
    rintro e w1 ⟨rfl, ⟨ys, xs, e1, h1, h2, H1⟩, M1⟩
    obtain ⟨A, C, eA, _, q1, q2, E, Eo⟩ := fin none ys xs trivial e1 h1 h2
    refine ⟨rfl, ⟨_, A, C, trivial, eA, E, q1, q2, ins_inv I trivial eA E (fun k hk => ?_) (fun k z e => by simp at e), ⟨H1, ?_, ?_⟩⟩, M1⟩
    · obtain ⟨o, o1, o2, o3⟩ := I.occ k hk
      refine ⟨o, by rw [Eo]; exact o1, o2, fun z hz => ?_⟩
      rw [putL_other _ _ (by simp)]
      exact o3 z hz
    · have := T.mp.mut M1 T.ne
      rw [← E.mb] at this
      exact this
    · rw [E.mb]; exact T.ne
  · generalize hk : lvlOf m' d' = k
    generalize hz : d' / 64 ^ k % 64 = z
    have ep : placeOf m' d' = some (k, z) := by rw [placeOf, if_neg hc, hk, hz]
    have hr : lOk (some (k, z)) := ⟨by rw [← hk]; exact lvlOf_lt _ _, by rw [← hz]; exact Nat.mod_lt _ (by omega)⟩
    rw [ep]
    refine (place_ahead T.wh hi em ed (by omega) hd' hk hz (I.insPre (by omega) hr)).mono ?_
    rintro e w1 ⟨rfl, ⟨ys, xs, e1, h1, h2, H1⟩, M1⟩
    obtain ⟨A, C, eA, _, q1, q2, E0, Eo⟩ := fin (some (k, z)) ys xs hr e1 h1 h2
    have E : InsEff s ((insF ((s.nLv i k).nSl i z) (some (k, z)) i xs).setOcc k (orOcc (s.occ k) z)) (some (k, z)) i A C (lvOf (some (k, z))) (slOf (some (k, z))) := ⟨E0.nd, E0.lh, E0.lt, E0.now, E0.free, E0.live, E0.nid, E0.mb⟩
    refine ⟨rfl, ⟨_, A, C, hr, eA, E, q1, q2, ins_inv I hr eA E (fun k' hk' => ?_) (fun k' z' e d n hd hn => ?_), ⟨H1, ?_, ?_⟩⟩, M1⟩
    · obtain ⟨o, o1, o2, o3⟩ := I.occ k' hk'
      by_cases ek : k' = k
      · subst ek
        obtain ⟨o', g1, g2, g3⟩ := orOcc_nat o2 hr.2
        refine ⟨o', by simp only [Wheel.setOcc, if_true]; rw [o1]; exact g1, g2, fun z' hz' => ?_⟩
        rw [g3 z' hz', o3 z' hz']
        by_cases ez : z' = z
        · subst ez
          rw [putL_same]
          simp
        · rw [putL_other _ _ (by simp [ez])]
          simp [ez]
      · refine ⟨o, ?_, o2, fun z' hz' => ?_⟩
        · show (if k' = k then _ else (insF ((s.nLv i k).nSl i z) (some (k, z)) i xs).occ k') = _
          rw [if_neg ek]
          have Eo' : (insF ((s.nLv i k).nSl i z) (some (k, z)) i xs).occ = s.occ := Eo
          rw [Eo']
          exact o1
        · rw [putL_other _ _ (by simp [ek])]
          exact o3 z' hz'
    · simp only [Option.some.injEq, Prod.mk.injEq] at e
      obtain ⟨rfl, rfl⟩ := e
      have e1 : d = d' := by omega
      have e2 : n = m' := by omega
      subst e1 e2
      exact lvl_digit hm' hd' hk hz
    · have := T.mp.mut M1 T.ne
      rw [← E.mb] at this
      exact this
    · rw [E.mb]; exact T.ne

end Go.Proofs.Qxb6500877aGreatDoor
