import Derived.Test.Qxb6500872aDoorWh
set_option linter.unusedVariables false
namespace Go.Proofs.Qxb6500872aDoor
open Go.RowKit

/-- What DivMod hands back: an error, or a quotient and a remainder that is less than the divisor. -/
def DivRet (w' : World) (n : Nat) (nx ny : Nat) (ys : List Int) (E : Value) (e : Ending) : Prop :=
  ∃ p k qs p' k' rs F, e = .returned (.tuple #[.slice p k k, .slice p' k' k', F]) ∧ Limbs w' p k k qs ∧ Limbs w' p' k' k' rs ∧ k ≤ nx ∧ k' ≤ ny ∧ nl rs k' = k' ∧
    ((ny = 0 ∧ F = E) ∨ (0 < ny ∧ F = .nilIface ∧ pv rs k' < pv ys n))

theorem nl_normed {zs : List Int} {n : Nat} (h : zs.length = n) (h0 : 0 < nl zs n) : (norm zs)[nl zs n - 1]?.getD 0 ≠ 0 := by
  subst h
  unfold norm
  rw [getD_take _ _ _ (by omega)]
  obtain ⟨m, hm⟩ : ∃ m, nl zs zs.length = m + 1 := ⟨nl zs zs.length - 1, by omega⟩
  rw [hm]
  exact nl_last hm

theorem pv_normed {zs : List Int} {n : Nat} (h : zs.length = n) : pv (norm zs) (norm zs).length = pv zs n := by
  rw [norm_length, h, pv_norm h]

theorem nl_le_of_lt {xs ys : List Int} (hx : Rng xs) (hy : Rng ys) {n m : Nat} (h : pv xs n < pv ys m) : nl xs n ≤ nl ys m := by
  by_cases hc : nl xs n ≤ nl ys m
  · exact hc
  · have := nl_val_lt hy hx (n := m) (m := n) (by omega)
    omega

set_option maxHeartbeats 1000000 in
theorem divmod_any {a a' : Option Addr} {n c n' c' : Nat} {xs ys : List Int} {w : World} {E : Value} (h : Limbs w a n c xs) (h' : Limbs w a' n' c' ys) (hn : n ≤ 200000) (hE : w.cell? ⟨0, 0, none⟩ = some E) :
    Calls Tryd.prog 36 #[.slice a n c, .slice a' n' c'] w fun e w' => DivRet w' n' (nl xs n) (nl ys n') ys E e ∧ Below w.heap.size w w' := by
  have hb := h.big
  have hc := h.cap
  have hb' := h'.big
  have hc' := h'.cap
  have hnl := nl_le xs n
  have hnl' := nl_le ys n'
  have hU := h.norm
  have hV := h'.norm
  have HX : Hid (xs.length = n) := h.len
  have HY : Hid (ys.length = n') := h'.len
  by_cases hy0 : nl ys n' = 0
  · have HY0 : Hid (nl ys n' = 0) := hy0
    have hd : (((nl ys n' : Nat) : Int) == 0) = true := by simp [hy0]
    clear hy0
    go_enter Tryd.func36, Tryd.ntmps36
    go_wp2_with (first | (go_at_call_of 32 (Value.slice a n c); refine (norm_any h).mono ?_; rintro e w ⟨rfl, rfl⟩) | (go_at_call_of 32 (Value.slice a' n' c'); refine (norm_any h').mono ?_; rintro e w ⟨rfl, rfl⟩))
    go_quiet (fail)
    go_wp2
    go_ret3
    exact ⟨⟨_, _, _, _, _, _, _, rfl, Limbs.nil _, Limbs.nil _, Nat.zero_le _, Nat.zero_le _, rfl, .inl ⟨HY0.out, rfl⟩⟩, below_drewN (Below.refl _ _) _⟩
  · have hd : (((nl ys n' : Nat) : Int) == 0) = false := by simp [hy0]
    have hcm : ncmp (norm xs) (norm ys) < 0 ↔ pv xs n < pv ys n' := by
      have := ncmp_lt_iff hU.rng hV.rng
      rwa [pv_normed HX.out, pv_normed HY.out] at this
    by_cases hlt : pv xs n < pv ys n'
    · have hneg := hcm.2 hlt
      have hle := nl_le_of_lt h.rng h'.rng hlt
      have HLT : Hid (pv xs n < pv ys n') := hlt
      clear hlt hcm
      go_enter Tryd.func36, Tryd.ntmps36
      go_wp2_with (first | (go_at_call_of 32 (Value.slice a n c); refine (norm_any h).mono ?_; rintro e w ⟨rfl, rfl⟩) | (go_at_call_of 32 (Value.slice a' n' c'); refine (norm_any h').mono ?_; rintro e w ⟨rfl, rfl⟩) | (go_at_call 39; refine (cmp_any hU hV).mono ?_; rintro e w3 ⟨rfl, k3, rfl⟩))
      go_ret3
      exact ⟨⟨_, _, _, _, _, _, _, rfl, Limbs.nil _, hU.drewN _, Nat.zero_le _, hle, nl_norm HX.out, .inr ⟨by omega, rfl, by rw [pv_norm HX.out]; exact HLT.out⟩⟩, below_drewN (Below.refl _ _) _⟩
    · have hneg : ¬ ncmp (norm xs) (norm ys) < 0 := fun e => hlt (hcm.1 e)
      have hge : nl ys n' ≤ nl xs n := by
        by_cases hc : nl ys n' ≤ nl xs n
        · exact hc
        · exact absurd (nl_val_lt h.rng h'.rng (by omega)) hlt
      have htop := nl_normed HY.out (by omega)
      clear hlt hcm
      by_cases h1 : nl ys n' = 1
      · have HY1 : Hid (nl ys n' = 1) := h1
        have hd1 : (((nl ys n' : Nat) : Int) == 1) = true := by simp [h1]
        have hmk := make_nat0 (nl xs n) (by omega)
        clear h1
        obtain ⟨b2, o2, rfl, hc2⟩ := hV.at (k := 0) (by omega)
        obtain ⟨b1, o1, rfl, hc1⟩ := hU.at (k := 0) (by omega)
        have hy := hc2 0 (by omega)
        have hx1 := hc1 0 (by omega)
        have ry := hV.rng 0
        have hb1 : b1 < w.heap.size := World.block_lt_of_cell? _ _ hx1
        rw [Nat.add_zero] at hy
        have hy' : ∀ m o, ((w.drewN m).alloc o).cell? ⟨b2, o2, none⟩ = some (.int .u32 ((norm ys)[0]?.getD 0)) := fun m o => cell_later (one_alloc (w.drewN m) o) hy
        have hp : (0 : Int) < (norm ys)[0]?.getD 0 := by rw [HY1.out] at htop; simp at htop; omega
        have h0l : (0 : Int) < ((nl ys n' : Nat) : Int) := by omega
        clear hc1 hc2 hx1
        go_enter Tryd.func36, Tryd.ntmps36
        go_wp2_with (first | (go_at_call_of 32 (Value.slice (some ⟨b1, o1, none⟩) n c); refine (norm_any h).mono ?_; rintro e w ⟨rfl, rfl⟩) | (go_at_call_of 32 (Value.slice (some ⟨b2, o2, none⟩) n' c'); refine (norm_any h').mono ?_; rintro e w ⟨rfl, rfl⟩) | (go_at_call 39; refine (cmp_any hU hV).mono ?_; rintro e w3 ⟨rfl, k3, rfl⟩))
        have hM := made_limbs (w.drewN k3) (nl xs n) (by omega)
        have hU3 := (hU.drewN k3).below (one_alloc (w.drewN k3) (.cells (madeCells #[.int .u32 0] (nl xs n)) 61))
        refine (divSmall_any hM hU3 (.inr (by simp; omega)) (fun o => made_free _ _ _) hp ry.2).mono ?_
        rintro e w4 ⟨⟨us, R, rfl, hQ, hdiv, hR0, hR1⟩, hW4⟩
        have hl4 := hQ.len
        have HL4 : Hid (us.length = nl xs n) := hl4
        clear hdiv hl4
        have hB4 : Below w.heap.size w w4 := ((below_drewN (Below.refl _ _) _).alloc (Nat.le_refl _) _).trans (hW4.below (Nat.le_refl _))
        have hL := lit1_limbs w4 R ⟨hR0, by omega⟩
        go_wp2_with (first
          | (go_at_call_of 32 (Value.int IntKind.u32 R); fail)
          | (go_at_call_of 32 (nl xs n); refine (norm_any hQ).mono ?_; rintro e w4 ⟨rfl, rfl⟩)
          | (go_at_call 32; refine (norm_any hL).mono ?_; rintro e w6 ⟨rfl, hw6⟩; subst hw6))
        go_ret3
        have l1 := nl_le us (nl xs n)
        have l2 := nl_le [R] 1
        refine ⟨⟨_, _, _, _, _, _, _, rfl, hQ.norm.below (one_alloc _ _), hL.norm, l1, by rw [HY1.out]; exact l2, nl_norm hL.len, .inr ⟨by omega, rfl, ?_⟩⟩, hB4.alloc (by have := hB4.size; omega) _⟩
        rw [pv_norm hL.len, ← pv_norm HY.out, HY1.out]
        simp only [pv, Bp]
        simpa using hR1
      · have hd1 : (((nl ys n' : Nat) : Int) == 1) = false := by simp; omega
        go_enter Tryd.func36, Tryd.ntmps36
        go_wp2_with (first | (go_at_call_of 32 (Value.slice a n c); refine (norm_any h).mono ?_; rintro e w ⟨rfl, rfl⟩) | (go_at_call_of 32 (Value.slice a' n' c'); refine (norm_any h').mono ?_; rintro e w ⟨rfl, rfl⟩) | (go_at_call 39; refine (cmp_any hU hV).mono ?_; rintro e w3 ⟨rfl, k3, rfl⟩))
        refine (knuth_any (hU.drewN k3) (hV.drewN k3) (by omega) hge (by omega) htop).mono ?_
        rintro e w4 ⟨⟨p, k, qs, p', k', rs, rfl, hQ, hR, hk, hk', hlt4, hnz⟩, hb4⟩
        have HLT : Hid (pv rs k' < pv (norm ys) (nl ys n')) := hlt4
        have HNZ : Hid (nl rs k' = k') := hnz
        clear hlt4 hnz
        go_wp2
        go_ret3
        exact ⟨⟨_, _, _, _, _, _, _, rfl, hQ, hR, hk, hk', HNZ.out, .inr ⟨by omega, rfl, by rw [← pv_norm HY.out]; exact HLT.out⟩⟩, (below_drewN (Below.refl _ _) _).trans hb4⟩
def NatRet (K : Nat) (e : Ending) (w' : World) : Prop := ∃ p k zs, e = .returned (.slice p k k) ∧ Limbs w' p k k zs ∧ k ≤ K

/-- The numbers at a round's head of Euclid's algorithm. -/
def EInv (w : World) (K : Nat) (g : Nat) (v0 v1 : Value) (wr : World) : Prop :=
  ∃ p k us q l vs, v0 = .slice p k k ∧ v1 = .slice q l l ∧ Limbs wr p k k us ∧ Limbs wr q l l vs ∧ k ≤ K ∧ l ≤ K ∧ nl vs l = l ∧ g = (pv vs l).toNat ∧ Below w.heap.size w wr

theorem nl_full {zs : List Int} {k : Nat} (h : nl zs k = k) (hk : 0 < k) : zs[k - 1]?.getD 0 ≠ 0 := by
  obtain ⟨m, rfl⟩ : ∃ m, k = m + 1 := ⟨k - 1, by omega⟩
  exact nl_last h

set_option maxHeartbeats 1000000 in
theorem gcd_any {a a' : Option Addr} {n c n' c' : Nat} {xs ys : List Int} {w : World} {E : Value} (h : Limbs w a n c xs) (h' : Limbs w a' n' c' ys) (hn : n ≤ 100000) (hn' : n' ≤ 100000) (hE : w.cell? ⟨0, 0, none⟩ = some E) :
    Calls Tryd.prog 38 #[.slice a n c, .slice a' n' c'] w fun e w' => NatRet (max (max n n') 2) e w' ∧ Below w.heap.size w w' := by
  have hnl := nl_le xs n
  have hnl' := nl_le ys n'
  have hU := h.norm
  have hV := h'.norm
  have HX : Hid (xs.length = n) := h.len
  have HY : Hid (ys.length = n') := h'.len
  go_enter Tryd.func38, Tryd.ntmps38
  go_wp2_with (first | (go_at_call_of 32 (Value.slice a n c); refine (norm_any h).mono ?_; rintro e w ⟨rfl, rfl⟩) | (go_at_call_of 32 (Value.slice a' n' c'); refine (norm_any h').mono ?_; rintro e w ⟨rfl, rfl⟩))
  go_loopg [0, 1] ((pv (norm ys) (nl ys n')).toNat) (fun g v0 v1 wr => EInv w (max n n') g v0 v1 wr)
  case atStart => exact ⟨_, _, _, _, _, _, rfl, rfl, hU, hV, by omega, by omega, nl_norm HY.out, rfl, Below.refl _ _⟩
  case round =>
    obtain ⟨p, k, us, q, l, vs, rfl, rfl, hP, hQ, hk, hl, hnz, rfl, hB⟩ := hrel
    have HNZ : Hid (nl vs l = l) := hnz
    have hE1 : wr.cell? ⟨0, 0, none⟩ = some E := cell_later hB hE
    clear hnz hU hV h h'
    by_cases hl2 : 2 < l
    · go_wp2_with (go_at_call 36; refine (divmod_any hP hQ (by omega) hE1).mono ?_; rintro e w4 ⟨⟨p1, k1, qs1, p2, k2, rs, F, rfl, hQ1, hR1, hk1, hk2, hnz2, hor⟩, hb4⟩)
      have hnp := nl_le us k
      go_roundg (pv rs k2).toNat
      case measure =>
        rcases hor with ⟨h0, _⟩ | ⟨_, _, hlt⟩
        · rw [HNZ.out] at h0; omega
        · have := (pv_bound hR1.rng k2).1
          omega
      case rel => exact ⟨_, _, _, _, _, _, rfl, rfl, hQ.below hb4, hR1, by omega, by rw [HNZ.out] at hk2; omega, hnz2, rfl, chain hB hb4⟩
    · by_cases hl0 : l = 0
      · have HL0 : Hid (l = 0) := hl0
        have hd : ((l : Int) == 0) = true := by simp [hl0]
        clear hl0
        go_wp2
        go_ret
        exact ⟨⟨_, _, _, rfl, hP, by omega⟩, hB⟩
      · have hd : ((l : Int) == 0) = false := by simp [hl0]
        go_wp2_with fail
        refine (divmod_any hP hQ (by omega) hE1).mono ?_
        rintro e w4 ⟨⟨p1, k1, qs1, p2, k2, rs, F, rfl, hQ1, hR1, hk1, hk2, hnz2, hor⟩, hb4⟩
        have hB4 := chain hB hb4
        clear hor hnz2
        have hQ4 := hQ.below hb4
        go_wp2_with fail
        refine (toU64_any hQ4).mono ?_
        rintro e w4 ⟨⟨A, ok, rfl, hA0, hA1⟩, rfl⟩
        go_wp2_with fail
        refine (toU64_any hR1).mono ?_
        rintro e w4 ⟨⟨B, ok2, rfl, hB0, hB1⟩, rfl⟩
        go_wp2
        go_loopw [11, 13] (fun va vb wq => ∃ A B : Int, va = .int .u64 A ∧ vb = .int .u64 B ∧ 0 ≤ A ∧ A < 18446744073709551616 ∧ 0 ≤ B ∧ B < 18446744073709551616 ∧ ∃ m, wq = w4.drewN m) (fun _ vb _ => (intOf vb).toNat)
        case atStart => exact ⟨A, B, rfl, rfl, hA0, hA1, hB0, hB1, 0, rfl⟩
        case round =>
          obtain ⟨A, B, rfl, rfl, hA0, hA1, hB0, hB1, m, rfl⟩ := hrel
          by_cases hz : B = 0
          · have hzb : (B != 0) = false := by simp [hz]
            clear hz
            go_wp2_with fail
            refine (fromU64_any A hA0 hA1 _).mono ?_
            rintro e w5 ⟨⟨p5, k5, zs5, rfl, hZ5, hk5, hnz5⟩, hb5⟩
            have HNZ5 : Hid (nl zs5 k5 = k5) := hnz5
            clear hnz5
            go_wp2
            go_ret
            exact ⟨⟨_, _, _, rfl, hZ5, by omega⟩, chain (below_drewN hB4 m) hb5⟩
          · have hzb : (B != 0) = true := by simp [hz]
            have r0 := Int.emod_nonneg A hz
            have r1 := Int.emod_lt_of_pos A (show 0 < B by omega)
            go_wp2
            go_quiet (fail)
            go_wp2
            go_roundw
            case rel => exact ⟨_, _, rfl, rfl, hB0, hB1, r0, by omega, _, World.drewN_drewN _ _ _⟩
            case measure => simp [intOf]; omega
end Go.Proofs.Qxb6500872aDoor
