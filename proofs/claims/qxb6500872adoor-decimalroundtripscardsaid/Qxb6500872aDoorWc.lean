import Derived.Test.Qxb6500872aDoorWb
namespace Go.Proofs.Qxb6500872aDoor
open Go.RowKit

theorem Tryd.info61 : (Tryd.prog.info? 61).map (fun i => (i.zero, i.size, i.bytes)) = some (some (.int .u32 0), 1, 4) := by kernel_rfl

/-- make(Nat, l) -/
theorem make_nat (W : World) (l : Int) (h0 : 0 ≤ l) (h1 : l ≤ 1000000) : (Instr.makeSlice 26 (.int .i64 l) (.int .i64 l)).run Tryd.prog W
    = .ok (.slice (some ⟨W.heap.size, 0, none⟩) l.toNat l.toNat) (W.alloc (.cells (madeCells #[.int .u32 0] l.toNat) 61)) := by
  obtain ⟨i, hi, hz0, hz1, hz2⟩ := info_parts Tryd.info61
  have := run_make (P := Tryd.prog) W 26 61 i (.int .u32 0) Tryd.underlying26 hi hz0 .i64 .i64 l l h0 (Int.le_refl _) (by rw [hz2]; omega) (by omega)
  rw [hz1, Nat.mul_one] at this
  exact this

theorem zeros_getD (m j : Nat) : (List.replicate m (0 : Int))[j]?.getD 0 = 0 := by
  rw [List.getElem?_replicate]; split <;> rfl

theorem made_limbs (W : World) (m : Nat) (hm : m ≤ 1000000) : Limbs (W.alloc (.cells (madeCells #[.int .u32 0] m) 61)) (some ⟨W.heap.size, 0, none⟩) m m (List.replicate m 0) := by
  refine ⟨by simp, Nat.le_refl _, hm, fun j => by rw [zeros_getD]; omega, .inr ⟨_, _, rfl, fun j hj => ?_⟩⟩
  rw [zeros_getD]
  simp [madeCells, hj, Nat.mod_one]

theorem made_free (W : World) (m j : Nat) : (W.alloc (.cells (madeCells #[.int .u32 0] m) 61)).frozen? ⟨W.heap.size, j, none⟩ = false := by simp

/-- One limb stored. -/
theorem Limbs.set {w : World} {b off n c : Nat} {zs : List Int} (h : Limbs w (some ⟨b, off, none⟩) n c zs) {k : Nat} (hk : k < n) {v : Int} (h0 : 0 ≤ v) (h1 : v < 4294967296) :
    Limbs (w.setCell ⟨b, off + k, none⟩ (.int .u32 v)) (some ⟨b, off, none⟩) n c (zs.set k v) := by
  obtain ⟨b', off', he, hcell⟩ := h.at hk
  cases he
  have hg : ∀ j, (zs.set k v)[j]?.getD 0 = if j = k then v else zs[j]?.getD 0 := by
    intro j
    rw [List.getElem?_set]
    have := h.len
    by_cases hj : k = j
    · subst hj; simp [show k < zs.length by omega]
    · simp [hj, Ne.symm hj]
  refine ⟨by rw [List.length_set]; exact h.len, h.cap, h.big, fun j => ?_, .inr ⟨_, _, rfl, fun j hj => ?_⟩⟩
  · rw [hg]; split
    · exact ⟨h0, h1⟩
    · exact h.rng j
  · rw [hg]
    by_cases hjk : j = k
    · subst hjk
      rw [if_pos rfl]
      exact World.cell?_setCell_same _ _ _ (hcell j hj)
    · rw [if_neg hjk, World.cell?_setCell_other _ _ _ _ (by intro e; injection e with _ e2 _; omega)]
      exact hcell j hj

theorem Limbs.set0 {w : World} {b n c : Nat} {zs : List Int} (h : Limbs w (some ⟨b, 0, none⟩) n c zs) {k : Nat} (hk : k < n) {v : Int} (h0 : 0 ≤ v ∧ v < 4294967296) :
    Limbs (w.setCell ⟨b, k, none⟩ (.int .u32 v)) (some ⟨b, 0, none⟩) n c (zs.set k v) := by
  have := h.set hk h0.1 h0.2
  rwa [Nat.zero_add] at this

theorem nl_take (zs : List Int) (m : Nat) : ∀ k, k ≤ m → nl (zs.take m) k = nl zs k
  | 0, _ => rfl
  | k + 1, h => by simp only [nl]; rw [getD_take _ _ _ (by omega), nl_take zs m k (by omega)]
theorem nl_idem (zs : List Int) : ∀ k, nl zs (nl zs k) = nl zs k
  | 0 => rfl
  | k + 1 => by
    by_cases h : zs[k]?.getD 0 = 0
    · rw [nl_zero h]; exact nl_idem zs k
    · rw [nl_pos h, nl_pos h]
theorem nl_norm {zs : List Int} {n : Nat} (h : zs.length = n) : nl (norm zs) (nl zs n) = nl zs n := by
  subst h
  unfold norm
  rw [nl_take _ _ _ (Nat.le_refl _), nl_idem]

theorem u32_range (n : Int) : 0 ≤ n % 4294967296 ∧ n % 4294967296 < 4294967296 := by omega

theorem make_nat1 (m : Nat) (h1 : m ≤ 999999) (W : World) : (Instr.makeSlice 26 (.int .i64 ((m : Int) + 1)) (.int .i64 ((m : Int) + 1))).run Tryd.prog W
    = .ok (.slice (some ⟨W.heap.size, 0, none⟩) (m + 1) (m + 1)) (W.alloc (.cells (madeCells #[.int .u32 0] (m + 1)) 61)) := by
  have := make_nat W ((m : Int) + 1) (by omega) (by omega)
  rwa [show ((m : Int) + 1).toNat = m + 1 by omega] at this

set_option maxHeartbeats 400000 in
theorem add_any {a a' : Option Addr} {n c n' c' : Nat} {xs ys : List Int} {w : World} (h : Limbs w a n c xs) (h' : Limbs w a' n' c' ys) (hn : n ≤ 200000) (hn' : n' ≤ 200000) :
    Calls Tryd.prog 33 #[.slice a n c, .slice a' n' c'] w fun e w' => (∃ b m zs, e = .returned (.slice (some ⟨b, 0, none⟩) m m) ∧ Limbs w' (some ⟨b, 0, none⟩) m m zs ∧ m ≤ max (nl xs n) (nl ys n') + 1 ∧ nl zs m = m) ∧ Below w.heap.size w w' := by
  have hb := h.big
  have hc := h.cap
  have hb' := h'.big
  have hc' := h'.cap
  have hnl := nl_le xs n
  have hnl' := nl_le ys n'
  have hN := h.norm
  have hN' := h'.norm
  go_enter Tryd.func33, Tryd.ntmps33
  go_upto_if 17 with (first | (go_at_call_of 32 (Value.slice a n c); refine (norm_any h).mono ?_; rintro e w ⟨rfl, rfl⟩) | (go_at_call_of 32 (Value.slice a' n' c'); refine (norm_any h').mono ?_; rintro e w ⟨rfl, rfl⟩))
  go_cut [0, 1] (fun s0 s1 wc => wc = w ∧ ∃ p q k l us vs, s0 = .slice p k k ∧ s1 = .slice q l l ∧ Limbs w p k k us ∧ Limbs w q l l vs ∧ l ≤ k ∧ k ≤ max (nl xs n) (nl ys n'))
  case first =>
    go_wp2
    · go_meet
      case rel => exact ⟨rfl, _, _, _, _, _, _, rfl, rfl, hN', hN, by omega, by omega⟩
    · go_meet
      case rel => exact ⟨rfl, _, _, _, _, _, _, rfl, rfl, hN, hN', by omega, by omega⟩
  case rest =>
    obtain ⟨rfl, p, q, k, l, us, vs, rfl, rfl, hU, hV, hlk, hkm⟩ := hcut
    have hk9 : k ≤ 200000 := by omega
    have hmk := make_nat1 k (by omega)
    have hfin : k + 1 ≤ max (nl xs n) (nl ys n') + 1 := by omega
    clear hN hN' h h' hkm
    go_wp2
    go_loopw [6, 26] (fun cy i wr => ∃ (j : Nat) (C : Int) (zs : List Int), j ≤ k ∧ i = .int .i64 j ∧ cy = .int .u64 C ∧ 0 ≤ C ∧ C ≤ 2 ∧ Limbs wr (some ⟨wc.heap.size, 0, none⟩) (k + 1) (k + 1) zs ∧ (∀ o, wr.frozen? ⟨wc.heap.size, o, none⟩ = false) ∧ Below wc.heap.size wc wr) (fun _ i _ => k - (intOf i).toNat)
    case atStart => exact ⟨0, 0, _, Nat.zero_le _, rfl, rfl, by omega, by omega, made_limbs _ _ (by omega), fun o => made_free _ _ _, (Below.refl _ _).alloc (Nat.le_refl _) _⟩
    case round =>
      obtain ⟨j, C, zs, hj, rfl, rfl, hC0, hC2, hZ, hfz, hB⟩ := hrel
      by_cases hlt : j < k
      · obtain ⟨b1, o1, rfl, hc1⟩ := (hU.below hB).at hlt
        have hx := hc1 j hlt
        have rx := hU.rng j
        obtain ⟨_, _, he, hz⟩ := hZ.at (k := j) (by omega)
        cases he
        have hzj := hz j (by omega)
        have hfj := hfz j
        simp only [Nat.zero_add] at hzj
        clear hz hc1
        by_cases hjl : j < l
        · obtain ⟨b2, o2, rfl, hc2⟩ := (hV.below hB).at hjl
          have hy := hc2 j hjl
          have ry := hV.rng j
          clear hc2
          go_wp2
          go_roundw
          case rel => exact ⟨j + 1, _, _, by omega, by go_num, rfl, by omega, by omega, hZ.set0 (by omega) (u32_range _), fun o => by simp [hfz], hB.setCell (Nat.le_refl _) _⟩
          case measure => simp [intOf]; omega
        · go_wp2
          go_roundw
          case rel => exact ⟨j + 1, _, _, by omega, by go_num, rfl, by omega, by omega, hZ.set0 (by omega) (u32_range _), fun o => by simp [hfz], hB.setCell (Nat.le_refl _) _⟩
          case measure => simp [intOf]; omega
      · have hjk : j = k := by omega
        subst hjk
        obtain ⟨_, _, he, hz⟩ := hZ.at (k := j) (by omega)
        cases he
        have hzj := hz j (by omega)
        have hfj := hfz j
        simp only [Nat.zero_add] at hzj
        clear hz
        have hZ' := hZ.set0 (k := j) (by omega) (v := C) ⟨by omega, by omega⟩
        have hB' : Below wc.heap.size wc (wr.setCell ⟨wc.heap.size, j, none⟩ (.int .u32 C)) := hB.setCell (Nat.le_refl _) _
        go_wp2_with (go_at_call 32; refine (norm_any hZ').mono ?_; rintro e wq ⟨rfl, hwq⟩; subst hwq)
        have hl := nl_le (zs.set j C) (j + 1)
        go_ret
        exact ⟨⟨_, _, _, rfl, hZ'.norm, by omega, nl_norm hZ'.len⟩, hB'⟩
end Go.Proofs.Qxb6500872aDoor
