import Derived.Test.Qxb6500872aDoorWc
namespace Go.Proofs.Qxb6500872aDoor
open Go.RowKit

theorem make_nat0 (m : Nat) (h1 : m ≤ 1000000) (W : World) : (Instr.makeSlice 26 (.int .i64 (m : Int)) (.int .i64 (m : Int))).run Tryd.prog W
    = .ok (.slice (some ⟨W.heap.size, 0, none⟩) m m) (W.alloc (.cells (madeCells #[.int .u32 0] m) 61)) := by
  have := make_nat W (m : Int) (by omega) (by omega)
  rwa [show (m : Int).toNat = m by omega] at this

theorem brw (n : Int) : 0 ≤ IntKind.u64.wrap n / 9223372036854775808 ∧ IntKind.u64.wrap n / 9223372036854775808 ≤ 1 := by rw [IntKind.wrap_u64]; omega

theorem hi32 (n : Int) : 0 ≤ IntKind.u64.wrap n / 4294967296 ∧ IntKind.u64.wrap n / 4294967296 < 4294967296 := by rw [IntKind.wrap_u64]; omega

set_option maxHeartbeats 400000 in
theorem sub_any {a a' : Option Addr} {n c n' c' : Nat} {xs ys : List Int} {w : World} {E : Value} (h : Limbs w a n c xs) (h' : Limbs w a' n' c' ys) (hE : w.cell? ⟨2, 0, none⟩ = some E) :
    Calls Tryd.prog 37 #[.slice a n c, .slice a' n' c'] w fun e w' => (∃ p m zs F, e = .returned (.tuple #[.slice p m m, F]) ∧ Limbs w' p m m zs ∧ m ≤ nl xs n ∧ nl zs m = m) ∧ Below w.heap.size w w' := by
  have hb := h.big
  have hc := h.cap
  have hb' := h'.big
  have hc' := h'.cap
  have hnl := nl_le xs n
  have hnl' := nl_le ys n'
  have hN := h.norm
  have hN' := h'.norm
  have hmk := make_nat0 (nl xs n) (by omega)
  have hU := h.norm
  have hV := h'.norm
  go_enter Tryd.func37, Tryd.ntmps37
  go_wp2_with (first | (go_at_call_of 32 (Value.slice a n c); refine (norm_any h).mono ?_; rintro e w ⟨rfl, rfl⟩) | (go_at_call_of 32 (Value.slice a' n' c'); refine (norm_any h').mono ?_; rintro e w ⟨rfl, rfl⟩) | (go_at_call 39; refine (cmp_any hN hN').mono ?_; rintro e w3 ⟨rfl, k3, rfl⟩))
  · go_quiet (fail)
    go_wp2
    go_ret2
    exact ⟨⟨_, _, _, _, rfl, Limbs.nil _, Nat.zero_le _, rfl⟩, below_drewN (below_drewN (Below.refl _ _) _) _⟩
  · clear h h' hN hN' hE hmk
    go_loopw [7, 24] (fun cy i wr => ∃ (j : Nat) (C : Int) (zs : List Int), j ≤ nl xs n ∧ i = .int .i64 j ∧ cy = .int .u64 C ∧ 0 ≤ C ∧ C ≤ 1 ∧ Limbs wr (some ⟨w.heap.size, 0, none⟩) (nl xs n) (nl xs n) zs ∧ (∀ o, wr.frozen? ⟨w.heap.size, o, none⟩ = false) ∧ Below w.heap.size w wr) (fun _ i _ => nl xs n - (intOf i).toNat)
    case atStart => exact ⟨0, 0, _, Nat.zero_le _, rfl, rfl, by omega, by omega, made_limbs _ _ (by omega), fun o => made_free _ _ _, (below_drewN (Below.refl _ _) _).alloc (Nat.le_refl _) _⟩
    case round =>
      obtain ⟨j, C, zs, hj, rfl, rfl, hC0, hC2, hZ, hfz, hB⟩ := hrel
      by_cases hlt : j < nl xs n
      · obtain ⟨b1, o1, rfl, hc1⟩ := (hU.below hB).at hlt
        have hx := hc1 j hlt
        have rx := hU.rng j
        obtain ⟨_, _, he, hz⟩ := hZ.at (k := j) (by omega)
        cases he
        have hzj := hz j (by omega)
        have hfj := hfz j
        simp only [Nat.zero_add] at hzj
        clear hz hc1
        by_cases hjl : j < nl ys n'
        · obtain ⟨b2, o2, rfl, hc2⟩ := (hV.below hB).at hjl
          have hy := hc2 j hjl
          have ry := hV.rng j
          clear hc2
          go_wp2
          go_roundw
          case rel => exact ⟨j + 1, _, _, by omega, by go_num, rfl, (brw _).1, (brw _).2, hZ.set0 (by omega) (u32_range _), fun o => by simp [hfz], hB.setCell (Nat.le_refl _) _⟩
          case measure => simp [intOf]; omega
        · go_wp2
          go_roundw
          case rel => exact ⟨j + 1, _, _, by omega, by go_num, rfl, (brw _).1, (brw _).2, hZ.set0 (by omega) (u32_range _), fun o => by simp [hfz], hB.setCell (Nat.le_refl _) _⟩
          case measure => simp [intOf]; omega
      · go_wp2_with (go_at_call 32; refine (norm_any hZ).mono ?_; rintro e wq ⟨rfl, hwq⟩; subst hwq)
        have hl := nl_le zs (nl xs n)
        go_ret2
        exact ⟨⟨_, _, _, _, rfl, hZ.norm, by omega, nl_norm hZ.len⟩, hB⟩

theorem Limbs.sub {w : World} {b off n c : Nat} {zs : List Int} (h : Limbs w (some ⟨b, off, none⟩) n c zs) {i l c' : Nat} (hil : i + l ≤ n) (hc : l ≤ c') (hc' : c' ≤ 1000000) :
    Limbs w (some ⟨b, off + i, none⟩) l c' ((zs.drop i).take l) := by
  have hg : ∀ j, j < l → ((zs.drop i).take l)[j]?.getD 0 = zs[i + j]?.getD 0 := by
    intro j hj
    rw [getD_take _ _ _ hj, List.getElem?_drop]
  refine ⟨by rw [List.length_take, List.length_drop, h.len]; omega, hc, hc', fun j => ?_, ?_⟩
  · rw [getD_take_any]; split
    · rw [List.getElem?_drop]; exact h.rng _
    · omega
  · rcases h.mem with h0 | ⟨b', off', ha, hcell⟩
    · exact .inl (by omega)
    · cases ha
      exact .inr ⟨b, off + i, rfl, fun j hj => by rw [hg j hj, Nat.add_assoc]; exact hcell (i + j) (by omega)⟩

/-- A row of which a part has been written. -/
theorem Limbs.splice {w w' : World} {b off n c : Nat} {zs : List Int} (h : Limbs w (some ⟨b, off, none⟩) n c zs) {i l c' : Nat} {zs' : List Int} (hil : i + l ≤ n)
    (hW : Wrote b (off + i) (off + i + l) w w') (h' : Limbs w' (some ⟨b, off + i, none⟩) l c' zs') :
    Limbs w' (some ⟨b, off, none⟩) n c (zs.take i ++ zs' ++ zs.drop (i + l)) := by
  have hl := h.len
  have hl' := h'.len
  have hg : ∀ j, (zs.take i ++ zs' ++ zs.drop (i + l))[j]?.getD 0 = if j < i then zs[j]?.getD 0 else if j < i + l then zs'[j - i]?.getD 0 else zs[j]?.getD 0 := by
    intro j
    by_cases h1 : j < i
    · rw [if_pos h1, List.append_assoc, List.getElem?_append_left (by rw [List.length_take]; omega), getD_take _ _ _ h1]
    · rw [if_neg h1, List.append_assoc, List.getElem?_append_right (by rw [List.length_take]; omega)]
      have e1 : (zs.take i).length = i := by rw [List.length_take]; omega
      rw [e1]
      by_cases h2 : j < i + l
      · rw [if_pos h2, List.getElem?_append_left (by omega)]
      · rw [if_neg h2, List.getElem?_append_right (by omega), List.getElem?_drop, hl']
        rw [show i + l + (j - i - l) = j by omega]
  refine ⟨by simp [hl', hl]; omega, h.cap, h.big, fun j => ?_, ?_⟩
  · rw [hg]; split
    · exact h.rng j
    · split
      · exact h'.rng _
      · exact h.rng j
  · rcases h.mem with h0 | ⟨b1, off1, ha, hcell⟩
    · exact .inl h0
    · cases ha
      refine .inr ⟨_, _, rfl, fun j hj => ?_⟩
      rw [hg]
      by_cases h1 : j < i
      · rw [if_pos h1, hW.cell _ (by omega)]; exact hcell j hj
      · rw [if_neg h1]
        by_cases h2 : j < i + l
        · rw [if_pos h2]
          obtain ⟨b2, off2, ha2, hcell2⟩ := h'.at (k := j - i) (by omega)
          cases ha2
          have := hcell2 (j - i) (by omega)
          rwa [show off + i + (j - i) = off + j by omega] at this
        · rw [if_neg h2, hW.cell _ (by omega)]; exact hcell j hj

theorem Limbs.far {w w' : World} {a : Option Addr} {n c : Nat} {ys : List Int} (h : Limbs w a n c ys) {b lo hi : Nat} (hW : Wrote b lo hi w w') (hf : ∀ x, a = some x → x.block ≠ b) : Limbs w' a n c ys := by
  refine ⟨h.len, h.cap, h.big, h.rng, ?_⟩
  rcases h.mem with h0 | ⟨b1, off1, ha, hcell⟩
  · exact .inl h0
  · exact .inr ⟨_, _, ha, fun j hj => by rw [hW.cell_far (hf _ ha)]; exact hcell j hj⟩

set_option maxHeartbeats 400000 in
theorem addMulRow_any {a' : Option Addr} {b off n c c' : Nat} {zs ys : List Int} {v : Int} {w : World} (h : Limbs w (some ⟨b, off, none⟩) n c zs) (h' : Limbs w a' n c' ys)
    (hf : ∀ x, a' = some x → x.block ≠ b) (hfz : ∀ o, w.frozen? ⟨b, o, none⟩ = false) (hv0 : 0 ≤ v) (hv : v < 4294967296) :
    Calls Tryd.prog 46 #[.slice (some ⟨b, off, none⟩) n c, .slice a' n c', .int .u32 v] w fun e w' => (∃ r zs', e = .returned (.int .u32 r) ∧ 0 ≤ r ∧ r < 4294967296 ∧ Limbs w' (some ⟨b, off, none⟩) n c zs') ∧ Wrote b off (off + n) w w' := by
  have hb := h.big
  have hc := h.cap
  have hb' := h'.big
  have hc' := h'.cap
  go_enter Tryd.func46, Tryd.ntmps46
  go_wp2
  go_loopw [7, 13] (fun cy i wr => ∃ (j : Nat) (C : Int) (zs : List Int), j ≤ n ∧ i = .int .i64 j ∧ cy = .int .u64 C ∧ 0 ≤ C ∧ C < 4294967296 ∧ Limbs wr (some ⟨b, off, none⟩) n c zs ∧ Wrote b off (off + n) w wr) (fun _ i _ => n - (intOf i).toNat)
  case atStart => exact ⟨0, 0, _, Nat.zero_le _, rfl, rfl, by omega, by omega, h, Wrote.refl _ _ _ _⟩
  case round =>
    obtain ⟨j, C, zs, hj, rfl, rfl, hC0, hC2, hZ, hW⟩ := hrel
    by_cases hlt : j < n
    · have hY := h'.far hW hf
      obtain ⟨b1, o1, rfl, hc1⟩ := hY.at hlt
      have hy := hc1 j hlt
      have ry := hY.rng j
      obtain ⟨_, _, he, hz⟩ := hZ.at hlt
      cases he
      have hzj := hz j hlt
      have rz := hZ.rng j
      have hfj : wr.frozen? ⟨b, off + j, none⟩ = false := (hW.frz _).trans (hfz _)
      clear hz hc1
      go_wp2
      go_roundw
      case rel => exact ⟨j + 1, _, _, by omega, by go_num, rfl, (hi32 _).1, (hi32 _).2, hZ.set hlt (u32_range _).1 (u32_range _).2, hW.setCell (by omega) (by omega) _⟩
      case measure => simp [intOf]; omega
    · go_wp2
      go_ret
      exact ⟨⟨_, _, rfl, by omega, by omega, hZ⟩, hW⟩

theorem make_nat2 (k l : Nat) (h1 : k + l ≤ 1000000) (W : World) : (Instr.makeSlice 26 (.int .i64 ((k : Int) + (l : Int))) (.int .i64 ((k : Int) + (l : Int)))).run Tryd.prog W
    = .ok (.slice (some ⟨W.heap.size, 0, none⟩) (k + l) (k + l)) (W.alloc (.cells (madeCells #[.int .u32 0] (k + l)) 61)) := by
  have := make_nat W ((k : Int) + (l : Int)) (by omega) (by omega)
  rwa [show ((k : Int) + (l : Int)).toNat = k + l by omega] at this

theorem Limbs.old {w : World} {a : Option Addr} {n c : Nat} {zs : List Int} (h : Limbs w a n c zs) (hn : 0 < n) : ∀ x, a = some x → x.block ≠ w.heap.size := by
  obtain ⟨b, off, rfl, hcell⟩ := h.at hn
  intro x hx
  cases hx
  have := World.block_lt_of_cell? _ _ (hcell 0 hn)
  simp at this
  show b ≠ w.heap.size
  omega
theorem Limbs.cell0 {w : World} {b n c : Nat} {zs : List Int} (h : Limbs w (some ⟨b, 0, none⟩) n c zs) {k : Nat} (hk : k < n) : w.cell? ⟨b, k, none⟩ = some (.int .u32 (zs[k]?.getD 0)) := by
  obtain ⟨b', off', he, hcell⟩ := h.at hk
  cases he
  have := hcell k hk
  rwa [Nat.zero_add] at this

set_option maxHeartbeats 400000 in
theorem mul_any {a a' : Option Addr} {n c n' c' : Nat} {xs ys : List Int} {w : World} (h : Limbs w a n c xs) (h' : Limbs w a' n' c' ys) (hn : n ≤ 200000) (hn' : n' ≤ 200000) :
    Calls Tryd.prog 35 #[.slice a n c, .slice a' n' c'] w fun e w' => (∃ p m zs, e = .returned (.slice p m m) ∧ Limbs w' p m m zs ∧ m ≤ nl xs n + nl ys n' ∧ nl zs m = m) ∧ Below w.heap.size w w' := by
  have hb := h.big
  have hc := h.cap
  have hb' := h'.big
  have hc' := h'.cap
  have hnl := nl_le xs n
  have hnl' := nl_le ys n'
  have hU := h.norm
  have hV := h'.norm
  have hmk := make_nat2 (nl xs n) (nl ys n') (by omega)
  by_cases hx0 : nl xs n = 0
  · have hd : (((nl xs n : Nat) : Int) == 0) = true := by simp [hx0]
    have HX : Hid (nl xs n = 0) := hx0
    clear hx0
    go_enter Tryd.func35, Tryd.ntmps35
    go_wp2_with (first | (go_at_call_of 32 (Value.slice a n c); refine (norm_any h).mono ?_; rintro e w ⟨rfl, rfl⟩) | (go_at_call_of 32 (Value.slice a' n' c'); refine (norm_any h').mono ?_; rintro e w ⟨rfl, rfl⟩))
    go_ret
    exact ⟨⟨_, _, _, rfl, Limbs.nil _, Nat.zero_le _, rfl⟩, Below.refl _ _⟩
  · have hd : (((nl xs n : Nat) : Int) == 0) = false := by simp [hx0]
    by_cases hy0 : nl ys n' = 0
    · have hd2 : (((nl ys n' : Nat) : Int) == 0) = true := by simp [hy0]
      have HY : Hid (nl ys n' = 0) := hy0
      clear hy0
      go_enter Tryd.func35, Tryd.ntmps35
      go_wp2_with (first | (go_at_call_of 32 (Value.slice a n c); refine (norm_any h).mono ?_; rintro e w ⟨rfl, rfl⟩) | (go_at_call_of 32 (Value.slice a' n' c'); refine (norm_any h').mono ?_; rintro e w ⟨rfl, rfl⟩))
      go_ret
      exact ⟨⟨_, _, _, rfl, Limbs.nil _, Nat.zero_le _, rfl⟩, Below.refl _ _⟩
    · have hd2 : (((nl ys n' : Nat) : Int) == 0) = false := by simp [hy0]
      go_enter Tryd.func35, Tryd.ntmps35
      go_wp2_with (first | (go_at_call_of 32 (Value.slice a n c); refine (norm_any h).mono ?_; rintro e w ⟨rfl, rfl⟩) | (go_at_call_of 32 (Value.slice a' n' c'); refine (norm_any h').mono ?_; rintro e w ⟨rfl, rfl⟩))
      clear h h' hmk
      go_loopw [28] (fun i wr => ∃ (j : Nat) (zs : List Int), j ≤ nl xs n ∧ i = .int .i64 j ∧ Limbs wr (some ⟨w.heap.size, 0, none⟩) (nl xs n + nl ys n') (nl xs n + nl ys n') zs ∧ (∀ o, wr.frozen? ⟨w.heap.size, o, none⟩ = false) ∧ Below w.heap.size w wr) (fun i _ => nl xs n - (intOf i).toNat)
      case atStart => exact ⟨0, _, Nat.zero_le _, rfl, made_limbs _ _ (by omega), fun o => made_free _ _ _, (Below.refl _ _).alloc (Nat.le_refl _) _⟩
      case round =>
        obtain ⟨j, zs, hj, rfl, hZ, hfz, hB⟩ := hrel
        by_cases hlt : j < nl xs n
        · obtain ⟨b1, o1, rfl, hc1⟩ := (hU.below hB).at hlt
          have hx := hc1 j hlt
          have rx := hU.rng j
          have hS := hZ.sub (i := j) (l := nl ys n') (c' := nl xs n + nl ys n' - j) (by omega) (by omega) (by omega)
          clear hc1
          by_cases hz : (norm xs)[j]?.getD 0 = 0
          · go_wp2
            go_roundw
            case rel => exact ⟨j + 1, _, by omega, by go_num, hZ, hfz, hB⟩
            case measure => simp [intOf]; omega
          · rw [Nat.zero_add] at hS
            have hfar := hV.old (by omega)
            go_wp2_with (go_at_call 46; refine (addMulRow_any hS (hV.below hB) hfar hfz rx.1 rx.2).mono ?_; rintro e w3 ⟨⟨r, zs', rfl, hr0, hr1, hZ3⟩, hW3⟩; have hQ := hZ.splice (i := j) (l := nl ys n') (by omega) (by rw [Nat.zero_add]; exact hW3) (by rw [Nat.zero_add]; exact hZ3); have hq := hQ.cell0 (k := j + nl ys n') (by omega); have hfq : w3.frozen? ⟨w.heap.size, j + nl ys n', none⟩ = false := (hW3.frz _).trans (hfz _))
            go_roundw
            case rel => exact ⟨j + 1, _, by omega, by go_num, hQ.set0 (by omega) ⟨hr0, hr1⟩, fun o => by simp [hW3.frz, hfz], (hB.trans (hW3.below (Nat.le_refl _))).setCell (Nat.le_refl _) _⟩
            case measure => simp [intOf]; omega
        · go_wp2_with (go_at_call 32; refine (norm_any hZ).mono ?_; rintro e wq ⟨rfl, hwq⟩; subst hwq)
          have hl := nl_le zs (nl xs n + nl ys n')
          go_ret
          exact ⟨⟨_, _, _, rfl, hZ.norm, hl, nl_norm hZ.len⟩, hB⟩
end Go.Proofs.Qxb6500872aDoor
