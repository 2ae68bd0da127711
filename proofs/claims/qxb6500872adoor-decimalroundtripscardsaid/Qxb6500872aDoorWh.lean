import Derived.Test.Qxb6500872aDoorWg
import Derived.Test.Qxb6500872aDoorNumC
import Derived.Deep.CutBlock
set_option linter.unusedVariables false
namespace Go.Proofs.Qxb6500872aDoor
open Go.RowKit

/-- How far the highest limb is shifted. -/
def lz (x : Int) : Nat := 32 - Lib.bitLen x.toNat
theorem lz_spec {x : Int} (h0 : 0 < x) (h1 : x < 4294967296) : lz x < 32 ∧ (32 - (Lib.bitLen x.toNat : Int)) = (lz x : Int) ∧ 2147483648 ≤ 2 ^ lz x * x ∧ 2 ^ lz x * x < 4294967296 := by
  obtain ⟨m, rfl⟩ := Int.eq_ofNat_of_zero_le (Int.le_of_lt h0)
  have hm : m < 2 ^ 32 := by omega
  obtain ⟨a, b, c⟩ := Lib.bitLenAux_bounds 64 m (by omega) (by omega)
  have hle : Lib.bitLenAux 64 m ≤ 32 := by
    by_cases hc : Lib.bitLenAux 64 m ≤ 32
    · exact hc
    · exfalso
      have : 2 ^ 32 ≤ 2 ^ (Lib.bitLenAux 64 m - 1) := Nat.pow_le_pow_right (by omega) (by omega)
      omega
  unfold lz Lib.bitLen
  simp only [Int.toNat_natCast]
  generalize Lib.bitLenAux 64 m = L at *
  have e1 : 2 ^ (32 - L) * 2 ^ (L - 1) = 2147483648 := by rw [← Nat.pow_add, show 32 - L + (L - 1) = 31 by omega]
  have e2 : 2 ^ (32 - L) * 2 ^ L = 4294967296 := by rw [← Nat.pow_add, show 32 - L + L = 32 by omega]
  have f1 : 2 ^ (32 - L) * 2 ^ (L - 1) ≤ 2 ^ (32 - L) * m := Nat.mul_le_mul_left _ b
  have f2 : 2 ^ (32 - L) * m < 2 ^ (32 - L) * 2 ^ L := Nat.mul_lt_mul_of_pos_left c (Nat.pow_pos (by omega))
  have e3 : ((2 : Int) ^ (32 - L) * (m : Int)) = ((2 ^ (32 - L) * m : Nat) : Int) := by push_cast; rfl
  rw [e3]
  refine ⟨by omega, by omega, by omega, by omega⟩

theorem make_nat3 (N n : Nat) (hn : n ≤ N) (h1 : N ≤ 999999) (W : World) : (Instr.makeSlice 26 (.int .i64 ((N : Int) - (n : Int) + 1)) (.int .i64 ((N : Int) - (n : Int) + 1))).run Tryd.prog W
    = .ok (.slice (some ⟨W.heap.size, 0, none⟩) (N - n + 1) (N - n + 1)) (W.alloc (.cells (madeCells #[.int .u32 0] (N - n + 1)) 61)) := by
  have := make_nat W ((N : Int) - (n : Int) + 1) (by omega) (by omega)
  rwa [show ((N : Int) - (n : Int) + 1).toNat = N - n + 1 by omega] at this

theorem pv_take (zs : List Int) {m k : Nat} (h : k ≤ m) : pv (zs.take m) k = pv zs k := pv_congr fun j hj => getD_take _ _ _ (by omega)
theorem pv_norm {zs : List Int} {n : Nat} (h : zs.length = n) : pv (norm zs) (nl zs n) = pv zs n := by
  subst h
  unfold norm
  rw [pv_take _ (Nat.le_refl _), pv_nl]

theorem knuth_end {rs xs vs vn : List Int} {n : Nat} {m d : Int} (hmd : m * d = 4294967296) (hm : 0 < m) (hsh : Shr rs (xs.take n) m d n 0) (hi : pv (xs.drop 0) n < pv vn n) (hV : pv vn n = m * pv vs n) : pv rs n < pv vs n := by
  have h1 := shr_le hm hmd hsh
  rw [pv_take _ (Nat.le_refl _)] at h1
  rw [List.drop_zero] at hi
  exact Int.lt_of_mul_lt_mul_left (by omega : m * pv rs n < m * pv vs n) (by omega)

def KInv (w : World) (B2 n N : Nat) (vn : List Int) (k : Nat) (wr : World) : Prop :=
  ∃ xs qs, Limbs wr (some ⟨w.heap.size, 0, none⟩) n n vn ∧ Limbs wr (some ⟨B2, 0, none⟩) (N + 1) (N + 1) xs ∧ Limbs wr (some ⟨B2 + 1, 0, none⟩) (N - n + 1) (N - n + 1) qs ∧
    (∀ o, wr.frozen? ⟨B2, o, none⟩ = false) ∧ (∀ o, wr.frozen? ⟨B2 + 1, o, none⟩ = false) ∧ Below w.heap.size w wr ∧ pv (xs.drop k) n < pv vn n

/-- What the search for a digit ends in. -/
def Found (V U q : Int) : Prop := 0 ≤ q ∧ q < 4294967296 ∧ (∀ t, t * V ≤ U → t ≤ q) ∧ (q - 1) * V ≤ U

/-- A store into another block. -/
theorem Limbs.other {w : World} {b off n c : Nat} {zs : List Int} (h : Limbs w (some ⟨b, off, none⟩) n c zs) {q : Addr} (hq : b ≠ q.block) (u : Value) : Limbs (w.setCell q u) (some ⟨b, off, none⟩) n c zs := by
  refine ⟨h.len, h.cap, h.big, h.rng, ?_⟩
  rcases h.mem with h0 | ⟨b', off', ha, hcell⟩
  · exact .inl h0
  · cases ha
    refine .inr ⟨b, off, rfl, fun j hj => ?_⟩
    rw [World.cell?_setCell_other _ _ _ _ (by intro e; subst e; exact hq rfl)]
    exact hcell j hj

theorem found_mk {V U v1 v2 u2 lead q r P : Int} (h : Guess V U v1 lead q r) (hP : 0 < P) (hV0 : 0 ≤ V) (hv1 : 1 ≤ v1) (hv2 : 0 ≤ v2) (hV : V < (v1 * 4294967296 + v2 + 1) * P) (hU : (lead * 4294967296 + u2) * P ≤ U) (hU0 : 0 ≤ U)
    (hq0 : 0 ≤ q) (hq1 : q < 4294967296) (hq : q * v2 ≤ r * 4294967296 + u2) : Found V U q :=
  ⟨hq0, hq1, h.hi, guess_end h hP hV0 hv1 hv2 hV hU hU0 hq0 hq1 hq⟩

theorem splice_getD {zs zs' : List Int} {i l j : Nat} (hl' : zs'.length = l) (hil : i + l ≤ zs.length) (hj : j < l) : (zs.take i ++ zs' ++ zs.drop (i + l))[i + j]?.getD 0 = zs'[j]?.getD 0 := by
  rw [List.append_assoc, List.getElem?_append_right (by rw [List.length_take]; omega)]
  have e1 : (zs.take i).length = i := by rw [List.length_take]; omega
  rw [e1, List.getElem?_append_left (by omega), show i + j - i = j by omega]

theorem next_inv {xs us vn : List Int} {n k : Nat} (hr : Rng us) (hl : us.length = n + 1) (hk : k + (n + 1) ≤ xs.length) (h : pv us (n + 1) < pv vn n) : pv ((xs.take k ++ us ++ xs.drop (k + (n + 1))).drop k) n < pv vn n := by
  have e : pv ((xs.take k ++ us ++ xs.drop (k + (n + 1))).drop k) n = pv us n := pv_congr fun j hj => by rw [getD_drop, splice_getD hl hk (by omega)]
  rw [e]
  simp only [pv] at h
  have := Int.mul_nonneg (hr n).1 (Int.le_of_lt (Bp_pos n))
  omega

/-- The window behind the digit is less than the divisor. -/
theorem behind {xs vn us : List Int} {n k : Nat} {Q : Int} {neg : Bool} (hF : Found (pv vn n) (pv (xs.drop k) (n + 1)) Q) (h : SubPost ((xs.drop k).take (n + 1)) vn us Q n neg) (hn : neg = false) : pv us (n + 1) < pv vn n := by
  obtain ⟨h1, h2⟩ := h
  rw [pv_take _ (Nat.le_refl _)] at h1 h2
  rw [hn] at h1
  have h3 : ¬ pv (xs.drop k) (n + 1) < Q * pv vn n := by simpa using h1.symm
  rw [if_neg h3] at h2
  have := digit_exact hF.2.2.1 h3
  omega
theorem behind_over {xs vn us : List Int} {n k : Nat} {Q : Int} {neg : Bool} (hr : Rng vn) (hF : Found (pv vn n) (pv (xs.drop k) (n + 1)) Q) (h : SubPost ((xs.drop k).take (n + 1)) vn us Q n neg) (hn : neg = true) (h0 : 0 ≤ pv (xs.drop k) (n + 1)) :
    (pv us (n + 1) + pv vn n) % Bp (n + 1) < pv vn n ∧ 1 ≤ Q := by
  obtain ⟨h1, h2⟩ := h
  rw [pv_take _ (Nat.le_refl _)] at h1 h2
  rw [hn] at h1
  have h3 : pv (xs.drop k) (n + 1) < Q * pv vn n := by simpa using h1.symm
  rw [if_pos h3] at h2
  have hb := pv_bound hr n
  have hM : pv vn n < Bp (n + 1) := by simp only [Bp]; omega
  have := digit_over h3 hF.2.2.2 hM
  rw [h2]
  refine ⟨by rw [this.1]; exact this.2.2, ?_⟩
  by_cases hq : 1 ≤ Q
  · exact hq
  · have hq0 : Q = 0 := by have := hF.1; omega
    rw [hq0] at h3
    omega

set_option maxRecDepth 20000 in
set_option maxHeartbeats 2000000 in
theorem knuth_any {a a' : Option Addr} {N c n c' : Nat} {us vs : List Int} {w : World} (h : Limbs w a N c us) (h' : Limbs w a' n c' vs) (hn : 2 ≤ n) (hnN : n ≤ N) (hN : N ≤ 200000) (htop : vs[n - 1]?.getD 0 ≠ 0) :
    Calls Tryd.prog 47 #[.slice a N c, .slice a' n c'] w fun e w' => (∃ p k qs p' k' rs, e = .returned (.tuple #[.slice p k k, .slice p' k' k']) ∧ Limbs w' p k k qs ∧ Limbs w' p' k' k' rs ∧ k ≤ N ∧ k' ≤ n ∧ pv rs k' < pv vs n ∧ nl rs k' = k') ∧ Below w.heap.size w w' := by
  have hb := h.big
  have hc := h.cap
  have hb' := h'.big
  have hc' := h'.cap
  have hmk1 := make_nat0 n (by omega)
  have hmk2 := make_nat1 N (by omega)
  obtain ⟨b1, o1, rfl, hcv⟩ := h'.at (k := n - 1) (by omega)
  have hv := hcv (n - 1) (by omega)
  have rv := h'.rng (n - 1)
  have hvlt : b1 < w.heap.size := World.block_lt_of_cell? _ _ hv
  obtain ⟨hs32, hsE, hs1, hs2⟩ := lz_spec (x := vs[n - 1]?.getD 0) (by omega) rv.2
  have HSE : Hid ((32 - (Lib.bitLen (vs[n - 1]?.getD 0).toNat : Int)) = (lz (vs[n - 1]?.getD 0) : Int)) := hsE
  clear hcv hsE
  generalize hS : lz (vs[n - 1]?.getD 0) = s at *
  have HSS : Hid (lz (vs[n - 1]?.getD 0) = s) := hS
  clear hS
  have rvs : Rng vs := h'.rng
  have hL1 := h'.below (one_alloc w (.cells (madeCells #[.int .u32 0] n) 61))
  have hL2 := made_limbs w n (by omega)
  go_enter Tryd.func47, Tryd.ntmps47
  go_wp2_with (first
    | (go_at_call 48; refine (Tryd.bits_LeadingZeros32 _ _ rv.1 (by omega)).mono ?_; rintro e w ⟨rfl, rfl⟩; rw [HSE.out])
    | (go_at_call_of 49 (Value.slice (some ⟨b1, o1, none⟩) n c'); refine (shlInto_any hL2 hL1 (fun x hx => by cases hx; simp; omega) (fun o => made_free _ _ _) hs32).mono ?_; rintro e w1 ⟨⟨vn, C, rfl, hVn, hVeq, hC0, hC1⟩, hW1⟩))
  have HVQ : Hid (pv vn n + C * Bp n = 2 ^ s * pv vs n) := hVeq
  clear hVeq
  have hB1 : Below w.heap.size w w1 := (one_alloc w _).trans (hW1.below (Nat.le_refl _))
  have hz1 : w1.heap.size = w.heap.size + 1 := by rw [hW1.size]; simp
  have HZ1 : Hid (w1.heap.size = w.heap.size + 1) := hz1
  clear hz1
  have hMU := made_limbs w1 (N + 1) (by omega)
  have hcN := hMU.cell0 (k := N) (by omega)
  refine (shlInto_any (hMU.take (m := N) (c' := N + 1) (by omega) (by omega) (by omega)) ((h.below hB1).below (one_alloc w1 _)) ((h.below hB1).old (by omega)) (fun o => made_free _ _ _) hs32).mono ?_
  rintro e w2 ⟨⟨un, D, rfl, hUn, hUeq, hD0, hD1⟩, hW2⟩
  have HUQ : Hid (pv un N + D * Bp N = 2 ^ s * pv us N) := hUeq
  clear hUeq
  have h32 : (2 : Int) ^ s ≤ 4294967296 := by
    obtain ⟨hmd, hm, hd⟩ := two_pows s hs32
    rw [← hmd]
    have : (2 : Int) ^ s * 1 ≤ 2 ^ s * 2 ^ (32 - s) := Int.mul_le_mul_of_nonneg_left (by omega) (by omega)
    omega
  have hcN2 : w2.cell? ⟨w1.heap.size, N, none⟩ = some (.int .u32 ((List.replicate (N + 1) (0 : Int))[N]?.getD 0)) := by rw [hW2.cell _ (by omega)]; exact hcN
  have hfN2 : w2.frozen? ⟨w1.heap.size, N, none⟩ = false := (hW2.frz _).trans (made_free _ _ _)
  have hX := hUn.snoc0 (by omega) hcN2 (v := D) ⟨hD0, by omega⟩
  have hB2 : Below w1.heap.size w1 (w2.setCell ⟨w1.heap.size, N, none⟩ (.int .u32 D)) := ((one_alloc w1 _).trans (hW2.below (Nat.le_refl _))).setCell (Nat.le_refl _) _
  have hz2 : (w2.setCell ⟨w1.heap.size, N, none⟩ (.int .u32 D)).heap.size = w1.heap.size + 1 := by simp [World.setCell, hW2.size]
  have hff : ∀ o, (w2.setCell ⟨w1.heap.size, N, none⟩ (.int .u32 D)).frozen? ⟨w1.heap.size, o, none⟩ = false := fun o => by rw [World.frozen?_setCell]; exact (hW2.frz _).trans (made_free _ _ _)
  go_wp2
  generalize w2.setCell ⟨w1.heap.size, N, none⟩ (.int .u32 D) = w3 at *
  have hlU := hUn.len
  clear hW2 hcN2 hfN2 hUn hcN hMU hmk1 hmk2 hL1 hL2
  have hV3 := hVn.below hB2
  have c1 := hV3.cell0 (k := n - 1) (by omega)
  have c2 := hV3.cell0 (k := n - 2) (by omega)
  have r1 := hV3.rng (n - 1)
  have r2 := hV3.rng (n - 2)
  have hmk := make_nat3 N n hnN (by omega)
  have hn1 : (1 : Int) ≤ (n : Int) := by omega
  have hn2 : (2 : Int) ≤ (n : Int) := by omega
  go_quiet (fail)
  go_wp2
  have hB3 : Below w.heap.size w w3 := chain hB1 hB2
  clear hB1 hB2 hW1 hVn h h' hv
  generalize w1.heap.size = B2 at *
  obtain ⟨hmd, hm, hd⟩ := two_pows s hs32
  have hrv : Rng vs := rvs
  obtain ⟨hVV, hvt⟩ := scaled (by omega) hmd hm hV3.rng hrv HVQ.out hC0 hs1 hs2
  have HVV : Hid (pv vn n = 2 ^ s * pv vs n) := hVV
  have hs31 : (2 : Int) ^ s ≤ 2147483648 := by
    have h := Nat.pow_le_pow_right (n := 2) (by omega) (show s ≤ 31 by omega)
    have e : (2 : Int) ^ s = ((2 ^ s : Nat) : Int) := by push_cast; rfl
    rw [e]; omega
  have hst : pv ((un ++ [D]).drop (N - n + 1)) n < pv vn n := knuth_start (by omega) hnN hX.rng hV3.rng (by rw [getD_snoc, if_pos hlU.symm]; omega)
  clear hVV hmd c1 c2 hmk HVQ HSE HUQ
  go_loopg [13] (N - n + 1) (fun k i wr => k ≤ N - n + 1 ∧ i = .int .i64 ((k : Int) - 1) ∧ KInv w B2 n N vn k wr)
  case atStart =>
    have hz3 : (w3.drewN nq).heap.size = B2 + 1 := hz2
    refine ⟨Nat.le_refl _, by go_num, _, List.replicate (N - n + 1) 0, (hV3.drewN nq).below (one_alloc _ _), (hX.drewN nq).below (one_alloc _ _), ?_, fun o => ?_, fun o => ?_, (below_drewN hB3 nq).alloc (by rw [hz3]; have := HZ1.out; omega) _, hst⟩
    · have := made_limbs (w3.drewN nq) (N - n + 1) (by omega)
      rwa [hz3] at this
    · rw [World.frozen?_alloc_old _ _ _ (by rw [hz3]; simp)]
      exact hff o
    · have := made_free (w3.drewN nq) (N - n + 1) o
      rwa [hz3] at this
  case round =>
    obtain ⟨hk, rfl, xs, qs, hV, hXs, hQs, hfX, hfQ, hB, hinv⟩ := hrel
    have HI : Hid (pv (xs.drop gk) n < pv vn n) := hinv
    have rV := hV.rng
    have HRV : Hid (Rng vn) := hV.rng
    clear hst hX hV3 hff hz2 hlU hinv hB3 r1 r2 hD0 hD1 hC0 hC1 rvs rv htop h32 hs1 hs2 rV
    cases gk with
    | zero =>
      go_wp2_with fail
      refine (shrInto_any (hXs.take (m := n) (c' := N + 1) (by omega) (by omega) (by omega)) hfX hs32).mono ?_
      rintro e w4 ⟨⟨rfl, rs, hRs, hshr⟩, hW4⟩
      have hQ4 := hQs.far hW4 (fun x hx => by cases hx; simp)
      have hlr := hRs.len
      have HLR : Hid (rs.length = n) := hlr
      clear hlr
      go_wp2_with fail
      refine (norm_any hQ4).mono ?_
      rintro e w4 ⟨rfl, rfl⟩
      go_wp2_with fail
      refine (norm_any hRs).mono ?_
      rintro e w4 ⟨rfl, rfl⟩
      go_wp2
      go_ret2
      have l1 := nl_le qs (N - n + 1)
      have l2 := nl_le rs n
      refine ⟨⟨_, _, _, _, _, _, rfl, hQ4.norm, hRs.norm, by omega, l2, ?_, nl_norm HLR.out⟩, hB.trans (hW4.below (by have := HZ1.out; omega))⟩
      rw [pv_norm HLR.out]
      exact knuth_end (two_pows s hs32).1 hm hshr HI.out HVV.out
    | succ k =>
      have hkN : k ≤ N - n := by omega
      rw [show (((k + 1 : Nat) : Int) - 1) = (k : Int) by omega]
      have HW := window (n := n) hXs.rng HI.out
      have HT := window_top (n := n) (k := k) hn hXs.rng
      have HD := divisor_top hn HRV.out
      have HLD := lead_le hn hXs.rng HRV.out HI.out
      have c0 := hXs.cell0 (k := k + n) (by omega)
      have c1 := hXs.cell0 (k := k + n - 1) (by omega)
      have c2 := hXs.cell0 (k := k + n - 2) (by omega)
      have x0 := hXs.rng (k + n)
      have x1 := hXs.rng (k + n - 1)
      have x2 := hXs.rng (k + n - 2)
      have hor := or_add_u64 x0.1 x0.2 x1.1 x1.2
      have i1 : (k : Int) + (n : Int) < (N : Int) + 1 := by omega
      have i2 : 0 ≤ (k : Int) + (n : Int) - 1 := by omega
      have i3 : 0 ≤ (k : Int) + (n : Int) - 2 := by omega
      have v1p : 0 < vn[n - 1]?.getD 0 := by omega
      have v2r := HRV.out (n - 2)
      have v1r := HRV.out (n - 1)
      have HHW : Hid (0 ≤ pv (xs.drop k) (n + 1) ∧ pv (xs.drop k) (n + 1) < pv vn n * 4294967296) := HW
      clear HW
      go_wp2
      go_quiet (fail)
      go_upto_block 2 with fail
      go_cut [13, 15, 16] (fun s13 sq sr wc => ∃ (Q : Int) (m : Nat), s13 = .int .i64 k ∧ sq = .int .u64 Q ∧ wc = wr.drewN m ∧ Found (pv vn n) (pv (xs.drop k) (n + 1)) Q)
      case first =>
        have HG : Hid (Guess (pv vn n) (pv (xs.drop k) (n + 1)) (vn[n - 1]?.getD 0) (xs[k + n]?.getD 0 * 4294967296 + xs[k + n - 1]?.getD 0) ((xs[k + n]?.getD 0 * 4294967296 + xs[k + n - 1]?.getD 0) / vn[n - 1]?.getD 0) ((xs[k + n]?.getD 0 * 4294967296 + xs[k + n - 1]?.getD 0) % vn[n - 1]?.getD 0)) :=
          guess_start (Bp_pos (n - 1)) v1p HD.1 HT.2.2 (by omega)
        have hr1 := Int.emod_lt_of_pos (xs[k + n]?.getD 0 * 4294967296 + xs[k + n - 1]?.getD 0) v1p
        have hq0 := Int.ediv_nonneg (a := xs[k + n]?.getD 0 * 4294967296 + xs[k + n - 1]?.getD 0) (b := vn[n - 1]?.getD 0) (by omega) (by omega)
        have hq1 : (xs[k + n]?.getD 0 * 4294967296 + xs[k + n - 1]?.getD 0) / vn[n - 1]?.getD 0 ≤ xs[k + n]?.getD 0 * 4294967296 + xs[k + n - 1]?.getD 0 := Int.ediv_le_self _ (by omega)
        go_wp2_with fail
        go_loop [15, 16] (fun sq sr => ∃ Q R : Int, sq = .int .u64 Q ∧ sr = .int .u64 R ∧ 0 ≤ Q ∧ Q < 18446744073709551616 ∧ R < 4294967296 ∧ Guess (pv vn n) (pv (xs.drop k) (n + 1)) (vn[n - 1]?.getD 0) (xs[k + n]?.getD 0 * 4294967296 + xs[k + n - 1]?.getD 0) Q R) (fun sq _ => (intOf sq).toNat)
        case atStart => exact ⟨_, _, rfl, rfl, hq0, by omega, by omega, HG.out⟩
        case round =>
          obtain ⟨Q, R, rfl, rfl, hQ0, hQ1, hR1, hG⟩ := hrel
          have hR0 := hG.r0
          have HG2 : Hid (Guess (pv vn n) (pv (xs.drop k) (n + 1)) (vn[n - 1]?.getD 0) (xs[k + n]?.getD 0 * 4294967296 + xs[k + n - 1]?.getD 0) Q R) := hG
          clear hG hq0 hq1 hr1 HG
          by_cases hQB : 4294967296 ≤ Q
          · have HN := guess_down HG2.out (too_high_base (by have := HHW.out; omega) HHW.out.2 hQB) (by omega)
            have HHN : Hid (Guess (pv vn n) (pv (xs.drop k) (n + 1)) (vn[n - 1]?.getD 0) (xs[k + n]?.getD 0 * 4294967296 + xs[k + n - 1]?.getD 0) (Q - 1) (R + vn[n - 1]?.getD 0)) := HN
            clear HN
            by_cases hbr : 4294967296 ≤ R + vn[n - 1]?.getD 0
            · go_wp2
              go_meet
              case rel =>
                have hgb := guess_break HHN.out.eq v1p v2r HLD x1.2 x2.1 (by omega) hbr
                exact ⟨Q - 1, _, by go_num, rfl, rfl, found_mk HHN.out (Bp_pos (n - 2)) (by have := HHW.out; omega) (by omega) v2r.1 HD.2.2 HT.1 HHW.out.1 (by omega) hgb.1 hgb.2⟩
            · go_wp2
              go_round
              case rel => exact ⟨_, _, rfl, rfl, by omega, by omega, by omega, HHN.out⟩
              case measure => simp [intOf]; omega
          · have hor2 := or_add_u64 (q := R) (b := xs[k + n - 2]?.getD 0) hR0 hR1 x2.1 x2.2
            have hp0 : 0 ≤ Q * vn[n - 2]?.getD 0 := Int.mul_nonneg hQ0 v2r.1
            have hp1 : Q * vn[n - 2]?.getD 0 ≤ 4294967295 * 4294967295 := Int.mul_le_mul (by omega) (by omega) (by omega) (by omega)
            simp only [Int.reduceMul] at hp1
            by_cases htest : R * 4294967296 + xs[k + n - 2]?.getD 0 < Q * vn[n - 2]?.getD 0
            · have hQp : 1 ≤ Q := by
                by_cases hq : 1 ≤ Q
                · exact hq
                · have hq0 : Q = 0 := by omega
                  rw [hq0] at htest
                  omega
              have HN := guess_down HG2.out (too_high_next HG2.out (Bp_pos (n - 2)) hQ0 HD.2.1 HT.2.1 htest) (by omega)
              have HHN : Hid (Guess (pv vn n) (pv (xs.drop k) (n + 1)) (vn[n - 1]?.getD 0) (xs[k + n]?.getD 0 * 4294967296 + xs[k + n - 1]?.getD 0) (Q - 1) (R + vn[n - 1]?.getD 0)) := HN
              clear HN
              by_cases hbr : 4294967296 ≤ R + vn[n - 1]?.getD 0
              · go_wp2
                go_meet
                case rel =>
                  have hgb := guess_break HHN.out.eq v1p v2r HLD x1.2 x2.1 (by omega) hbr
                  exact ⟨Q - 1, _, by go_num, rfl, rfl, found_mk HHN.out (Bp_pos (n - 2)) (by have := HHW.out; omega) (by omega) v2r.1 HD.2.2 HT.1 HHW.out.1 (by omega) hgb.1 hgb.2⟩
              · go_wp2
                go_round
                case rel => exact ⟨_, _, rfl, rfl, by omega, by omega, by omega, HHN.out⟩
                case measure => simp [intOf]; omega
            · go_wp2
              go_meet
              case rel =>
                exact ⟨Q, _, by go_num, rfl, rfl, found_mk HG2.out (Bp_pos (n - 2)) (by have := HHW.out; omega) (by omega) v2r.1 HD.2.2 HT.1 HHW.out.1 (by omega) (by omega) (by omega)⟩
      case rest =>
        obtain ⟨Q, m, rfl, rfl, rfl, hF⟩ := hcut
        have hQ0 := hF.1
        have hQ1 := hF.2.1
        have HF : Hid (Found (pv vn n) (pv (xs.drop k) (n + 1)) Q) := hF
        clear hF HT HD HLD c0 c1 c2 x0 x1 x2 hor
        have hSub := (hXs.drewN m).sub (i := k) (l := n + 1) (c' := N + 1 - k) (by omega) (by omega) (by omega)
        rw [Nat.zero_add] at hSub
        have hVm := hV.drewN m
        have hne : w.heap.size ≠ B2 := by have := HZ1.out; omega
        go_wp2_with fail
        rw [show k + n + 1 - k = n + 1 by omega]
        refine (subMulRow_any hSub hVm (fun x hx => by cases hx; exact hne) hfX hQ0 hQ1).mono ?_
        rintro e w5 ⟨⟨us5, neg, rfl, hU5, hP5⟩, hW5⟩
        have HP5 : Hid (SubPost ((xs.drop k).take (n + 1)) vn us5 Q n neg) := hP5
        clear hP5
        have hV5 := hVm.far hW5 (fun x hx => by cases hx; exact hne)
        go_upto_if 130 with fail
        go_cut [15] (fun sq wc => ∃ (Q' : Int) (us' : List Int), sq = .int .u64 Q' ∧ 0 ≤ Q' ∧ Q' < 4294967296 ∧ Limbs wc (some ⟨B2, k, none⟩) (n + 1) (N + 1 - k) us' ∧ Wrote B2 k (k + (n + 1)) (wr.drewN m) wc ∧ pv us' (n + 1) < pv vn n)
        case first =>
          cases hneg : neg
          · go_wp2
            go_meet
            case rel => exact ⟨Q, us5, rfl, hQ0, hQ1, hU5, hW5, behind HF.out HP5.out hneg⟩
          · have hov := behind_over HRV.out HF.out HP5.out hneg HHW.out.1
            have HOV : Hid ((pv us5 (n + 1) + pv vn n) % Bp (n + 1) < pv vn n) := hov.1
            have hQp := hov.2
            clear hov
            go_wp2_with fail
            rw [show k + n + 1 - k = n + 1 by omega]
            refine (addRow_any hU5 hV5 (fun x hx => by cases hx; exact hne) (fun o => (hW5.frz _).trans (hfX o))).mono ?_
            rintro e w6 ⟨⟨rfl, us6, hU6, hP6⟩, hW6⟩
            have HP6 : Hid (pv us6 (n + 1) = (pv us5 (n + 1) + pv vn n) % Bp (n + 1)) := hP6
            clear hP6
            go_wp2
            go_meet
            case rel => exact ⟨Q - 1, us6, rfl, by omega, by omega, hU6, hW5.trans hW6, by rw [HP6.out]; exact HOV.out⟩
        case rest =>
          obtain ⟨Q', us', rfl, hq0, hq1, hU', hW', hlt'⟩ := hcut
          have HLT : Hid (pv us' (n + 1) < pv vn n) := hlt'
          clear hlt' hW5 hU5 hV5 HP5
          have hX' := (hXs.drewN m).splice (i := k) (l := n + 1) (by omega) (by rw [Nat.zero_add]; exact hW') (by rw [Nat.zero_add]; exact hU')
          have hQ' := (hQs.drewN m).far hW' (fun x hx => by cases hx; simp)
          have hV' := hVm.far hW' (fun x hx => by cases hx; exact hne)
          have cq := hQ'.cell0 (k := k) (by omega)
          have fq : wc.frozen? ⟨B2 + 1, k, none⟩ = false := (hW'.frz _).trans (hfQ k)
          have hlX := hXs.len
          have HLX : Hid (xs.length = N + 1) := hlX
          clear hlX
          go_wp2
          go_roundg k
          case measure => omega
          case rel =>
            refine ⟨by omega, rfl, _, _, hV'.other (by have := HZ1.out; simp; omega) _, hX'.other (by simp) _, hQ'.set0 (by omega) ⟨hq0, hq1⟩, fun o => by rw [World.frozen?_setCell]; exact (hW'.frz _).trans (hfX o), fun o => by rw [World.frozen?_setCell]; exact (hW'.frz _).trans (hfQ o), ((below_drewN hB m).trans (hW'.below (by have := HZ1.out; omega))).setCell (by have := HZ1.out; simp; omega) _, ?_⟩
            exact next_inv hU'.rng hU'.len (by rw [HLX.out]; omega) HLT.out
end Go.Proofs.Qxb6500872aDoor
