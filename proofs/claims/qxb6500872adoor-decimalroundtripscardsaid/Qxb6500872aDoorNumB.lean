/-
  PLAIN MATHEMATICS: one round of each loop over limbs. No Go in sight.
-/
import Derived.Test.Qxb6500872aDoorNum
namespace Go.Proofs.Qxb6500872aDoor

theorem add_step {us zs ys : List Int} {j : Nat} {C : Int} (hl : j < us.length) (hj : us[j]?.getD 0 = zs[j]?.getD 0) (hs : pv us j + C * Bp j = pv zs j + pv ys j) :
    pv (us.set j ((us[j]?.getD 0 + ys[j]?.getD 0 + C) % 4294967296)) (j + 1) + (us[j]?.getD 0 + ys[j]?.getD 0 + C) / 4294967296 * Bp (j + 1) = pv zs (j + 1) + pv ys (j + 1) := by
  simp only [pv, Bp]
  rw [pv_set_lo hl _ (Nat.le_refl _), getD_set _ hl, if_pos rfl, hj]
  have hd := Int.mul_ediv_add_emod (zs[j]?.getD 0 + ys[j]?.getD 0 + C) 4294967296
  generalize (zs[j]?.getD 0 + ys[j]?.getD 0 + C) / 4294967296 = q at hd ⊢
  generalize (zs[j]?.getD 0 + ys[j]?.getD 0 + C) % 4294967296 = r at hd ⊢
  generalize Bp j = P at *
  grind

theorem rng_set {us : List Int} (h : Rng us) {k : Nat} (hl : k < us.length) {v : Int} (hv : 0 ≤ v ∧ v < 4294967296) : Rng (us.set k v) := by
  intro j
  rw [getD_set _ hl]
  split
  · exact hv
  · exact h j

theorem emod_of {a q m t : Int} (h0 : 0 ≤ a) (h1 : a < m) (h : t = a + q * m) : a = t % m := by
  subst h
  rw [Int.add_mul_emod_self_right, Int.emod_eq_of_lt h0 h1]

theorem add_last {us zs ys : List Int} {j : Nat} {C : Int} (hr : Rng us) (hl : j < us.length) (hj : us[j]?.getD 0 = zs[j]?.getD 0) (hs : pv us j + C * Bp j = pv zs j + pv ys j) :
    pv (us.set j ((us[j]?.getD 0 + C) % 4294967296)) (j + 1) = (pv zs (j + 1) + pv ys j) % Bp (j + 1) := by
  have hb := pv_bound (rng_set hr hl (v := (us[j]?.getD 0 + C) % 4294967296) (by omega)) (j + 1)
  refine emod_of (q := (us[j]?.getD 0 + C) / 4294967296) hb.1 hb.2 ?_
  simp only [pv, Bp]
  rw [pv_set_lo hl _ (Nat.le_refl _), getD_set _ hl, if_pos rfl, hj]
  have hd := Int.mul_ediv_add_emod (zs[j]?.getD 0 + C) 4294967296
  generalize (zs[j]?.getD 0 + C) / 4294967296 = q at hd ⊢
  generalize (zs[j]?.getD 0 + C) % 4294967296 = r at hd ⊢
  generalize Bp j = P at *
  grind

/-- One limb of the row from which v times a row is taken: p the product with its carry, u the limb. -/
theorem sub_limb (u p D : Int) (hu : 0 ≤ u ∧ u < 4294967296) (hD : 0 ≤ D ∧ D ≤ 1) :
    ((u - p % 4294967296) % 18446744073709551616 - D) % 18446744073709551616 % 4294967296 - ((u - p % 4294967296) % 18446744073709551616 - D) % 18446744073709551616 / 9223372036854775808 * 4294967296 = u - p % 4294967296 - D := by
  omega

theorem sub_step {us zs ys : List Int} {j : Nat} {C D v p : Int} (hl : j < us.length) (hj : us[j]?.getD 0 = zs[j]?.getD 0) (hu : 0 ≤ us[j]?.getD 0 ∧ us[j]?.getD 0 < 4294967296) (hD : 0 ≤ D ∧ D ≤ 1)
    (hp : p = ys[j]?.getD 0 * v + C) (hs : pv us j - (C + D) * Bp j = pv zs j - v * pv ys j) {L R : Int}
    (hL : L = ((us[j]?.getD 0 - p % 4294967296) % 18446744073709551616 - D) % 18446744073709551616 % 4294967296) (hR : R = ((us[j]?.getD 0 - p % 4294967296) % 18446744073709551616 - D) % 18446744073709551616 / 9223372036854775808) :
    pv (us.set j L) (j + 1) - (p / 4294967296 + R) * Bp (j + 1) = pv zs (j + 1) - v * pv ys (j + 1) := by
  have hk := sub_limb (us[j]?.getD 0) p D hu hD
  rw [← hL, ← hR] at hk
  simp only [pv, Bp]
  rw [pv_set_lo hl _ (Nat.le_refl _), getD_set _ hl, if_pos rfl]
  have hd := Int.mul_ediv_add_emod p 4294967296
  generalize p / 4294967296 = q at hd ⊢
  generalize p % 4294967296 = r at hd hk ⊢
  generalize Bp j = P at *
  rw [hj] at hk
  grind

def SubPost (zs ys us : List Int) (v : Int) (n : Nat) (neg : Bool) : Prop :=
  neg = decide (pv zs (n + 1) < v * pv ys n) ∧ pv us (n + 1) = pv zs (n + 1) - v * pv ys n + (if pv zs (n + 1) < v * pv ys n then Bp (n + 1) else 0)

theorem sub_last {us zs ys : List Int} {j : Nat} {C D v : Int} (hr : Rng us) (hl : j < us.length) (hj : us[j]?.getD 0 = zs[j]?.getD 0) (hC : 0 ≤ C ∧ C < 4294967296) (hD : 0 ≤ D ∧ D ≤ 1)
    (hs : pv us j - (C + D) * Bp j = pv zs j - v * pv ys j) {L R : Int}
    (hL : L = ((us[j]?.getD 0 - C) % 18446744073709551616 - D) % 18446744073709551616 % 4294967296) (hR : R = ((us[j]?.getD 0 - C) % 18446744073709551616 - D) % 18446744073709551616 / 9223372036854775808) :
    SubPost zs ys (us.set j L) v j (R != 0) := by
  have hu := hr j
  have hb := pv_bound hr j
  have hp := Bp_pos j
  have hL' : L = us[j]?.getD 0 - C - D + R * 4294967296 := by omega
  have hRr : R = if us[j]?.getD 0 - C - D < 0 then 1 else 0 := by
    split <;> omega
  have hT : pv zs (j + 1) - v * pv ys j = pv us j + (us[j]?.getD 0 - C - D) * Bp j := by
    simp only [pv]
    rw [← hj]
    generalize Bp j = P at *
    grind
  have hneg : (us[j]?.getD 0 - C - D < 0) ↔ pv zs (j + 1) < v * pv ys j := by
    constructor
    · intro h
      have : (us[j]?.getD 0 - C - D) * Bp j ≤ (-1) * Bp j := Int.mul_le_mul_of_nonneg_right (by omega) (by omega)
      omega
    · intro h
      by_cases hc : us[j]?.getD 0 - C - D < 0
      · exact hc
      · have : 0 ≤ (us[j]?.getD 0 - C - D) * Bp j := Int.mul_nonneg (by omega) (by omega)
        omega
  refine ⟨?_, ?_⟩
  · rw [hRr]
    by_cases h : us[j]?.getD 0 - C - D < 0
    · rw [if_pos h]; simp [hneg.1 h]
    · rw [if_neg h]; simp [mt hneg.2 h]
  · have epv : pv (us.set j L) (j + 1) = pv us j + L * Bp j := by
      simp only [pv]
      rw [pv_set_lo hl _ (Nat.le_refl _), getD_set _ hl, if_pos rfl]
    rw [epv, hL', hRr, hT]
    by_cases h : us[j]?.getD 0 - C - D < 0
    · rw [if_pos h, if_pos (hneg.1 h)]
      simp only [Bp]
      generalize Bp j = P at *
      grind
    · rw [if_neg h, if_neg (fun e => h (hneg.2 e))]
      generalize Bp j = P at *
      grind

theorem div_step {us xs : List Int} {n k : Nat} {d R : Int} (hl : us.length = n) (hk : k + 1 ≤ n) (hd0 : 0 < d) (hR0 : 0 ≤ R) (hR1 : R < d) (hx : 0 ≤ xs[k]?.getD 0 ∧ xs[k]?.getD 0 < 4294967296)
    (hs : (pv us n - pv us (k + 1)) * d + R * Bp (k + 1) = pv xs n - pv xs (k + 1)) :
    (pv (us.set k ((R * 4294967296 + xs[k]?.getD 0) / d % 4294967296)) n - pv (us.set k ((R * 4294967296 + xs[k]?.getD 0) / d % 4294967296)) k) * d + (R * 4294967296 + xs[k]?.getD 0) % d * Bp k = pv xs n - pv xs k := by
  have hlt : (R * 4294967296 + xs[k]?.getD 0) / d < 4294967296 := by
    refine Int.ediv_lt_of_lt_mul hd0 ?_
    have : (R + 1) * 4294967296 ≤ d * 4294967296 := Int.mul_le_mul_of_nonneg_right (by omega) (by omega)
    omega
  have h0 : 0 ≤ (R * 4294967296 + xs[k]?.getD 0) / d := Int.ediv_nonneg (by omega) (by omega)
  rw [Int.emod_eq_of_lt h0 hlt, pv_set_hi (by omega) _ (by omega), pv_set_lo (by omega) _ (Nat.le_refl _)]
  simp only [pv, Bp] at hs
  have hd := Int.mul_ediv_add_emod (R * 4294967296 + xs[k]?.getD 0) d
  generalize (R * 4294967296 + xs[k]?.getD 0) / d = q at hd ⊢
  generalize (R * 4294967296 + xs[k]?.getD 0) % d = r at hd ⊢
  generalize Bp k = P at *
  grind

theorem mul_step {us zs : List Int} {j : Nat} {C m v : Int} (hl : j < us.length) (hj : us[j]?.getD 0 = zs[j]?.getD 0) (hs : pv us j + C * Bp j = pv zs j * m + v) :
    pv (us.set j ((us[j]?.getD 0 * m + C) % 4294967296)) (j + 1) + (us[j]?.getD 0 * m + C) / 4294967296 * Bp (j + 1) = pv zs (j + 1) * m + v := by
  simp only [pv, Bp]
  rw [pv_set_lo hl _ (Nat.le_refl _), getD_set _ hl, if_pos rfl, hj]
  have hd := Int.mul_ediv_add_emod (zs[j]?.getD 0 * m + C) 4294967296
  generalize (zs[j]?.getD 0 * m + C) / 4294967296 = q at hd ⊢
  generalize (zs[j]?.getD 0 * m + C) % 4294967296 = r at hd ⊢
  generalize Bp j = P at *
  grind

theorem getD_snoc (us : List Int) (C : Int) (j : Nat) : (us ++ [C])[j]?.getD 0 = if j = us.length then C else us[j]?.getD 0 := by
  rw [List.getElem?_append]
  by_cases h : j < us.length
  · rw [if_pos h, if_neg (by omega)]
  · rw [if_neg h]
    by_cases h2 : j = us.length
    · simp [h2]
    · rw [if_neg h2]
      have e1 : us[j]? = none := List.getElem?_eq_none (by omega)
      have e2 : [C][j - us.length]? = none := List.getElem?_eq_none (by simp; omega)
      rw [e1, e2]
theorem pv_snoc {us : List Int} {n : Nat} (hl : us.length = n) (C : Int) : pv (us ++ [C]) (n + 1) = pv us n + C * Bp n := by
  have e : pv (us ++ [C]) n = pv us n := pv_congr (fun j hj => by rw [getD_snoc, if_neg (by omega)])
  simp only [pv]
  rw [getD_snoc, if_pos hl.symm, e]

/-- Shifts: m = 2^s, d = 2^(32-s). -/
theorem shl_limb {m d x : Int} (hm : 0 < m) (hd : 0 < d) (hmd : m * d = 4294967296) : x * m % 4294967296 = m * (x % d) := by
  have h := Int.mul_ediv_add_emod x d
  have h1 : x * m = m * (x % d) + (x / d) * 4294967296 := by
    rw [← hmd]
    generalize x / d = q at *
    generalize x % d = r at *
    grind
  have hr0 := Int.emod_nonneg x (b := d) (by omega)
  have hr1 := Int.emod_lt_of_pos x hd
  have hlo : 0 ≤ m * (x % d) := Int.mul_nonneg (by omega) hr0
  have hhi : m * (x % d) < 4294967296 := by
    rw [← hmd]
    exact Int.mul_lt_mul_of_pos_left hr1 hm
  exact (emod_of hlo hhi h1).symm

theorem shl_step {us xs : List Int} {j : Nat} {m d C L : Int} (hm : 0 < m) (hd : 0 < d) (hmd : m * d = 4294967296) (hl : j < us.length) (hx : 0 ≤ xs[j]?.getD 0 ∧ xs[j]?.getD 0 < 4294967296)
    (hs : pv us j + C * Bp j = m * pv xs j) (hL : L = m * (xs[j]?.getD 0 % d) + C) :
    pv (us.set j L) (j + 1) + xs[j]?.getD 0 / d % 4294967296 * Bp (j + 1) = m * pv xs (j + 1) ∧ 0 ≤ xs[j]?.getD 0 / d % 4294967296 ∧ xs[j]?.getD 0 / d % 4294967296 < m := by
  have hq0 : 0 ≤ xs[j]?.getD 0 / d := Int.ediv_nonneg hx.1 (by omega)
  have hq1 : xs[j]?.getD 0 / d < m := Int.ediv_lt_of_lt_mul hd (by rw [hmd]; exact hx.2)
  have hm2 : m ≤ 4294967296 := by
    rw [← hmd]
    have : m * 1 ≤ m * d := Int.mul_le_mul_of_nonneg_left (by omega) (by omega)
    omega
  rw [Int.emod_eq_of_lt hq0 (by omega)]
  refine ⟨?_, hq0, hq1⟩
  simp only [pv, Bp]
  rw [pv_set_lo hl _ (Nat.le_refl _), getD_set _ hl, if_pos rfl, hL]
  have h := Int.mul_ediv_add_emod (xs[j]?.getD 0) d
  generalize xs[j]?.getD 0 / d = q at *
  generalize xs[j]?.getD 0 % d = r at *
  generalize Bp j = P at *
  rw [← hmd]
  grind

def nxt (xs : List Int) (n k : Nat) : Int := if k < n then xs[k]?.getD 0 else 0
theorem nxt_lt {xs : List Int} {n k : Nat} (h : k < n) : nxt xs n k = xs[k]?.getD 0 := if_pos h
theorem nxt_end (xs : List Int) (n : Nat) : nxt xs n n = 0 := if_neg (Nat.lt_irrefl _)
/-- What is shifted down, limb for limb. -/
def Shr (us xs : List Int) (m d : Int) (n k : Nat) : Prop := ∀ i, k ≤ i → i < n → us[i]?.getD 0 = xs[i]?.getD 0 / m + d * (nxt xs n (i + 1) % m)

theorem shr_sum {us xs : List Int} {m d : Int} {n : Nat} (hm : 0 < m) (hmd : m * d = 4294967296) (h : Shr us xs m d n 0) : ∀ k, k ≤ n → m * pv us k = pv xs k - xs[0]?.getD 0 % m + nxt xs n k % m * Bp k ∨ k = 0
  | 0, _ => .inr rfl
  | k + 1, hk => by
    refine .inl ?_
    have hu := h k (Nat.zero_le _) (by omega)
    have hdm := Int.mul_ediv_add_emod (xs[k]?.getD 0) m
    simp only [pv, Bp]
    rw [hu]
    generalize nxt xs n (k + 1) % m = t
    rcases shr_sum hm hmd h k (by omega) with ih | rfl
    · rw [nxt_lt (show k < n by omega)] at ih
      generalize xs[k]?.getD 0 / m = q at *
      generalize xs[k]?.getD 0 % m = r at *
      generalize xs[0]?.getD 0 % m = r0 at *
      generalize Bp k = P at *
      rw [← hmd]
      grind
    · simp only [pv, Bp]
      generalize xs[0]?.getD 0 / m = q at *
      generalize xs[0]?.getD 0 % m = r at *
      rw [← hmd]
      grind

theorem shr_le {us xs : List Int} {m d : Int} {n : Nat} (hm : 0 < m) (hmd : m * d = 4294967296) (h : Shr us xs m d n 0) : m * pv us n ≤ pv xs n := by
  rcases shr_sum hm hmd h n (Nat.le_refl _) with ih | rfl
  · rw [nxt_end] at ih
    have := Int.emod_nonneg (xs[0]?.getD 0) (b := m) (by omega)
    simp at ih
    omega
  · simp [pv]
end Go.Proofs.Qxb6500872aDoor
