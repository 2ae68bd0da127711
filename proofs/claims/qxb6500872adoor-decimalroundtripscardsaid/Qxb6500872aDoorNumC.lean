/-
  PLAIN MATHEMATICS: one digit of the long division. No Go in sight.
-/
import Derived.Test.Qxb6500872aDoorNumB
namespace Go.Proofs.Qxb6500872aDoor

theorem getD_drop (us : List Int) (k j : Nat) : (us.drop k)[j]?.getD 0 = us[k + j]?.getD 0 := by rw [List.getElem?_drop]

theorem pv_head (us : List Int) : ∀ m, pv us (m + 1) = us[0]?.getD 0 + 4294967296 * pv (us.drop 1) m
  | 0 => by simp [pv, Bp]
  | m + 1 => by
    have ih := pv_head us m
    have e : pv us (m + 1 + 1) = pv us (m + 1) + us[m + 1]?.getD 0 * Bp (m + 1) := rfl
    have e2 : pv (us.drop 1) (m + 1) = pv (us.drop 1) m + us[m + 1]?.getD 0 * Bp m := by
      simp only [pv]; rw [getD_drop, Nat.add_comm 1 m]
    rw [e, ih, e2]
    simp only [Bp]
    grind

theorem pv_drop (us : List Int) (k m : Nat) : pv (us.drop k) (m + 1) = us[k]?.getD 0 + 4294967296 * pv (us.drop (k + 1)) m := by
  rw [pv_head, getD_drop, List.drop_drop]
  rfl

theorem rng_drop {us : List Int} (h : Rng us) (k : Nat) : Rng (us.drop k) := fun j => by rw [getD_drop]; exact h _

/-- The two highest of n + 2 limbs. -/
theorem pv_top2 {zs : List Int} (h : Rng zs) (n : Nat) : (zs[n + 1]?.getD 0 * 4294967296 + zs[n]?.getD 0) * Bp n ≤ pv zs (n + 2) ∧ pv zs (n + 2) < (zs[n + 1]?.getD 0 * 4294967296 + zs[n]?.getD 0 + 1) * Bp n := by
  have b := pv_bound h n
  simp only [pv, Bp]
  generalize Bp n = P at *
  constructor <;> grind
theorem pv_top1 {zs : List Int} (h : Rng zs) (n : Nat) : zs[n]?.getD 0 * Bp n ≤ pv zs (n + 1) ∧ pv zs (n + 1) < (zs[n]?.getD 0 + 1) * Bp n := by
  have b := pv_bound h n
  simp only [pv]
  generalize Bp n = P at *
  constructor <;> grind
theorem pv_top3 {zs : List Int} (h : Rng zs) (n : Nat) : ((zs[n + 2]?.getD 0 * 4294967296 + zs[n + 1]?.getD 0) * 4294967296 + zs[n]?.getD 0) * Bp n ≤ pv zs (n + 3) ∧ pv zs (n + 3) < ((zs[n + 2]?.getD 0 * 4294967296 + zs[n + 1]?.getD 0) * 4294967296 + zs[n]?.getD 0 + 1) * Bp n := by
  have b := pv_bound h n
  simp only [pv, Bp]
  generalize Bp n = P at *
  constructor <;> grind

/-- What is known of the guess (q, r) for the digit: V the divisor, U the window, 'lead' its two highest limbs. -/
structure Guess (V U v1 lead q r : Int) : Prop where
  eq : q * v1 + r = lead
  hi : ∀ t, t * V ≤ U → t ≤ q
  r0 : 0 ≤ r

theorem le_of_mul_lt {a b P : Int} (hP : 0 < P) (h : a * P < (b + 1) * P) : a ≤ b := by
  have := Int.lt_of_mul_lt_mul_right h (by omega)
  omega

theorem guess_start {V U v1 lead P : Int} (hP : 0 < P) (hv1 : 0 < v1) (hV : v1 * P ≤ V) (hU : U < (lead + 1) * P) (h0 : 0 ≤ lead) : Guess V U v1 lead (lead / v1) (lead % v1) := by
  refine ⟨by have := Int.mul_ediv_add_emod lead v1; rw [Int.mul_comm]; exact this, fun t ht => ?_, Int.emod_nonneg _ (by omega)⟩
  by_cases ht0 : t < 0
  · have := Int.ediv_nonneg h0 (Int.le_of_lt hv1)
    omega
  · rw [Int.le_ediv_iff_mul_le hv1]
    refine le_of_mul_lt hP ?_
    have h1 : t * (v1 * P) ≤ t * V := Int.mul_le_mul_of_nonneg_left hV (by omega)
    rw [Int.mul_assoc]
    omega

/-- The guess is lowered where it is too high. -/
theorem guess_down {V U v1 lead q r : Int} (h : Guess V U v1 lead q r) (hq : U < q * V) (hv1 : 0 ≤ v1) : Guess V U v1 lead (q - 1) (r + v1) := by
  refine ⟨by have := h.eq; grind, fun t ht => ?_, by have := h.r0; omega⟩
  have h1 := h.hi t ht
  by_cases he : t = q
  · subst he; omega
  · omega

/-- It is too high where it is no digit. -/
theorem too_high_base {V U q : Int} (hV : 0 < V) (hU : U < V * 4294967296) (hq : 4294967296 ≤ q) : U < q * V := by
  have : 4294967296 * V ≤ q * V := Int.mul_le_mul_of_nonneg_right hq (by omega)
  omega

/-- It is too high where the third limb says so. -/
theorem too_high_next {V U v1 v2 u2 lead q r P : Int} (h : Guess V U v1 lead q r) (hP : 0 < P) (hq0 : 0 ≤ q) (hV : (v1 * 4294967296 + v2) * P ≤ V) (hU : U < (lead * 4294967296 + u2 + 1) * P)
    (hq : r * 4294967296 + u2 < q * v2) : U < q * V := by
  by_cases hc : U < q * V
  · exact hc
  · exfalso
    have h1 : q * ((v1 * 4294967296 + v2) * P) ≤ q * V := Int.mul_le_mul_of_nonneg_left hV hq0
    have h2 : q * (v1 * 4294967296 + v2) ≤ lead * 4294967296 + u2 := le_of_mul_lt hP (by rw [Int.mul_assoc]; omega)
    have h3 := h.eq
    have h4 : q * (v1 * 4294967296 + v2) = (q * v1) * 4294967296 + q * v2 := by grind
    rw [h4] at h2
    omega

/-- At its end the guess is at most one too high. -/
theorem guess_end {V U v1 v2 u2 lead q r P : Int} (h : Guess V U v1 lead q r) (hP : 0 < P) (hV0 : 0 ≤ V) (hv1 : 1 ≤ v1) (hv2 : 0 ≤ v2) (hV : V < (v1 * 4294967296 + v2 + 1) * P) (hU : (lead * 4294967296 + u2) * P ≤ U) (hU0 : 0 ≤ U)
    (hq0 : 0 ≤ q) (hq1 : q < 4294967296) (hq : q * v2 ≤ r * 4294967296 + u2) : (q - 1) * V ≤ U := by
  by_cases hz : q = 0
  · subst hz
    omega
  · have h1 : (q - 1) * V ≤ (q - 1) * ((v1 * 4294967296 + v2 + 1) * P) := Int.mul_le_mul_of_nonneg_left (Int.le_of_lt hV) (by omega)
    have h3 := h.eq
    have h2 : (q - 1) * (v1 * 4294967296 + v2 + 1) ≤ lead * 4294967296 + u2 := by
      have e : (q - 1) * (v1 * 4294967296 + v2 + 1) = (q * v1) * 4294967296 + q * v2 + q - (v1 * 4294967296 + v2 + 1) := by grind
      rw [e]
      omega
    have h4 : (q - 1) * (v1 * 4294967296 + v2 + 1) * P ≤ (lead * 4294967296 + u2) * P := Int.mul_le_mul_of_nonneg_right h2 (by omega)
    rw [← Int.mul_assoc] at h1
    omega

/-- The window behind the digit. -/
theorem digit_exact {V U q : Int} (hi : ∀ t, t * V ≤ U → t ≤ q) (hn : ¬ U < q * V) : 0 ≤ U - q * V ∧ U - q * V < V := by
  refine ⟨by omega, ?_⟩
  by_cases hc : U - q * V < V
  · exact hc
  · have := hi (q + 1) (by rw [Int.add_mul]; omega)
    omega
theorem digit_over {V U q M : Int} (hU : U < q * V) (hlo : (q - 1) * V ≤ U) (hVM : V < M) : (U - q * V + M + V) % M = U - (q - 1) * V ∧ 0 ≤ U - (q - 1) * V ∧ U - (q - 1) * V < V := by
  have e : (q - 1) * V = q * V - V := by grind
  rw [e] at hlo ⊢
  refine ⟨?_, by omega, by omega⟩
  have h : U - q * V + M + V = (U - (q * V - V)) + 1 * M := by omega
  exact (emod_of (q := 1) (by omega) (by omega) h).symm

/-- The divisor, scaled. -/
theorem scaled {vn vs : List Int} {n : Nat} {m d C : Int} (hn : 1 ≤ n) (hmd : m * d = 4294967296) (hm : 0 < m) (hr : Rng vn) (hr' : Rng vs) (h : pv vn n + C * Bp n = m * pv vs n) (hC : 0 ≤ C) (h1 : 2147483648 ≤ m * vs[n - 1]?.getD 0) (h2 : m * vs[n - 1]?.getD 0 < 4294967296) :
    pv vn n = m * pv vs n ∧ 2147483648 ≤ vn[n - 1]?.getD 0 := by
  obtain ⟨k, rfl⟩ : ∃ k, n = k + 1 := ⟨n - 1, by omega⟩
  simp only [Nat.add_sub_cancel] at *
  have t1 := pv_top1 hr' k
  have t2 := pv_top1 hr k
  have b1 := pv_bound hr (k + 1)
  have hp := Bp_pos k
  have hv : vs[k]?.getD 0 < d := Int.lt_of_mul_lt_mul_left (by omega : m * vs[k]?.getD 0 < m * d) (by omega)
  have hlt : m * pv vs (k + 1) < 4294967296 * Bp k := by
    have e1 : m * pv vs (k + 1) < m * ((vs[k]?.getD 0 + 1) * Bp k) := Int.mul_lt_mul_of_pos_left t1.2 hm
    have e2 : m * (vs[k]?.getD 0 + 1) * Bp k ≤ m * d * Bp k := Int.mul_le_mul_of_nonneg_right (Int.mul_le_mul_of_nonneg_left (by omega) (by omega)) (by omega)
    rw [hmd] at e2
    rw [← Int.mul_assoc] at e1
    omega
  have hC0 : C = 0 := by
    by_cases hc : C = 0
    · exact hc
    · exfalso
      have : 1 * Bp (k + 1) ≤ C * Bp (k + 1) := Int.mul_le_mul_of_nonneg_right (by omega) (by have := Bp_pos (k + 1); omega)
      simp only [Bp] at this
      simp only [Bp] at h
      omega
  subst hC0
  have hV : pv vn (k + 1) = m * pv vs (k + 1) := by omega
  refine ⟨hV, ?_⟩
  have e3 : m * (vs[k]?.getD 0 * Bp k) ≤ m * pv vs (k + 1) := Int.mul_le_mul_of_nonneg_left t1.1 (by omega)
  rw [← Int.mul_assoc] at e3
  have e4 : 2147483648 * Bp k ≤ m * vs[k]?.getD 0 * Bp k := Int.mul_le_mul_of_nonneg_right h1 (by omega)
  exact le_of_mul_lt hp (by omega)

theorem knuth_start {xs vn : List Int} {n N : Nat} (hn : 1 ≤ n) (hnN : n ≤ N) (hr : Rng xs) (hr' : Rng vn) (hD : xs[N]?.getD 0 + 1 ≤ vn[n - 1]?.getD 0) : pv (xs.drop (N - n + 1)) n < pv vn n := by
  obtain ⟨k, rfl⟩ : ∃ k, n = k + 1 := ⟨n - 1, by omega⟩
  simp only [Nat.add_sub_cancel] at *
  have t1 := pv_top1 (rng_drop hr (N - (k + 1) + 1)) k
  have t2 := pv_top1 hr' k
  have hp := Bp_pos k
  rw [getD_drop, show N - (k + 1) + 1 + k = N by omega] at t1
  have : (xs[N]?.getD 0 + 1) * Bp k ≤ vn[k]?.getD 0 * Bp k := Int.mul_le_mul_of_nonneg_right hD (by omega)
  omega

/-- The window at the digit k. -/
theorem window {xs vn : List Int} {n k : Nat} (hr : Rng xs) (h : pv (xs.drop (k + 1)) n < pv vn n) : 0 ≤ pv (xs.drop k) (n + 1) ∧ pv (xs.drop k) (n + 1) < pv vn n * 4294967296 := by
  have hx := hr k
  have hb := pv_bound (rng_drop hr (k + 1)) n
  rw [pv_drop]
  omega

/-- The window, by its three highest limbs. -/
theorem window_top {xs : List Int} {n k : Nat} (hn : 2 ≤ n) (hr : Rng xs) :
    ((xs[k + n]?.getD 0 * 4294967296 + xs[k + n - 1]?.getD 0) * 4294967296 + xs[k + n - 2]?.getD 0) * Bp (n - 2) ≤ pv (xs.drop k) (n + 1) ∧
    pv (xs.drop k) (n + 1) < ((xs[k + n]?.getD 0 * 4294967296 + xs[k + n - 1]?.getD 0) * 4294967296 + xs[k + n - 2]?.getD 0 + 1) * Bp (n - 2) ∧
    pv (xs.drop k) (n + 1) < (xs[k + n]?.getD 0 * 4294967296 + xs[k + n - 1]?.getD 0 + 1) * Bp (n - 1) := by
  obtain ⟨m, rfl⟩ : ∃ m, n = m + 2 := ⟨n - 2, by omega⟩
  have t3 := pv_top3 (rng_drop hr k) m
  have t2 := pv_top2 (rng_drop hr k) (m + 1)
  simp only [getD_drop] at t3 t2
  rw [show m + 2 - 2 = m by omega, show m + 2 - 1 = m + 1 by omega, show k + (m + 2) - 1 = k + (m + 1) by omega, show k + (m + 2) - 2 = k + m by omega]
  exact ⟨t3.1, t3.2, t2.2⟩

theorem divisor_top {vn : List Int} {n : Nat} (hn : 2 ≤ n) (hr : Rng vn) :
    vn[n - 1]?.getD 0 * Bp (n - 1) ≤ pv vn n ∧ (vn[n - 1]?.getD 0 * 4294967296 + vn[n - 2]?.getD 0) * Bp (n - 2) ≤ pv vn n ∧ pv vn n < (vn[n - 1]?.getD 0 * 4294967296 + vn[n - 2]?.getD 0 + 1) * Bp (n - 2) := by
  obtain ⟨m, rfl⟩ : ∃ m, n = m + 2 := ⟨n - 2, by omega⟩
  have t2 := pv_top2 hr m
  have t1 := pv_top1 hr (m + 1)
  rw [show m + 2 - 2 = m by omega, show m + 2 - 1 = m + 1 by omega]
  exact ⟨t1.1, t2.1, t2.2⟩

/-- The highest limb of the window is no greater than the divisor's. -/
theorem lead_le {xs vn : List Int} {n k : Nat} (hn : 2 ≤ n) (hr : Rng xs) (hr' : Rng vn) (h : pv (xs.drop (k + 1)) n < pv vn n) : xs[k + n]?.getD 0 ≤ vn[n - 1]?.getD 0 := by
  obtain ⟨m, rfl⟩ : ∃ m, n = m + 1 := ⟨n - 1, by omega⟩
  have t1 := pv_top1 (rng_drop hr (k + 1)) m
  have t2 := pv_top1 hr' m
  rw [getD_drop, show k + 1 + m = k + (m + 1) by omega] at t1
  rw [show m + 1 - 1 = m by omega]
  exact le_of_mul_lt (Bp_pos m) (by omega)

/-- Where the sum has outgrown a limb the guess is a digit, and not too high by the third limb. -/
theorem guess_break {v1 v2 u0 u1 u2 q r : Int} (heq : q * v1 + r = u0 * 4294967296 + u1) (hv1 : 0 < v1) (hv2 : 0 ≤ v2 ∧ v2 < 4294967296) (hu0 : u0 ≤ v1) (hu1 : u1 < 4294967296) (hu2 : 0 ≤ u2) (hq0 : 0 ≤ q) (hr : 4294967296 ≤ r) : q < 4294967296 ∧ q * v2 ≤ r * 4294967296 + u2 := by
  have hq : q < 4294967296 := by
    by_cases hc : q < 4294967296
    · exact hc
    · exfalso
      have : 4294967296 * v1 ≤ q * v1 := Int.mul_le_mul_of_nonneg_right (by omega) (by omega)
      omega
  refine ⟨hq, ?_⟩
  have : q * v2 ≤ 4294967296 * 4294967296 := Int.mul_le_mul (by omega) (by omega) hv2.1 (by omega)
  omega

end Go.Proofs.Qxb6500872aDoor
