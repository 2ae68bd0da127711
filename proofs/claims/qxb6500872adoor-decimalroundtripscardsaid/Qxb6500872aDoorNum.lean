/-
  PLAIN MATHEMATICS: numbers as rows of limbs in base 4294967296. No Go in sight.
-/
namespace Go.Proofs.Qxb6500872aDoor

/-- The powers of the base. -/
def Bp : Nat → Int
  | 0 => 1
  | k + 1 => 4294967296 * Bp k
theorem Bp_pos : ∀ k, 0 < Bp k
  | 0 => by decide
  | k + 1 => by have := Bp_pos k; simp only [Bp]; omega
theorem Bp_add (i : Nat) : ∀ j, Bp (i + j) = Bp i * Bp j
  | 0 => by simp [Bp]
  | j + 1 => by
    show 4294967296 * Bp (i + j) = Bp i * (4294967296 * Bp j)
    rw [Bp_add i j]; grind

/-- The value of the first k limbs. -/
def pv (zs : List Int) : Nat → Int
  | 0 => 0
  | k + 1 => pv zs k + zs[k]?.getD 0 * Bp k

/-- The length of the first k limbs without high zeros. -/
def nl (zs : List Int) : Nat → Nat
  | 0 => 0
  | k + 1 => if zs[k]?.getD 0 = 0 then nl zs k else k + 1

theorem nl_le (zs : List Int) (k : Nat) : nl zs k ≤ k := by
  induction k with
  | zero => simp [nl]
  | succ k ih => simp only [nl]; split <;> omega

theorem nl_zero {zs : List Int} {k : Nat} (h : zs[k]?.getD 0 = 0) : nl zs (k + 1) = nl zs k := by simp [nl, h]
theorem nl_pos {zs : List Int} {k : Nat} (h : zs[k]?.getD 0 ≠ 0) : nl zs (k + 1) = k + 1 := by simp [nl, h]

/-- Every limb is one. -/
def Rng (zs : List Int) : Prop := ∀ j : Nat, 0 ≤ zs[j]?.getD 0 ∧ zs[j]?.getD 0 < 4294967296

theorem pv_congr {xs ys : List Int} : ∀ {k : Nat}, (∀ j, j < k → xs[j]?.getD 0 = ys[j]?.getD 0) → pv xs k = pv ys k
  | 0, _ => rfl
  | k + 1, h => by simp only [pv]; rw [pv_congr (k := k) (fun j hj => h j (by omega)), h k (by omega)]

theorem pv_bound {zs : List Int} (h : Rng zs) : ∀ k, 0 ≤ pv zs k ∧ pv zs k < Bp k
  | 0 => by simp [pv, Bp]
  | k + 1 => by
    have ih := pv_bound h k
    have hk := h k
    have hp := Bp_pos k
    simp only [pv, Bp]
    have h1 : 0 ≤ zs[k]?.getD 0 * Bp k := Int.mul_nonneg hk.1 (by omega)
    have h2 : zs[k]?.getD 0 * Bp k ≤ 4294967295 * Bp k := Int.mul_le_mul_of_nonneg_right (by omega) (by omega)
    constructor <;> omega

theorem pv_nl (zs : List Int) : ∀ k, pv zs (nl zs k) = pv zs k
  | 0 => rfl
  | k + 1 => by
    by_cases h : zs[k]?.getD 0 = 0
    · rw [nl_zero h, pv_nl zs k]; simp [pv, h]
    · rw [nl_pos h]

theorem getD_set (zs : List Int) {k : Nat} (hk : k < zs.length) (v : Int) (j : Nat) : (zs.set k v)[j]?.getD 0 = if j = k then v else zs[j]?.getD 0 := by
  rw [List.getElem?_set]
  by_cases hj : k = j
  · subst hj; simp [hk]
  · simp [hj, Ne.symm hj]

theorem pv_set_lo {zs : List Int} {k : Nat} (hk : k < zs.length) (v : Int) {m : Nat} (hm : m ≤ k) : pv (zs.set k v) m = pv zs m :=
  pv_congr fun j hj => by rw [getD_set _ hk, if_neg (by omega)]
theorem pv_set_hi {zs : List Int} {k : Nat} (hk : k < zs.length) (v : Int) : ∀ {m : Nat}, k < m → pv (zs.set k v) m = pv zs m + (v - zs[k]?.getD 0) * Bp k
  | m + 1, h => by
    simp only [pv]
    by_cases hm : k = m
    · subst hm
      rw [pv_set_lo hk v (Nat.le_refl _), getD_set _ hk, if_pos rfl]; grind
    · rw [pv_set_hi hk v (m := m) (by omega), getD_set _ hk, if_neg (by omega)]; grind

/-- A row with a high limb that is not zero. -/
theorem pv_top {zs : List Int} (h : Rng zs) {k : Nat} (hz : zs[k]?.getD 0 ≠ 0) : Bp k ≤ pv zs (k + 1) := by
  have ih := pv_bound h k
  have hk := h k
  have hp := Bp_pos k
  simp only [pv]
  have h1 : 1 * Bp k ≤ zs[k]?.getD 0 * Bp k := Int.mul_le_mul_of_nonneg_right (by omega) (by omega)
  omega

theorem Bp_mono : ∀ {i j : Nat}, i ≤ j → Bp i ≤ Bp j
  | i, 0, h => by have : i = 0 := by omega
                  subst this; exact Int.le_refl _
  | i, j + 1, h => by
    by_cases hij : i = j + 1
    · subst hij; exact Int.le_refl _
    · have := Bp_mono (i := i) (j := j) (by omega)
      have hp := Bp_pos j
      simp only [Bp]; omega

theorem nl_last {zs : List Int} {k m : Nat} (h : nl zs k = m + 1) : zs[m]?.getD 0 ≠ 0 := by
  induction k with
  | zero => simp [nl] at h
  | succ k ih =>
    by_cases hz : zs[k]?.getD 0 = 0
    · rw [nl_zero hz] at h; exact ih h
    · rw [nl_pos hz] at h
      have : m = k := by omega
      subst this; exact hz

/-- Two numbers of one value have one length. -/
theorem pv_len {xs ys : List Int} (hx : Rng xs) (hy : Rng ys) {n m : Nat} (h : pv xs n = pv ys m) : nl xs n = nl ys m := by
  have key : ∀ {xs ys : List Int} (_ : Rng xs) (_ : Rng ys) {n m : Nat}, pv xs n = pv ys m → nl xs n ≤ nl ys m := by
    intro xs ys hx hy n m h
    by_cases hc : nl xs n ≤ nl ys m
    · exact hc
    · exfalso
      obtain ⟨k, hk⟩ : ∃ k, nl xs n = k + 1 := ⟨nl xs n - 1, by omega⟩
      have h1 := pv_top hx (nl_last hk)
      rw [← hk, pv_nl] at h1
      have h2 := (pv_bound hy (nl ys m)).2
      rw [pv_nl] at h2
      have h3 := Bp_mono (i := nl ys m) (j := k) (by omega)
      omega
  exact Nat.le_antisymm (key hx hy h) (key hy hx h.symm)

/-- Of one value and one length: limb for limb the same. -/
theorem pv_inj {xs ys : List Int} (hx : Rng xs) (hy : Rng ys) : ∀ {n : Nat}, pv xs n = pv ys n → ∀ j, j < n → xs[j]?.getD 0 = ys[j]?.getD 0
  | 0, _, j, hj => by omega
  | n + 1, h, j, hj => by
    simp only [pv] at h
    have b1 := pv_bound hx n
    have b2 := pv_bound hy n
    have hp := Bp_pos n
    have he : xs[n]?.getD 0 = ys[n]?.getD 0 := by
      rcases Int.lt_trichotomy (xs[n]?.getD 0) (ys[n]?.getD 0) with hl | he | hl
      · exfalso
        have : (xs[n]?.getD 0 + 1) * Bp n ≤ ys[n]?.getD 0 * Bp n := Int.mul_le_mul_of_nonneg_right (by omega) (by omega)
        rw [Int.add_mul] at this
        omega
      · exact he
      · exfalso
        have : (ys[n]?.getD 0 + 1) * Bp n ≤ xs[n]?.getD 0 * Bp n := Int.mul_le_mul_of_nonneg_right (by omega) (by omega)
        rw [Int.add_mul] at this
        omega
    by_cases hjn : j = n
    · subst hjn; exact he
    · exact pv_inj hx hy (n := n) (by rw [he] at h; omega) j (by omega)

/-- The comparison of the first k limbs, from the top. -/
def cmpFrom (xs ys : List Int) : Nat → Int
  | 0 => 0
  | k + 1 => if xs[k]?.getD 0 = ys[k]?.getD 0 then cmpFrom xs ys k else if xs[k]?.getD 0 < ys[k]?.getD 0 then -1 else 1
def ncmp (xs ys : List Int) : Int :=
  if nl xs xs.length = nl ys ys.length then cmpFrom xs ys (nl xs xs.length) else if nl xs xs.length < nl ys ys.length then -1 else 1

theorem cmpFrom_eq {xs ys : List Int} {k : Nat} (h : xs[k]?.getD 0 = ys[k]?.getD 0) : cmpFrom xs ys (k + 1) = cmpFrom xs ys k := by simp [cmpFrom, h]

theorem cmpFrom_lt {xs ys : List Int} (hx : Rng xs) (hy : Rng ys) : ∀ k, cmpFrom xs ys k < 0 ↔ pv xs k < pv ys k
  | 0 => by simp [cmpFrom, pv]
  | n + 1 => by
    have b1 := pv_bound hx n
    have b2 := pv_bound hy n
    have hp := Bp_pos n
    simp only [cmpFrom, pv]
    by_cases he : xs[n]?.getD 0 = ys[n]?.getD 0
    · rw [if_pos he, cmpFrom_lt hx hy n, he]; omega
    · rw [if_neg he]
      by_cases hl : xs[n]?.getD 0 < ys[n]?.getD 0
      · rw [if_pos hl]
        have : (xs[n]?.getD 0 + 1) * Bp n ≤ ys[n]?.getD 0 * Bp n := Int.mul_le_mul_of_nonneg_right (by omega) (by omega)
        rw [Int.add_mul] at this
        constructor
        · intro _; omega
        · intro _; omega
      · rw [if_neg hl]
        have : (ys[n]?.getD 0 + 1) * Bp n ≤ xs[n]?.getD 0 * Bp n := Int.mul_le_mul_of_nonneg_right (by omega) (by omega)
        rw [Int.add_mul] at this
        constructor
        · intro h; omega
        · intro h; omega

theorem nl_val_lt {xs ys : List Int} (hx : Rng xs) (hy : Rng ys) {n m : Nat} (h : nl xs n < nl ys m) : pv xs n < pv ys m := by
  obtain ⟨k, hk⟩ : ∃ k, nl ys m = k + 1 := ⟨nl ys m - 1, by omega⟩
  have h1 := pv_top hy (nl_last hk)
  rw [← hk, pv_nl] at h1
  have h2 := (pv_bound hx (nl xs n)).2
  rw [pv_nl] at h2
  have h3 := Bp_mono (i := nl xs n) (j := k) (by omega)
  omega

/-- The comparison is the comparison of the values. -/
theorem ncmp_lt_iff {xs ys : List Int} (hx : Rng xs) (hy : Rng ys) : ncmp xs ys < 0 ↔ pv xs xs.length < pv ys ys.length := by
  unfold ncmp
  by_cases he : nl xs xs.length = nl ys ys.length
  · rw [if_pos he, cmpFrom_lt hx hy, pv_nl, he, pv_nl]
  · rw [if_neg he]
    by_cases hl : nl xs xs.length < nl ys ys.length
    · rw [if_pos hl]
      have := nl_val_lt hx hy hl
      constructor
      · intro _; exact this
      · intro _; omega
    · rw [if_neg hl]
      have := nl_val_lt hy hx (n := ys.length) (m := xs.length) (by omega)
      constructor
      · intro h; omega
      · intro h; omega

end Go.Proofs.Qxb6500872aDoor
