/-
  PLAIN MATHEMATICS: decimal texts. No Go in sight. A text is the list of its bytes, as numbers.
-/
import Derived.Test.Qxb6500872aDoorNumC
namespace Go.Proofs.Qxb6500872aDoor

/-- The powers of ten. -/
def Tp : Nat → Int
  | 0 => 1
  | k + 1 => 10 * Tp k
theorem Tp_pos : ∀ k, 0 < Tp k
  | 0 => by decide
  | k + 1 => by have := Tp_pos k; simp only [Tp]; omega
theorem Tp_add (i : Nat) : ∀ j, Tp (i + j) = Tp i * Tp j
  | 0 => by simp [Tp]
  | j + 1 => by
    show 10 * Tp (i + j) = Tp i * (10 * Tp j)
    rw [Tp_add i j]; grind
theorem Tp_mono {i j : Nat} (h : i ≤ j) : Tp i ≤ Tp j := by
  induction j with
  | zero => have : i = 0 := by omega
            subst this; exact Int.le_refl _
  | succ j ih =>
    by_cases hij : i = j + 1
    · subst hij; exact Int.le_refl _
    · have := ih (by omega)
      have hp := Tp_pos j
      simp only [Tp]; omega

/-- The number that a text of digits writes. -/
def dval : List Int → Int
  | [] => 0
  | c :: l => (c - 48) * Tp l.length + dval l
def Dig (l : List Int) : Prop := ∀ c ∈ l, 48 ≤ c ∧ c ≤ 57

theorem Dig.tail {c : Int} {l : List Int} (h : Dig (c :: l)) : Dig l := fun x hx => h x (List.mem_cons_of_mem _ hx)
theorem Dig.head {c : Int} {l : List Int} (h : Dig (c :: l)) : 48 ≤ c ∧ c ≤ 57 := h c (List.mem_cons_self ..)

theorem dval_bound : ∀ {l : List Int}, Dig l → 0 ≤ dval l ∧ dval l < Tp l.length
  | [], _ => by simp [dval, Tp]
  | c :: l, h => by
    have ih := dval_bound h.tail
    have hc := h.head
    have hp := Tp_pos l.length
    simp only [dval, List.length_cons, Tp]
    have h1 : 0 ≤ (c - 48) * Tp l.length := Int.mul_nonneg (by omega) (by omega)
    have h2 : (c - 48) * Tp l.length ≤ 9 * Tp l.length := Int.mul_le_mul_of_nonneg_right (by omega) (by omega)
    constructor <;> omega

theorem dval_append : ∀ (a b : List Int), dval (a ++ b) = dval a * Tp b.length + dval b
  | [], b => by simp [dval]
  | c :: a, b => by
    simp only [List.cons_append, dval, List.length_append]
    rw [dval_append a b, Tp_add]; grind

/-- A text as it is printed: digits, no zero ahead but for zero's own. -/
def Canon (l : List Int) : Prop := l ≠ [] ∧ Dig l ∧ (l.head? = some 48 → l = [48])

theorem same_text : ∀ {a b : List Int}, Dig a → Dig b → a.length = b.length → dval a = dval b → a = b
  | [], [], _, _, _, _ => rfl
  | [], _ :: _, _, _, h, _ => by simp at h
  | _ :: _, [], _, _, h, _ => by simp at h
  | c :: a, d :: b, ha, hb, hl, hv => by
    have hl' : a.length = b.length := by simpa using hl
    simp only [dval] at hv
    rw [hl'] at hv
    have b1 := dval_bound ha.tail
    have b2 := dval_bound hb.tail
    rw [hl'] at b1
    have hp := Tp_pos b.length
    have he : c = d := by
      rcases Int.lt_trichotomy c d with h | h | h
      · exfalso
        have : (c - 48 + 1) * Tp b.length ≤ (d - 48) * Tp b.length := Int.mul_le_mul_of_nonneg_right (by omega) (by omega)
        rw [Int.add_mul] at this
        omega
      · exact h
      · exfalso
        have : (d - 48 + 1) * Tp b.length ≤ (c - 48) * Tp b.length := Int.mul_le_mul_of_nonneg_right (by omega) (by omega)
        rw [Int.add_mul] at this
        omega
    subst he
    rw [same_text ha.tail hb.tail hl' (by omega)]

theorem canon_low {c : Int} {l : List Int} (h : Canon (c :: l)) (hl : 0 < l.length) : Tp l.length ≤ dval (c :: l) := by
  have hc := h.2.1.head
  have hne : c ≠ 48 := by
    intro e
    subst e
    have := h.2.2 rfl
    simp at this
    subst this
    simp at hl
  have b := dval_bound h.2.1.tail
  simp only [dval]
  have : 1 * Tp l.length ≤ (c - 48) * Tp l.length := Int.mul_le_mul_of_nonneg_right (by omega) (by have := Tp_pos l.length; omega)
  omega

/-- One number, one printed text. -/
theorem canon_unique {a b : List Int} (ha : Canon a) (hb : Canon b) (h : dval a = dval b) : a = b := by
  have key : ∀ {a b : List Int}, Canon a → Canon b → dval a = dval b → ¬ a.length < b.length := by
    intro a b ha hb h hlt
    match b, hb, hlt with
    | [], hb, _ => exact hb.1 rfl
    | d :: b, hb, hlt =>
      have hal : 0 < a.length := by
        match a, ha with
        | [], ha => exact absurd rfl ha.1
        | _ :: _, _ => simp
      have hbl : 0 < b.length := by simp at hlt; omega
      have h1 := canon_low hb hbl
      have h2 := (dval_bound ha.2.1).2
      have h3 := Tp_mono (i := a.length) (j := b.length) (by simp at hlt; omega)
      omega
  have h1 := key ha hb h
  have h2 := key hb ha h.symm
  exact same_text ha.2.1 hb.2.1 (by omega) h

/-- A base's power is no greater than ten's. -/
theorem Bp_le_Tp : ∀ n, Bp n ≤ Tp (10 * n)
  | 0 => by decide
  | n + 1 => by
    have ih := Bp_le_Tp n
    rw [show 10 * (n + 1) = 10 * n + 10 by omega, Tp_add]
    have e : Tp 10 = 10000000000 := by decide
    have hp := Bp_pos n
    rw [e]
    simp only [Bp]
    omega

theorem room_left {V R : Int} {n t : Nat} (h : R * Tp t ≤ V) (hR : 1 ≤ R) (hV : V < Bp n) : t < 10 * n := by
  by_cases hc : t < 10 * n
  · exact hc
  · exfalso
    have h1 := Bp_le_Tp n
    have h2 := Tp_mono (i := 10 * n) (j := t) (by omega)
    have h3 : 1 * Tp t ≤ R * Tp t := Int.mul_le_mul_of_nonneg_right hR (by have := Tp_pos t; omega)
    omega

theorem drop_set_self {l : List Int} {p : Nat} (hp : p < l.length) (v : Int) : (l.set p v).drop p = v :: l.drop (p + 1) := by
  rw [List.drop_eq_getElem_cons (by simpa using hp)]
  simp [List.drop_set]

/-- The inner loop of the printing: one digit more. -/
theorem print_step {V R c D : Int} {m k : Nat} (hk : k < 9) (h : V = (R * Tp (9 - k) + c) * Tp (m + k) + D) : V = (R * Tp (9 - (k + 1)) + c / 10) * Tp (m + (k + 1)) + ((48 + c % 10 - 48) * Tp (m + k) + D) := by
  have e1 : Tp (9 - k) = 10 * Tp (9 - (k + 1)) := by
    rw [show 9 - k = (9 - (k + 1)) + 1 by omega]; rfl
  have e2 : Tp (m + (k + 1)) = 10 * Tp (m + k) := rfl
  rw [h, e1, e2]
  have hd := Int.mul_ediv_add_emod c 10
  generalize c / 10 = q at *
  generalize c % 10 = r at *
  generalize Tp (9 - (k + 1)) = A
  generalize Tp (m + k) = B
  grind
end Go.Proofs.Qxb6500872aDoor
