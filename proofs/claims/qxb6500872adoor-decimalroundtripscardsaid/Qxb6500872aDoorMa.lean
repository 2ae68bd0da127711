import Derived.Test.Qxb6500872aDoorWs
set_option linter.unusedVariables false
namespace Go.Proofs.Qxb6500872aDoor
open Go.RowKit

theorem strip_canon {l : List Int} (h : Canon l) : strip l = (false, l) := by
  match l, h with
  | [], h => exact absurd rfl h.1
  | c :: r, h =>
    have hc := h.2.1.head
    simp only [strip]
    rw [if_neg (by omega), if_neg (by omega)]
theorem strip_minus (l : List Int) : strip (45 :: l) = (true, l) := by simp [strip]

theorem sgn_neg {m : Bool} {xs : List Int} {n : Nat} (h : xs.length = n) : sgn m xs < 0 ↔ (m && decide (0 < nl xs n)) = true := by
  subst h
  unfold sgn
  by_cases h0 : nl xs xs.length = 0
  · simp [h0]
  · cases m <;> simp [h0] <;> omega

/-- A register's text. -/
def TextOf (m : Bool) (xs : List Int) (n : Nat) (s : ByteArray) : Prop :=
  ∃ l, Canon l ∧ dval l = pv xs n ∧ tx s = (if (m && decide (0 < nl xs n)) = true then 45 :: l else l) ∧ s.size ≤ n * 10 + 10

theorem istring_txt {m : Bool} {a : Option Addr} {n c : Nat} {xs : List Int} {w : World} (h : Limbs w a n c xs) (hn : n ≤ 100000) :
    Calls Tryd.prog 7 #[.agg #[.bool m, .slice a n c]] w fun e w' => (∃ s, e = .returned (.string s) ∧ TextOf m xs n s) ∧ Below w.heap.size w w' := by
  refine (istring_any h hn).mono ?_
  rintro e w' ⟨⟨l, rfl, hl, hv, hlen⟩, hb⟩
  have key : tx (strOfNums (if sgn m xs < 0 then 45 :: l else l)) = (if (m && decide (0 < nl xs n)) = true then 45 :: l else l) := by
    by_cases hs : sgn m xs < 0
    · rw [if_pos hs, if_pos ((sgn_neg h.len).1 hs)]
      refine tx_strOf fun c hc => ?_
      rcases List.mem_cons.1 hc with rfl | hc
      · omega
      · have := hl.2.1 c hc; omega
    · rw [if_neg hs, if_neg (fun hc => hs ((sgn_neg h.len).2 hc))]
      exact tx_strOf fun c hc => by have := hl.2.1 c hc; omega
  refine ⟨⟨_, rfl, l, hl, hv, key, ?_⟩, hb⟩
  rw [← tx_len, key]
  split
  · simp; omega
  · omega

theorem TextOf.strip {m : Bool} {xs : List Int} {n : Nat} {s : ByteArray} (h : TextOf m xs n s) : ∃ l, Canon l ∧ dval l = pv xs n ∧ strip (tx s) = (m && decide (0 < nl xs n), l) := by
  obtain ⟨l, hl, hv, ht, _⟩ := h
  refine ⟨l, hl, hv, ?_⟩
  rw [ht]
  by_cases hm : (m && decide (0 < nl xs n)) = true
  · rw [if_pos hm, strip_minus, hm]
  · rw [if_neg hm, strip_canon hl]
    simp only [Bool.not_eq_true] at hm
    rw [hm]

/-- A register's text, read back. -/
theorem parse_back {m : Bool} {s : ByteArray} {w : World} {t : TypeId} {v : Value} {xs : List Int} {n : Nat} (h : TextOf m xs n s) (hx : Rng xs) (hlen : xs.length = n) (hn : n ≤ 100000) (hE : w.cell? ⟨1, 0, none⟩ = some (.iface t v)) :
    Calls Tryd.prog 6 #[.string s] w fun e w' => (∃ p zs, e = .returned (.tuple #[.agg #[.bool (m && decide (0 < nl xs n)), .slice p (nl xs n) (nl xs n)], .nilIface]) ∧ Limbs w' p (nl xs n) (nl xs n) zs ∧
      nl zs (nl xs n) = nl xs n ∧ ∀ j, j < nl xs n → zs[j]?.getD 0 = (norm xs)[j]?.getD 0) ∧ Below w.heap.size w w' := by
  have hsz : s.size ≤ 2000000 := by obtain ⟨_, _, _, _, h4⟩ := h; omega
  obtain ⟨l, hl, hv, hst⟩ := h.strip
  refine (parseInt_any hsz hE).mono ?_
  rintro e w' ⟨hr, hb⟩
  refine ⟨?_, hb⟩
  rcases hr with ⟨hd, m', p, k, zs, rfl, hz, hk, hpv, hm', _⟩ | ⟨hd, _⟩
  · rw [hst] at hpv hm'
    have hk' : k = nl xs n := by
      have := pv_len hz.rng hx (n := k) (m := n) (hpv.trans hv)
      omega
    subst hk'
    have hm2 : m' = (m && decide (0 < nl xs n)) := by rw [hm']; cases m <;> simp
    subst hm2
    refine ⟨p, zs, rfl, hz, hk, fun j hj => ?_⟩
    have hN : pv zs (nl xs n) = pv (norm xs) (nl xs n) := by
      rw [hpv]; show dval l = _
      rw [hv, ← pv_normed hlen, norm_length, hlen]
    have hr : Rng (norm xs) := fun j => by
      unfold norm
      rw [getD_take_any]; split
      · exact hx j
      · omega
    exact pv_inj hz.rng hr hN j hj
  · exact absurd (show Digs l from ⟨hl.1, hl.2.1⟩) (by rw [hst] at hd; exact hd)

/-- The read-back number is normal. -/
theorem normal_ok {m : Bool} {a : Option Addr} {k c : Nat} {zs : List Int} {w : World} (h : Limbs w a k c zs) (hk : nl zs k = k) (hm : k = 0 → m = false) :
    Calls Tryd.prog 10 #[.agg #[.bool m, .slice a k c]] w fun e w' => e = .returned (.bool true) ∧ Below w.heap.size w w' := by
  refine (normal_any h).mono ?_
  rintro e w' ⟨rfl, hb⟩
  refine ⟨ret_bool ?_, hb⟩
  by_cases h0 : k = 0
  · rw [if_pos h0, hm h0]; rfl
  · rw [if_neg h0]; simpa using nl_full hk (by omega)

/-- A text that was read, and the register's text. -/
theorem canon_text {m : Bool} {zs : List Int} {k : Nat} {s r t : ByteArray} {lr : List Int} (hr : Rng zs) (h : TextOf m zs k t) (hk : nl zs k = k) (hv : pv zs k = dval (strip (tx s)).2)
    (hm : m = ((strip (tx s)).1 && decide (0 < k))) (hc : Canon lr) (hd : dval lr = dval (strip (tx s)).2) (ht : tx r = if (strip (tx s)).1 && decide (dval lr ≠ 0) then 45 :: lr else lr) : t = r := by
  obtain ⟨l, hl, hlv, hlt, _⟩ := h
  have he : l = lr := canon_unique hl hc (by rw [hlv, hv, hd])
  subst he
  refine tx_inj ?_
  rw [hlt, ht, hk, hm]
  have hz : decide (dval l ≠ 0) = decide (0 < k) := by
    rw [hlv]
    rcases Nat.eq_zero_or_pos k with h0 | h0
    · subst h0; simp [pv]
    · have h1 : pv zs k ≠ 0 := by
        obtain ⟨j, rfl⟩ : ∃ j, k = j + 1 := ⟨k - 1, by omega⟩
        have := pv_top hr (nl_last hk)
        have := Bp_pos j
        omega
      simp [h0, h1]
  rw [hz]
  cases (strip (tx s)).1 <;> simp
end Go.Proofs.Qxb6500872aDoor
