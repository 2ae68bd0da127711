import Derived.Test.Qxb6500872aDoorWm
set_option linter.unusedVariables false
namespace Go.Proofs.Qxb6500872aDoor
open Go.RowKit

/-- A text without its sign. -/
def strip : List Int → Bool × List Int
  | [] => (false, [])
  | c :: r => if c = 43 then (false, r) else if c = 45 then (true, r) else (false, c :: r)

def Digs (l : List Int) : Prop := l ≠ [] ∧ Dig l

def PIRet (l : List Int) (E : Value) (e : Ending) (w' : World) : Prop :=
  (Digs (strip l).2 ∧ ∃ m p k zs, e = .returned (.tuple #[.agg #[.bool m, .slice p k k], .nilIface]) ∧ Limbs w' p k k zs ∧ nl zs k = k ∧ pv zs k = dval (strip l).2 ∧ m = ((strip l).1 && decide (0 < k)) ∧ k ≤ l.length / 9 + 1) ∨
  (¬ Digs (strip l).2 ∧ e = .returned (.tuple #[.agg #[.bool false, .slice none 0 0], E]))

theorem tx_head (s : ByteArray) (h : 0 < s.size) : tx s = (s[0].toNat : Int) :: tx (s.extract 1 s.size) := by
  rw [tx_extract]
  have h1 : 0 < (tx s).length := by rw [tx_len]; exact h
  have h2 := tx_get s h
  rw [List.getElem?_eq_getElem h1] at h2
  simp only [Option.getD_some] at h2
  rw [← h2]
  have := List.drop_eq_getElem_cons h1
  simpa using this

/-- The rest of ParseInt, behind the sign. -/
theorem pi_ok {l l' : List Int} {b : Bool} {E : Value} {w2 : World} {p : Option Addr} {k : Nat} {zs : List Int} (hst : strip l = (b, l')) (hd : Digs l') (hZ : Limbs w2 p k k zs) (hnz : nl zs k = k) (hpv : pv zs k = dval l') (hk : k ≤ l'.length / 9 + 1) (hll : l'.length ≤ l.length) :
    PIRet l E (.returned (.tuple #[.agg #[.bool (b && decide (0 < k)), .slice p k k], .nilIface])) w2 := by
  refine .inl ⟨by rw [hst]; exact hd, _, _, _, _, rfl, hZ, hnz, by rw [hst]; exact hpv, by rw [hst], by omega⟩

set_option maxHeartbeats 2000000 in
theorem parseInt_any {s : ByteArray} {w : World} {t : TypeId} {v : Value} (hs : s.size ≤ 2000000) (hE : w.cell? ⟨1, 0, none⟩ = some (.iface t v)) :
    Calls Tryd.prog 6 #[.string s] w fun e w' => PIRet (tx s) (.iface t v) e w' ∧ Below w.heap.size w w' := by
  have hB0 := one_alloc w (.cells #[.bool false, .slice none 0 0] 28)
  have hE0 := cell_later hB0 hE
  have k0 : (w.alloc (.cells #[.bool false, .slice none 0 0] 28)).cell? ⟨w.heap.size, 0, none⟩ = some (.bool false) := by simp
  have k1 : (w.alloc (.cells #[.bool false, .slice none 0 0] 28)).cell? ⟨w.heap.size, 1, none⟩ = some (.slice none 0 0) := by simp
  have g0 : (w.alloc (.cells #[.bool false, .slice none 0 0] 28)).frozen? ⟨w.heap.size, 0, none⟩ = false := by simp
  have g1 : (w.alloc (.cells #[.bool false, .slice none 0 0] 28)).frozen? ⟨w.heap.size, 1, none⟩ = false := by simp
  have hx : s.size = 0 ∨ ∃ h : 0 < s.size, (s[0].toNat : Int) = 43 ∨ (s[0].toNat : Int) = 45 ∨ ((s[0].toNat : Int) ≠ 43 ∧ (s[0].toNat : Int) ≠ 45) := by
    by_cases h : s.size = 0
    · exact .inl h
    · exact .inr ⟨by omega, by omega⟩
  have hsE : (s.extract 1 s.size).size ≤ s.size := by rw [← tx_len, tx_extract, List.length_drop, tx_len]; omega
  rcases hx with h0 | ⟨hp, h43 | h45 | ⟨hn43, hn45⟩⟩
  · have HST : Hid (strip (tx s) = (false, tx s)) := by
      show _ = _
      have : tx s = [] := List.length_eq_zero_iff.1 (by rw [tx_len, h0])
      rw [this]; rfl
    have hd : ¬ (0 : Int) < (s.size : Int) := by omega
    clear h0
    go_enter Tryd.func6, Tryd.ntmps6
    go_wp2_with fail
    refine (parseNat_any (s := s) (by omega) hE0).mono ?_
    rintro e w2 ⟨hP, hb2⟩
    rcases hP with ⟨hne, hdg, p, k, zs, rfl, hZ, hnz, hpv, hk⟩ | ⟨hdg, rfl⟩
    · have HNZ : Hid (nl zs k = k) := hnz
      have HPV : Hid (pv zs k = dval (tx (s))) := hpv
      have HD : Hid (Digs (tx (s))) := ⟨hne, hdg⟩
      clear hnz hpv hne hdg
      go_wp2_with fail
      refine (makeInt_any hZ).mono ?_
      rw [HNZ.out]
      rintro e w3 ⟨rfl, hb3⟩
      obtain ⟨c0, c1, f0, f1⟩ := kept2 (chain hb2 hb3) (b := w.heap.size) k0 k1 g0 g1
      go_wp2
      exact bodyPost_ret (v := .tuple #[.agg #[.bool (false && decide (0 < k)), .slice p k k], .nilIface]) (by simp [results, Tryd.results6, go_sem, c0, c1]) rfl
        ⟨pi_ok HST.out HD.out ((hZ.below hb3).store2 c0 c1 _ _) HNZ.out HPV.out hk (by simp only [tx_len]; omega), ((chain hB0 (chain hb2 hb3)).setCell (Nat.le_refl _) _).setCell (Nat.le_refl _) _⟩
    · obtain ⟨c0, c1, f0, f1⟩ := kept2 hb2 (b := w.heap.size) k0 k1 g0 g1
      have HD : Hid (¬ Digs (tx (s))) := hdg
      clear hdg
      go_wp2
      exact bodyPost_ret (v := .tuple #[.agg #[.bool false, .slice none 0 0], .iface t v]) (by simp [results, Tryd.results6, go_sem, c0, c1]) rfl
        ⟨.inr ⟨by rw [HST.out]; exact HD.out, rfl⟩, ((chain hB0 hb2).setCell (Nat.le_refl _) _).setCell (Nat.le_refl _) _⟩
  · have HST : Hid (strip (tx s) = (false, tx (s.extract 1 s.size))) := by
      show _ = _
      rw [tx_head s hp, h43]; rfl
    go_enter Tryd.func6, Tryd.ntmps6
    go_wp2_with fail
    refine (parseNat_any (s := s.extract 1 s.size) (by omega) hE0).mono ?_
    rintro e w2 ⟨hP, hb2⟩
    rcases hP with ⟨hne, hdg, p, k, zs, rfl, hZ, hnz, hpv, hk⟩ | ⟨hdg, rfl⟩
    · have HNZ : Hid (nl zs k = k) := hnz
      have HPV : Hid (pv zs k = dval (tx (s.extract 1 s.size))) := hpv
      have HD : Hid (Digs (tx (s.extract 1 s.size))) := ⟨hne, hdg⟩
      clear hnz hpv hne hdg
      go_wp2_with fail
      refine (makeInt_any hZ).mono ?_
      rw [HNZ.out]
      rintro e w3 ⟨rfl, hb3⟩
      obtain ⟨c0, c1, f0, f1⟩ := kept2 (chain hb2 hb3) (b := w.heap.size) k0 k1 g0 g1
      go_wp2
      exact bodyPost_ret (v := .tuple #[.agg #[.bool (false && decide (0 < k)), .slice p k k], .nilIface]) (by simp [results, Tryd.results6, go_sem, c0, c1]) rfl
        ⟨pi_ok HST.out HD.out ((hZ.below hb3).store2 c0 c1 _ _) HNZ.out HPV.out hk (by simp only [tx_len]; omega), ((chain hB0 (chain hb2 hb3)).setCell (Nat.le_refl _) _).setCell (Nat.le_refl _) _⟩
    · obtain ⟨c0, c1, f0, f1⟩ := kept2 hb2 (b := w.heap.size) k0 k1 g0 g1
      have HD : Hid (¬ Digs (tx (s.extract 1 s.size))) := hdg
      clear hdg
      go_wp2
      exact bodyPost_ret (v := .tuple #[.agg #[.bool false, .slice none 0 0], .iface t v]) (by simp [results, Tryd.results6, go_sem, c0, c1]) rfl
        ⟨.inr ⟨by rw [HST.out]; exact HD.out, rfl⟩, ((chain hB0 hb2).setCell (Nat.le_refl _) _).setCell (Nat.le_refl _) _⟩
  · have HST : Hid (strip (tx s) = (true, tx (s.extract 1 s.size))) := by
      show _ = _
      rw [tx_head s hp, h45]; rfl
    go_enter Tryd.func6, Tryd.ntmps6
    go_wp2_with fail
    refine (parseNat_any (s := s.extract 1 s.size) (by omega) hE0).mono ?_
    rintro e w2 ⟨hP, hb2⟩
    rcases hP with ⟨hne, hdg, p, k, zs, rfl, hZ, hnz, hpv, hk⟩ | ⟨hdg, rfl⟩
    · have HNZ : Hid (nl zs k = k) := hnz
      have HPV : Hid (pv zs k = dval (tx (s.extract 1 s.size))) := hpv
      have HD : Hid (Digs (tx (s.extract 1 s.size))) := ⟨hne, hdg⟩
      clear hnz hpv hne hdg
      go_wp2_with fail
      refine (makeInt_any hZ).mono ?_
      rw [HNZ.out]
      rintro e w3 ⟨rfl, hb3⟩
      obtain ⟨c0, c1, f0, f1⟩ := kept2 (chain hb2 hb3) (b := w.heap.size) k0 k1 g0 g1
      go_wp2
      exact bodyPost_ret (v := .tuple #[.agg #[.bool (true && decide (0 < k)), .slice p k k], .nilIface]) (by simp [results, Tryd.results6, go_sem, c0, c1]) rfl
        ⟨pi_ok HST.out HD.out ((hZ.below hb3).store2 c0 c1 _ _) HNZ.out HPV.out hk (by simp only [tx_len]; omega), ((chain hB0 (chain hb2 hb3)).setCell (Nat.le_refl _) _).setCell (Nat.le_refl _) _⟩
    · obtain ⟨c0, c1, f0, f1⟩ := kept2 hb2 (b := w.heap.size) k0 k1 g0 g1
      have HD : Hid (¬ Digs (tx (s.extract 1 s.size))) := hdg
      clear hdg
      go_wp2
      exact bodyPost_ret (v := .tuple #[.agg #[.bool false, .slice none 0 0], .iface t v]) (by simp [results, Tryd.results6, go_sem, c0, c1]) rfl
        ⟨.inr ⟨by rw [HST.out]; exact HD.out, rfl⟩, ((chain hB0 hb2).setCell (Nat.le_refl _) _).setCell (Nat.le_refl _) _⟩
  · have HST : Hid (strip (tx s) = (false, tx s)) := by
      show _ = _
      rw [tx_head s hp]
      simp [strip, hn43, hn45]
    have hb43 : ((s[0].toNat : Int) == 43) = false := by simp [hn43]
    have hb45 : ((s[0].toNat : Int) == 45) = false := by simp [hn45]
    clear hn43 hn45
    go_enter Tryd.func6, Tryd.ntmps6
    go_wp2_with fail
    refine (parseNat_any (s := s) (by omega) hE0).mono ?_
    rintro e w2 ⟨hP, hb2⟩
    rcases hP with ⟨hne, hdg, p, k, zs, rfl, hZ, hnz, hpv, hk⟩ | ⟨hdg, rfl⟩
    · have HNZ : Hid (nl zs k = k) := hnz
      have HPV : Hid (pv zs k = dval (tx (s))) := hpv
      have HD : Hid (Digs (tx (s))) := ⟨hne, hdg⟩
      clear hnz hpv hne hdg
      go_wp2_with fail
      refine (makeInt_any hZ).mono ?_
      rw [HNZ.out]
      rintro e w3 ⟨rfl, hb3⟩
      obtain ⟨c0, c1, f0, f1⟩ := kept2 (chain hb2 hb3) (b := w.heap.size) k0 k1 g0 g1
      go_wp2
      exact bodyPost_ret (v := .tuple #[.agg #[.bool (false && decide (0 < k)), .slice p k k], .nilIface]) (by simp [results, Tryd.results6, go_sem, c0, c1]) rfl
        ⟨pi_ok HST.out HD.out ((hZ.below hb3).store2 c0 c1 _ _) HNZ.out HPV.out hk (by simp only [tx_len]; omega), ((chain hB0 (chain hb2 hb3)).setCell (Nat.le_refl _) _).setCell (Nat.le_refl _) _⟩
    · obtain ⟨c0, c1, f0, f1⟩ := kept2 hb2 (b := w.heap.size) k0 k1 g0 g1
      have HD : Hid (¬ Digs (tx (s))) := hdg
      clear hdg
      go_wp2
      exact bodyPost_ret (v := .tuple #[.agg #[.bool false, .slice none 0 0], .iface t v]) (by simp [results, Tryd.results6, go_sem, c0, c1]) rfl
        ⟨.inr ⟨by rw [HST.out]; exact HD.out, rfl⟩, ((chain hB0 hb2).setCell (Nat.le_refl _) _).setCell (Nat.le_refl _) _⟩
end Go.Proofs.Qxb6500872aDoor
