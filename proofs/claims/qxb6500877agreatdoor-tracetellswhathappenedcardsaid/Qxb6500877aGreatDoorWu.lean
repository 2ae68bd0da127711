import Derived.Test.Qxb6500877aGreatDoorWt
set_option linter.unusedVariables false
set_option linter.unusedSimpArgs false
namespace Go.Proofs.Qxb6500877aGreatDoor
open Go.RowKit

theorem tz_bit {x : Nat} (h0 : 0 < x) (h1 : x < 18446744073709551616) : x.testBit (tz64 x) = true := by
  obtain ⟨_, m, hm⟩ := tzA_spec 64 x h0 (by rw [p64]; exact h1)
  have e : x = 2 ^ tz64 x * (2 * m + 1) := hm
  generalize tz64 x = t at e
  rw [e, Nat.testBit_eq_decide_div_mod_eq, Nat.mul_div_cancel_left _ (Nat.pos_of_ne_zero (by simp))]
  simp only [decide_eq_true_eq]
  omega

/-- How far the rows may still fall. -/
def pot (s : Wheel) : Nat := ((List.range 64).map (fun x => ((s.nd x).lv + 1).toNat)).sum
theorem sum_le (g h : Nat → Nat) : ∀ l : List Nat, (∀ x ∈ l, g x ≤ h x) → (l.map g).sum ≤ (l.map h).sum
  | [], _ => by simp
  | y :: l, hc => by
    have := sum_le g h l (fun x hx => hc x (by simp [hx]))
    have := hc y (by simp)
    simp only [List.map_cons, List.sum_cons]
    omega
theorem sum_lt (g h : Nat → Nat) : ∀ l : List Nat, (∀ x ∈ l, g x ≤ h x) → (∃ x ∈ l, g x < h x) → (l.map g).sum < (l.map h).sum
  | [], _, ⟨x, hx, _⟩ => by simp at hx
  | y :: l, hc, ⟨x, hx, hl⟩ => by
    have h1 := hc y (by simp)
    simp only [List.map_cons, List.sum_cons]
    rcases List.mem_cons.1 hx with rfl | hx
    · have := sum_le g h l (fun x hx => hc x (by simp [hx]))
      omega
    · have := sum_lt g h l (fun x hx => hc x (by simp [hx])) ⟨x, hx, hl⟩
      omega
theorem least_occ {o : Nat → Int} (h : ¬ ∀ k, k < 11 → o k = 0) : ∃ q, q < 11 ∧ o q ≠ 0 ∧ ∀ k, k < q → o k = 0 := by
  have key : ∀ n, n ≤ 11 → (∀ k, k < n → o k = 0) ∨ ∃ q, q < n ∧ o q ≠ 0 ∧ ∀ k, k < q → o k = 0 := by
    intro n
    induction n with
    | zero => intro _; exact .inl (fun k hk => by omega)
    | succ n ih =>
      intro hn
      rcases ih (by omega) with h1 | ⟨q, a, b, c⟩
      · by_cases e : o n = 0
        · refine .inl (fun k hk => ?_)
          by_cases ek : k = n
          · rw [ek]; exact e
          · exact h1 k (by omega)
        · exact .inr ⟨n, by omega, e, h1⟩
      · exact .inr ⟨q, by omega, b, c⟩
  rcases key 11 (by omega) with h1 | h1
  · exact absurd h1 h
  · exact h1
theorem WInv.empty {s : Wheel} {L : Option (Nat × Nat) → List Nat} {fr : List Nat} {f : Int → Option Int} {hand : List Nat} (I : WInv s L fr f hand) {k : Nat} (h : k < 11 → s.occ k = 0) (z : Nat) : L (some (k, z)) = [] := by
  by_cases hl : L (some (k, z)) = []
  · exact hl
  · obtain ⟨x, hx⟩ := List.exists_mem_of_ne_nil _ hl
    have hr : lOk (some (k, z)) := (I.mem _ x hx).1
    obtain ⟨m, h1, h2, h3⟩ := I.occ k hr.1
    have e : m = 0 := by have := h hr.1; omega
    subst e
    have := (h3 z hr.2).2 hl
    simp at this
theorem WInv.pNow {s : Wheel} {L : Option (Nat × Nat) → List Nat} {fr : List Nat} {f : Int → Option Int} {hand : List Nat} (I : WInv s L fr f hand) {m m' : Nat} (em : s.now = m) (hm' : m' < 18446744073709551616) (h : ∀ k z, L (some (k, z)) ≠ [] → m' / 64 ^ (k + 1) = m / 64 ^ (k + 1)) : WInv (s.pNow m') L fr f hand := by
  refine ⟨I.dll, I.nod, I.mem, I.hnd, I.hnod, NC_congr (s := s) (s' := s.pNow m') fr s.free (fun x _ => rfl) I.fre, I.frl, I.frn, I.live, I.map, I.ids, I.dls, I.cos, I.occ, ⟨m', rfl, hm'⟩, fun k z x hx d n hd hn => ?_, I.nid⟩
  have e : m' = n := by have : ((m' : Nat) : Int) = n := hn; omega
  subst e
  rw [h k z (List.ne_nil_of_mem hx)]
  exact I.dig k z x hx d m hd em
theorem div_up {a b q k : Nat} (h : a / 64 ^ (q + 1) = b / 64 ^ (q + 1)) (hk : q ≤ k) : a / 64 ^ (k + 1) = b / 64 ^ (k + 1) := by
  have e : 64 ^ (k + 1) = 64 ^ (q + 1) * 64 ^ (k - q) := by rw [← Nat.pow_add]; congr 1; omega
  rw [e, ← Nat.div_div_eq_div_mul, ← Nat.div_div_eq_div_mul, h]
theorem slot_facts {m d q z : Nat} (hz : z < 64) (h : d / 64 ^ q = m / 64 ^ (q + 1) * 64 + z) :
    m / 64 ^ (q + 1) * 64 ^ (q + 1) + z * 64 ^ q = d / 64 ^ q * 64 ^ q ∧ (m / 64 ^ (q + 1) * 64 ^ (q + 1) + z * 64 ^ q) / 64 ^ (q + 1) = m / 64 ^ (q + 1) ∧ m / 64 ^ (q + 1) * 64 ^ (q + 1) + z * 64 ^ q ≤ d ∧ (m / 64 ^ (q + 1) * 64 ^ (q + 1) + z * 64 ^ q) / 64 ^ q = d / 64 ^ q := by
  have hp : 0 < 64 ^ q := Nat.pos_of_ne_zero (by simp)
  have e1 : m / 64 ^ (q + 1) * 64 ^ (q + 1) + z * 64 ^ q = d / 64 ^ q * 64 ^ q := by
    rw [h, Nat.add_mul, Nat.mul_assoc, Nat.pow_succ, Nat.mul_comm (64 ^ q) 64]
  have e2 : d / 64 ^ q * 64 ^ q / 64 ^ q = d / 64 ^ q := Nat.mul_div_cancel _ hp
  refine ⟨e1, ?_, by rw [e1]; exact Nat.div_mul_le_self _ _, by rw [e1]; exact e2⟩
  rw [e1, Nat.pow_succ, ← Nat.div_div_eq_div_mul, e2, h, Nat.pow_succ]
  omega
theorem between_div {a b c q : Nat} (h1 : a ≤ b) (h2 : b ≤ c) (h : c / 64 ^ q = a / 64 ^ q) : b / 64 ^ q = a / 64 ^ q := by
  have := Nat.div_le_div_right (c := 64 ^ q) h1
  have := Nat.div_le_div_right (c := 64 ^ q) h2
  omega

/-- Where the time is on its way to a later reading. -/
structure AdvSt (w : World) (B n base til mb a : Nat) (s : Wheel) (L : Option (Nat × Nat) → List Nat) (fr : List Nat) (f : Int → Option Int) (l : List FiredS) (v : Value) (wr : World) : Prop where
  T : TimersAt wr B n s f
  I : WInv s L fr f []
  F : FiredAt wr base v l
  M : Mut3 B 1 1939 mb base w wr
  mb : s.mb = mb
  now : ∃ m : Nat, s.now = m ∧ m ≤ til
  len : l.length + a = fr.length
  co : ∀ e ∈ l, 0 ≤ e.core ∧ e.core < 4
  hb : base ≤ wr.heap.size
theorem AdvSt.short {w wr : World} {B n base til mb a : Nat} {s : Wheel} {L : Option (Nat × Nat) → List Nat} {fr : List Nat} {f : Int → Option Int} {l : List FiredS} {v : Value} (R : AdvSt w B n base til mb a s L fr f l v wr) : l.length < 100000 := by
  have h1 := R.len
  have h2 := nodup_le 64 fr R.I.frn (NC_lt _ _ R.I.fre)
  omega
theorem AdvSt.moved {w wr : World} {B n base til mb a m m' : Nat} {s : Wheel} {L : Option (Nat × Nat) → List Nat} {fr : List Nat} {f : Int → Option Int} {l : List FiredS} {v : Value} (R : AdvSt w B n base til mb a s L fr f l v wr) (em : s.now = m) (hB : B < base) (ht : til < 18446744073709551616) (hm' : m' ≤ til) (h : ∀ k z, L (some (k, z)) ≠ [] → m' / 64 ^ (k + 1) = m / 64 ^ (k + 1)) :
    AdvSt w B n base til mb a (s.pNow m') L fr f l v (wr.setCell ⟨B, 1, none⟩ (.int .u64 (m' : Int))) := by
  have M1 : Mut B 1 1939 wr (wr.setCell ⟨B, 1, none⟩ (.int .u64 (m' : Int))) := (Mut.refl B 1 1939 wr).setCell (by omega) (by omega) _
  exact ⟨⟨R.T.wh.putNow _, R.T.mp.cell R.T.ne _, R.T.ne⟩, R.I.pNow em (by omega) h, R.F.mut M1 hB, R.M.trans (M1.to3 R.hb), R.mb, ⟨m', rfl, hm'⟩, R.len, R.co, Nat.le_trans R.hb M1.size⟩
theorem AdvSt.opened {w wr w' : World} {B n base til mb a q z : Nat} {s s' : Wheel} {L L' : Option (Nat × Nat) → List Nat} {fr fr' : List Nat} {f f' : Int → Option Int} {l l' : List FiredS} {v v' : Value} {vi : Int} (R : AdvSt w B n base til mb a s L fr f l v wr) (hl : L (some (q, z)) ≠ []) (O : OpenSt wr B n base q s a (L (some (q, z))) (L (some (q, z))) [] vi s' L' fr' f' l' v' w') :
    AdvSt w B n base til mb a s' L' fr' f' l' v' w' ∧ pot s' < pot s := by
  have M := O.M
  rw [R.mb] at M
  refine ⟨⟨O.T, O.I, O.F, R.M.trans M, by rw [O.mb]; exact R.mb, by rw [O.now]; exact R.now, O.len, O.co, O.hb⟩, ?_⟩
  refine sum_lt _ _ _ (fun x _ => ?_) ?_
  · by_cases hx : x ∈ L (some (q, z))
    · have h1 := O.lv x hx
      have h2 : (s.nd x).lv = (q : Int) := (R.I.mem _ x hx).2.2.1
      show ((s'.nd x).lv + 1).toNat ≤ ((s.nd x).lv + 1).toNat
      omega
    · have h1 := O.lo x hx
      show ((s'.nd x).lv + 1).toNat ≤ ((s.nd x).lv + 1).toNat
      omega
  · obtain ⟨x, hx⟩ := List.exists_mem_of_ne_nil _ hl
    have h1 := O.lv x hx
    obtain ⟨_, h3, h2, _⟩ := R.I.mem _ x hx
    have h4 : (s.nd x).lv = (q : Int) := h2
    refine ⟨x, by simp; exact h3, ?_⟩
    show ((s'.nd x).lv + 1).toNat < ((s.nd x).lv + 1).toNat
    omega
theorem TabAt.mut3 {w w' : World} {b lo hi m base : Nat} (h : TabAt w) (M : Mut3 b lo hi m base w w') (hb : 2 < b) (hm : 2 < m) (hbase : 2 < base) : TabAt w' := fun k hk => M.far (by omega) (by omega) hbase (h k hk)

end Go.Proofs.Qxb6500877aGreatDoor
