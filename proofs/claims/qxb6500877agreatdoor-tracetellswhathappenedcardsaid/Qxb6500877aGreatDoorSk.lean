import Derived.Test.Qxb6500877aGreatDoorSj
import Derived.Test.Qxb6500877aGreatDoorSe
import Derived.Test.Qxb6500877aGreatDoorSf
import Derived.Test.Qxb6500877aGreatDoorSg
import Derived.Test.Qxb6500877aGreatDoorSh
set_option linter.unusedVariables false
set_option linter.unusedSimpArgs false
namespace Go.Proofs.Qxb6500877aGreatDoor
open Go.RowKit

def here (n : TaskN) (c : Nat) : Nat := if n.st ≠ 0 ∧ n.home = c then 1 else 0
/-- The tasks at home on a core. -/
def cnt (s : Sched) (c : Nat) : Nat := ((List.range 16).map (fun x => here (s.tk x) c)).sum
theorem sumAt (g g' : Nat → Nat) (t : Nat) : ∀ l : List Nat, l.Nodup → t ∈ l → (∀ x, x ≠ t → g' x = g x) → (l.map g').sum + g t = (l.map g).sum + g' t
  | [], _, h, _ => by simp at h
  | y :: l, hn, h, hc => by
    obtain ⟨h1, h2⟩ := List.nodup_cons.1 hn
    simp only [List.map_cons, List.sum_cons]
    by_cases e : y = t
    · subst e
      have : l.map g' = l.map g := List.map_congr_left (fun x hx => hc x (fun q => h1 (q ▸ hx)))
      rw [this]; omega
    · have hm : t ∈ l := by
        rcases List.mem_cons.1 h with q | q
        · exact absurd q.symm e
        · exact q
      have := sumAt g g' t l h2 hm hc
      rw [hc y e]; omega
theorem sumOnes (g : Nat → Nat) (hg : ∀ x, g x ≤ 1) : ∀ l : List Nat, (l.map g).sum ≤ l.length
  | [] => by simp
  | y :: l => by
    have := sumOnes g hg l
    have := hg y
    simp only [List.map_cons, List.sum_cons, List.length_cons]
    omega
theorem here_le (n : TaskN) (c : Nat) : here n c ≤ 1 := by unfold here; split <;> omega
theorem cnt_le (s : Sched) (c : Nat) : cnt s c ≤ 16 := by
  have := sumOnes (fun x => here (s.tk x) c) (fun x => here_le _ _) (List.range 16)
  simpa [cnt] using this
theorem cnt_at {s s' : Sched} {t c : Nat} (ht : t < 16) (h : ∀ x, x ≠ t → here (s'.tk x) c = here (s.tk x) c) : cnt s' c + here (s.tk t) c = cnt s c + here (s'.tk t) c :=
  sumAt (fun x => here (s.tk x) c) (fun x => here (s'.tk x) c) t _ List.nodup_range (by simpa using ht) h
theorem cnt_pos {s : Sched} {t c : Nat} (ht : t < 16) (h0 : (s.tk t).st ≠ 0) (hh : (s.tk t).home = c) : 0 < cnt s c := by
  have := cnt_at (s := s) (s' := s.setTk t ⟨0, 0, 0, 0, 0⟩) (c := c) ht (fun x hx => by simp [Sched.setTk, hx])
  have e : here (s.tk t) c = 1 := by simp [here, h0, hh]
  have e2 : here ((s.setTk t ⟨0, 0, 0, 0, 0⟩).tk t) c = 0 := by simp [here, Sched.setTk]
  omega
def LInv (s : Sched) : Prop := ∀ c, c < 4 → s.ld c = (cnt s c : Nat)
structure Same (s s' : Sched) : Prop where
  ld : s'.ld = s.ld
  tk : ∀ x, ((s'.tk x).st = 0 ↔ (s.tk x).st = 0) ∧ (s'.tk x).home = (s.tk x).home
theorem Same.refl (s : Sched) : Same s s := ⟨rfl, fun _ => ⟨Iff.rfl, rfl⟩⟩
theorem Same.trans {a b c : Sched} (h : Same a b) (k : Same b c) : Same a c := ⟨k.ld.trans h.ld, fun x => ⟨(k.tk x).1.trans (h.tk x).1, (k.tk x).2.trans (h.tk x).2⟩⟩
theorem Same.cnt {s s' : Sched} (h : Same s s') (c : Nat) : cnt s' c = cnt s c := by
  have : (fun x => here (s'.tk x) c) = (fun x => here (s.tk x) c) := by
    funext x
    obtain ⟨h1, h2⟩ := h.tk x
    unfold here
    by_cases e : (s.tk x).st = 0
    · simp [e, h1.2 e]
    · have : ¬ ((s'.tk x).st = 0) := fun q => e (h1.1 q)
      simp [e, this, h2]
  unfold Go.Proofs.Qxb6500877aGreatDoor.cnt
  rw [this]
theorem LInv.same {s s' : Sched} (h : LInv s) (k : Same s s') : LInv s' := fun c hc => by rw [k.ld, k.cnt c]; exact h c hc
theorem EnqEff.same {s s' : Sched} {t h b : Nat} {A : List Nat} (E : EnqEff s s' t h b A) (h0 : (s.tk t).st ≠ 0) : Same s s' := by
  refine ⟨E.ld, fun x => ?_⟩
  rw [E.tk x]
  by_cases e : x = t
  · subst e; rw [if_pos rfl]; simp [h0]
  · rw [if_neg e]; exact ⟨Iff.rfl, rfl⟩
theorem same_st {s : Sched} {t : Nat} {v : Int} (h0 : (s.tk t).st ≠ 0) (hv : v ≠ 0) : Same s (s.pSt t v) := by
  refine ⟨rfl, fun x => ?_⟩
  by_cases e : x = t
  · subst e; simp [Sched.pSt, Sched.setTk, h0, hv]
  · simp [Sched.pSt, Sched.setTk, e]
theorem same_band {s : Sched} {t : Nat} {v : Int} : Same s (s.pBand t v) := by
  refine ⟨rfl, fun x => ?_⟩
  by_cases e : x = t
  · subst e; simp [Sched.pBand, Sched.setTk]
  · simp [Sched.pBand, Sched.setTk, e]
theorem same_stand {s : Sched} {Q : Nat → Nat → List Nat} {t h b : Nat} (I : SInv s Q 16) (r : Row s t h b) : Same s (standDown s t h b) := by
  obtain ⟨_, _, _, h1, h2⟩ := I.stand r
  exact ⟨h1, fun x => ⟨by rw [(h2 x).1], (h2 x).2⟩⟩
/-- The scheduler in order. -/
def SOk (s : Sched) : Prop := (∃ Q, SInv s Q 16) ∧ LInv s
theorem SOk.ldb {s : Sched} (K : SOk s) {c : Nat} (hc : c < 4) : 0 ≤ s.ld c ∧ s.ld c < 1000 := by
  have := K.2 c hc
  have := cnt_le s c
  omega
theorem SOk.row {s : Sched} (K : SOk s) {t : Nat} (ht : t < 16) (h0 : (s.tk t).st ≠ 0) : ∃ h b, Row s t h b := by
  obtain ⟨⟨Q, I⟩, _⟩ := K
  rcases I.dom t ht (by omega) with q | ⟨h, b, h1, h2, h3, h4⟩
  · exact absurd q h0
  · exact ⟨h, b, ht, h1, h2, h3, h4⟩
theorem tz4_bit {m : Nat} (hm : m < 16) (h0 : 0 < m) : tz4 (m : Int) < 4 ∧ m.testBit (tz4 (m : Int)) = true := by
  have : ∀ m : Fin 16, 0 < m.val → tz4 (m.val : Int) < 4 ∧ m.val.testBit (tz4 (m.val : Int)) = true := by decide +kernel
  exact this ⟨m, hm⟩ h0

theorem SInv.serve {s : Sched} {Q : Nat → Nat → List Nat} {c : Nat} (I : SInv s Q 16) (hc : c < 4) (hcur : s.cur c = -1) (hq : ∃ b, b < 4 ∧ Q c b ≠ []) :
    ∃ x k : Nat, (0 < s.fl c ∧ s.fl c < 16) ∧ k = tz4 (s.fl c) ∧ s.hd c k = x ∧ Row s x c k ∧ DeqPre s x c k ∧ (∃ Q', SInv (((deq s x c k).pSt x 3).setCur c x) Q' 16) ∧ Same s (((deq s x c k).pSt x 3).setCur c x) := by
  obtain ⟨m, h1, h2, h3⟩ := I.fl c hc
  obtain ⟨b0, hb0, hq0⟩ := hq
  have hm : 0 < m := by
    refine Nat.pos_of_ne_zero (fun e => ?_)
    have := (h3 b0 hb0).2 hq0
    rw [e] at this
    simp at this
  obtain ⟨k4, hbit⟩ := tz4_bit h2 hm
  rw [← h1] at k4 hbit
  generalize hk : tz4 (s.fl c) = k at k4 hbit
  have hne := (h3 k k4).1 hbit
  obtain ⟨x, C, eQ⟩ := List.exists_cons_of_ne_nil hne
  have eQ' : Q c k = [] ++ x :: C := eQ
  obtain ⟨_, _, hx, _, hst, e1, e2⟩ := I.mem c k x (by rw [eQ]; simp)
  obtain ⟨J, E⟩ := deq_inv I hc k4 eQ'
  have hhd : s.hd c k = x := by
    have D := I.dll c k hc k4
    rw [eQ] at D
    exact D.1
  have r' : Row (deq s x c k) x c k := ⟨hx, hc, k4, by rw [E.tk x, if_pos rfl]; exact e1, by rw [E.tk x, if_pos rfl]; exact e2⟩
  have S1 : Same s (deq s x c k) := ⟨E.ld, fun y => by
    rw [E.tk y]
    by_cases e : y = x
    · subst e; rw [if_pos rfl]; exact ⟨Iff.rfl, rfl⟩
    · rw [if_neg e]; exact ⟨Iff.rfl, rfl⟩⟩
  have h0 : ((deq s x c k).tk x).st ≠ 0 := by rw [E.tk x, if_pos rfl]; show (s.tk x).st ≠ 0; omega
  have S2 : Same (deq s x c k) (((deq s x c k).pSt x 3).setCur c x) := ⟨rfl, (same_st h0 (by omega)).tk⟩
  exact ⟨x, k, by omega, rfl, hhd, ⟨hx, hc, k4, e1, e2⟩, I.deqPre hc k4 eQ', ⟨_, J.start r' (by rw [E.cur]; exact hcur)⟩, S1.trans S2⟩

theorem pick_ok {w : World} {B : Nat} {s : Sched} {c : Nat} (H : SchedAt w B s) (K : SOk s) (hc : c < 4) (hr : s.cur c ≠ -1 ∨ 0 < s.qn c) :
    Calls Tryz.prog 129 #[.pointer (some ⟨B, 6596, none⟩), .int .i64 (c : Int)] w fun e w' => (∃ (x : Nat) (s' : Sched), x < 16 ∧ e = .returned (.tuple #[.int .i64 (x : Int), .int .i64 (s.cur c)]) ∧ SchedAt w' B s' ∧ SOk s') ∧ Mut B 6596 6724 w w' := by
  obtain ⟨⟨Q, I⟩, L⟩ := K
  have go : ∀ (s1 : Sched) (Q1 : Nat → Nat → List Nat), (s.cur c = -1 ∧ s1 = s ∨ ∃ p b : Nat, s.cur c = p ∧ Row (s.setCur c (-1)) p c b ∧ EnqPre (s.setCur c (-1)) p c b ∧ s1 = enq (s.setCur c (-1)) p c b) → SInv s1 Q1 16 → Same s s1 → s1.cur c = -1 → (∃ b, b < 4 ∧ Q1 c b ≠ []) →
      Calls Tryz.prog 129 #[.pointer (some ⟨B, 6596, none⟩), .int .i64 (c : Int)] w fun e w' => (∃ (x : Nat) (s' : Sched), x < 16 ∧ e = .returned (.tuple #[.int .i64 (x : Int), .int .i64 (s.cur c)]) ∧ SchedAt w' B s' ∧ SOk s') ∧ Mut B 6596 6724 w w' := fun s1 Q1 h1 I1 S1 c1 q1 => by
    obtain ⟨x, k, g1, g2, g3, g4, g5, g6, g7⟩ := I1.serve hc c1 q1
    refine (pick_any H hc h1 g1 g2 g3 g4 g5).mono ?_
    rintro e w' ⟨rfl, H', M⟩
    exact ⟨⟨x, _, g4.ht, rfl, H', g6, L.same (S1.trans g7)⟩, M⟩
  rcases I.cur c hc with q | ⟨p, a1, a2, a3, a4, a5⟩
  · refine go s Q (.inl ⟨q, rfl⟩) I (Same.refl s) q ?_
    have hn : 0 < s.qn c := by
      rcases hr with h | h
      · exact absurd q h
      · exact h
    rw [I.qn c hc] at hn
    by_cases h0 : Q c 0 = []
    · by_cases h1 : Q c 1 = []
      · by_cases h2 : Q c 2 = []
        · by_cases h3 : Q c 3 = []
          · rw [h0, h1, h2, h3] at hn
            simp at hn
          · exact ⟨3, by omega, h3⟩
        · exact ⟨2, by omega, h2⟩
      · exact ⟨1, by omega, h1⟩
    · exact ⟨0, by omega, h0⟩
  · have J := I.halt a1 a4 hc a5
    rcases I.dom p a1 a2 with h0 | ⟨h, b, g1, g2, g3, g4⟩
    · omega
    · have e : h = c := by omega
      subst e
      have r : Row (s.setCur h (-1)) p h b := ⟨a1, hc, g2, g3, g4⟩
      have E := enq_eff (J.tail hc g2) (J.notin h b)
      have S0 : Same s (s.setCur h (-1)) := ⟨rfl, fun _ => ⟨Iff.rfl, rfl⟩⟩
      refine go _ _ (.inr ⟨p, b, a3, r, J.enqPre hc g2, rfl⟩) (enq_inv J r) (S0.trans (E.same (by show (s.tk p).st ≠ 0; omega))) ?_ ⟨b, g2, by rw [putQ_same]; simp⟩
      rw [E.cur]
      simp [Sched.setCur]

theorem ready_ok {w : World} {B : Nat} {s : Sched} {t : Nat} (H : SchedAt w B s) (K : SOk s) (ht : t < 16) (hst : (s.tk t).st = 1) :
    Calls Tryz.prog 176 #[.pointer (some ⟨B, 6596, none⟩), .int .i64 (t : Int)] w fun e w' => e = .returned (.tuple #[]) ∧ (∃ s', SchedAt w' B s' ∧ SOk s') ∧ Mut B 6596 6724 w w' := by
  obtain ⟨h, b, r⟩ := K.row ht (by omega)
  obtain ⟨⟨Q, I⟩, L⟩ := K
  have J := I.grab (t := t) (by omega) (by omega)
  refine (enqueue_any H r (J.enqPre r.hh r.hb)).mono ?_
  rintro e w' ⟨rfl, H', M⟩
  exact ⟨rfl, ⟨_, H', ⟨_, enq_inv J r⟩, L.same ((enq_eff (J.tail r.hh r.hb) (J.notin h b)).same (by omega))⟩, M⟩
theorem park_ok {w : World} {B : Nat} {s : Sched} {t : Nat} (H : SchedAt w B s) (K : SOk s) (ht : t < 16) (hst : (s.tk t).st ≠ 0) :
    Calls Tryz.prog 190 #[.pointer (some ⟨B, 6596, none⟩), .int .i64 (t : Int)] w fun e w' => e = .returned (.tuple #[]) ∧ (∃ s', SchedAt w' B s' ∧ SOk s') ∧ Mut B 6596 6724 w w' := by
  obtain ⟨h, b, r⟩ := K.row ht hst
  obtain ⟨⟨Q, I⟩, L⟩ := K
  have S := same_stand I r
  obtain ⟨p1, ⟨Q', J⟩, r1, _, h2⟩ := I.stand r
  refine (park_any H r p1).mono ?_
  rintro e w' ⟨rfl, H', M⟩
  refine ⟨rfl, ⟨_, H', ⟨Q', ?_⟩, L.same (S.trans (same_st (by rw [(h2 t).1]; exact hst) (by omega)))⟩, M⟩
  have J2 := J.hand (s' := (standDown s t h b).pSt t 1) (fun x hx => by simp [Sched.pSt, Sched.setTk, hx]) rfl rfl rfl rfl rfl
  refine J2.close (.inr ⟨by simp [Sched.pSt, Sched.setTk], h, b, r.hh, r.hb, ?_, ?_⟩)
  · simp [Sched.pSt, Sched.setTk]; exact r1.eh
  · simp [Sched.pSt, Sched.setTk]; exact r1.eb
theorem yield_ok {w : World} {B : Nat} {s : Sched} {t : Nat} (H : SchedAt w B s) (K : SOk s) (ht : t < 16) (hst : (s.tk t).st ≠ 0) :
    Calls Tryz.prog 191 #[.pointer (some ⟨B, 6596, none⟩), .int .i64 (t : Int)] w fun e w' => e = .returned (.tuple #[]) ∧ (∃ s', SchedAt w' B s' ∧ SOk s') ∧ Mut B 6596 6724 w w' := by
  obtain ⟨h, b, r⟩ := K.row ht hst
  obtain ⟨⟨Q, I⟩, L⟩ := K
  have S := same_stand I r
  obtain ⟨p1, ⟨Q', J⟩, r1, _, h2⟩ := I.stand r
  refine (yield_any H r p1 r1 (J.enqPre r.hh r.hb)).mono ?_
  rintro e w' ⟨rfl, H', M⟩
  exact ⟨rfl, ⟨_, H', ⟨_, enq_inv J r1⟩, L.same (S.trans ((enq_eff (J.tail r.hh r.hb) (J.notin h b)).same (by rw [(h2 t).1]; exact hst)))⟩, M⟩
theorem setBand_ok {w : World} {B : Nat} {s : Sched} {t k : Nat} (H : SchedAt w B s) (K : SOk s) (ht : t < 16) (hst : (s.tk t).st ≠ 0) (hk : k < 4) :
    Calls Tryz.prog 194 #[.pointer (some ⟨B, 6596, none⟩), .int .i64 (t : Int), .int .i64 (k : Int)] w fun e w' => e = .returned (.tuple #[]) ∧ (∃ s', SchedAt w' B s' ∧ SOk s') ∧ Mut B 6596 6724 w w' := by
  obtain ⟨h, b, r⟩ := K.row ht hst
  obtain ⟨⟨Q, I⟩, L⟩ := K
  by_cases h2 : (s.tk t).st = 2
  · obtain ⟨A, C, eQ⟩ := I.queued ht h2 r.eh r.eb
    obtain ⟨J, E⟩ := deq_inv I r.hh r.hb eQ
    have S0 : Same s (deq s t h b) := by
      have := same_stand I r
      rw [standDown, if_pos h2] at this
      exact this
    have J2 := J.hand (s' := (deq s t h b).pBand t k) (fun x hx => by simp [Sched.pBand, Sched.setTk, hx]) rfl rfl rfl rfl rfl
    have r2 : Row ((deq s t h b).pBand t k) t h k := ⟨ht, r.hh, hk, by simp [Sched.pBand, Sched.setTk]; rw [E.tk t, if_pos rfl]; exact r.eh, by simp [Sched.pBand, Sched.setTk]⟩
    refine (setBand_any H r hk (fun _ => ⟨I.deqPre r.hh r.hb eQ, r2, J2.enqPre r.hh hk⟩)).mono ?_
    rintro e w' ⟨rfl, H', M⟩
    rw [setBandF, if_pos h2] at H'
    refine ⟨rfl, ⟨_, H', ⟨_, enq_inv J2 r2⟩, L.same ((S0.trans same_band).trans ((enq_eff (J2.tail r.hh hk) (J2.notin h k)).same ?_))⟩, M⟩
    have := (S0.trans (same_band (t := t) (v := k))).tk t
    exact fun q => hst (this.1.1 q)
  · refine (setBand_any H r hk (fun q => absurd q h2)).mono ?_
    rintro e w' ⟨rfl, H', M⟩
    rw [setBandF, if_neg h2] at H'
    refine ⟨rfl, ⟨_, H', ⟨Q, ?_⟩, L.same same_band⟩, M⟩
    have hne : ∀ x, ((s.pBand t k).tk x).st = (s.tk x).st ∧ ((s.pBand t k).tk x).home = (s.tk x).home ∧ ((s.pBand t k).tk x).prev = (s.tk x).prev ∧ ((s.pBand t k).tk x).next = (s.tk x).next := fun x => by
      by_cases e : x = t
      · subst e; simp [Sched.pBand, Sched.setTk]
      · simp [Sched.pBand, Sched.setTk, e]
    refine ⟨fun c d hc hd => seg_congr _ _ _ _ _ (fun x _ => ⟨(hne x).2.2.1, (hne x).2.2.2⟩) (I.dll c d hc hd), I.nod, fun c d x hx => ?_, fun x hx hxt q => I.que x hx hxt (by rw [← (hne x).1]; exact q), fun c hc => ?_, fun x hx hxt q => ?_, fun x hx hxt => ?_, I.fl, I.qn⟩
    · have hm := I.mem c d x hx
      have hxt : x ≠ t := fun q => by subst q; exact h2 hm.2.2.2.2.1
      have : (s.pBand t k).tk x = s.tk x := by simp [Sched.pBand, Sched.setTk, hxt]
      rw [this]; exact hm
    · rcases I.cur c hc with q | ⟨p, a1, a2, a3, a4, a5⟩
      · exact .inl q
      · exact .inr ⟨p, a1, a2, a3, (hne p).1.trans a4, (hne p).2.1.trans a5⟩
    · rw [(hne x).1] at q
      rw [(hne x).2.1]
      exact I.run x hx hxt q
    · by_cases e : x = t
      · subst e
        exact .inr ⟨h, k, r.hh, hk, (hne x).2.1.trans r.eh, by simp [Sched.pBand, Sched.setTk]⟩
      · have : (s.pBand t k).tk x = s.tk x := by simp [Sched.pBand, Sched.setTk, e]
        rw [this]; exact I.dom x hx hxt
theorem attach_ok {w : World} {B : Nat} {s : Sched} {t h b : Nat} (H : SchedAt w B s) (K : SOk s) (ht : t < 16) (hst : (s.tk t).st = 0) (hh : h < 4) (hb : b < 4) :
    Calls Tryz.prog 212 #[.pointer (some ⟨B, 6596, none⟩), .int .i64 (t : Int), .int .i64 (h : Int), .int .i64 (b : Int)] w fun e w' => e = .returned (.tuple #[]) ∧ (∃ s', SchedAt w' B s' ∧ SOk s') ∧ Mut B 6596 6724 w w' := by
  refine (attach_any H ht hh hb (K.ldb hh)).mono ?_
  rintro e w' ⟨rfl, H', M⟩
  refine ⟨rfl, ⟨_, H', ?_⟩, M⟩
  obtain ⟨⟨Q, I⟩, L⟩ := K
  have J := I.grab (t := t) (by omega) (by omega)
  have hne : ∀ x, x ≠ t → (attachF s t h b).tk x = s.tk x := fun x hx => by simp [attachF, Sched.pSt, Sched.pHome, Sched.pBand, Sched.pPrev, Sched.pNext, Sched.setTk, Sched.setLd, hx]
  have hself : (attachF s t h b).tk t = ⟨1, h, b, -1, -1⟩ := by simp [attachF, Sched.pSt, Sched.pHome, Sched.pBand, Sched.pPrev, Sched.pNext, Sched.setTk, Sched.setLd]
  refine ⟨⟨Q, (J.hand hne rfl rfl rfl rfl rfl).close (.inr ⟨by rw [hself], h, b, hh, hb, by rw [hself], by rw [hself]⟩)⟩, fun c hc => ?_⟩
  have h1 := cnt_at (s := s) (s' := attachF s t h b) (c := c) ht (fun x hx => by rw [hne x hx])
  have h2 : here (s.tk t) c = 0 := by simp [here, hst]
  have h3 := L c hc
  have e1 : (attachF s t h b).ld c = if c = h then s.ld h + 1 else s.ld c := rfl
  rw [e1]
  by_cases e : c = h
  · subst e
    have h4 : here ((attachF s t c b).tk t) c = 1 := by rw [hself]; simp [here]
    rw [if_pos rfl]
    omega
  · have h4 : here ((attachF s t h b).tk t) c = 0 := by rw [hself]; simp [here]; omega
    rw [if_neg e]
    omega
theorem detach_ok {w : World} {B : Nat} {s : Sched} {t : Nat} (H : SchedAt w B s) (K : SOk s) (ht : t < 16) (hst : (s.tk t).st ≠ 0) (V : Vac w) (hB : 0 < B) :
    Calls Tryz.prog 188 #[.pointer (some ⟨B, 6596, none⟩), .int .i64 (t : Int)] w fun e w' => e = .returned (.tuple #[]) ∧ (∃ s', SchedAt w' B s' ∧ SOk s') ∧ Mut B 6596 6724 w w' := by
  obtain ⟨h, b, r⟩ := K.row ht hst
  obtain ⟨⟨Q, I⟩, L⟩ := K
  have S := same_stand I r
  obtain ⟨p1, ⟨Q', J⟩, r1, hl, h2⟩ := I.stand r
  have L1 := L.same S
  have hpos := cnt_pos (s := standDown s t h b) (c := h) ht (by rw [(h2 t).1]; exact hst) r1.eh
  have hld := L1 h r.hh
  have hle := cnt_le (standDown s t h b) h
  refine (detach_any H r p1 r1 (by omega) V hB).mono ?_
  rintro e w' ⟨rfl, H', M⟩
  have H2 : SchedAt w' B (vacate ((standDown s t h b).setLd h ((standDown s t h b).ld h - 1)) t) := H'
  clear H'
  refine ⟨rfl, ⟨_, H2, ?_⟩, M⟩
  clear H2
  generalize standDown s t h b = s1 at *
  have hne : ∀ x, x ≠ t → (vacate (s1.setLd h (s1.ld h - 1)) t).tk x = s1.tk x := fun x hx => by simp [vacate, Sched.pSt, Sched.pHome, Sched.pBand, Sched.pPrev, Sched.pNext, Sched.setTk, Sched.setLd, hx]
  have hself : (vacate (s1.setLd h (s1.ld h - 1)) t).tk t = ⟨0, -1, 0, -1, -1⟩ := by simp [vacate, Sched.pSt, Sched.pHome, Sched.pBand, Sched.pPrev, Sched.pNext, Sched.setTk, Sched.setLd]
  refine ⟨⟨Q', (J.hand hne rfl rfl rfl rfl rfl).close (.inl (by rw [hself]))⟩, fun c hc => ?_⟩
  have h1 := cnt_at (s := s1) (s' := vacate (s1.setLd h (s1.ld h - 1)) t) (c := c) ht (fun x hx => by rw [hne x hx])
  have h3 : here ((vacate (s1.setLd h (s1.ld h - 1)) t).tk t) c = 0 := by rw [hself]; simp [here]
  have h4 := L1 c hc
  have e1 : (vacate (s1.setLd h (s1.ld h - 1)) t).ld c = if c = h then s1.ld h - 1 else s1.ld c := rfl
  rw [e1]
  have hs0 : (s1.tk t).st ≠ 0 := by rw [(h2 t).1]; exact hst
  by_cases e : c = h
  · subst e
    have h5 : here (s1.tk t) c = 1 := by simp [here, hs0, r1.eh]
    rw [if_pos rfl]
    omega
  · have h5 : here (s1.tk t) c = 0 := by
      have := r1.eh
      simp [here, hs0]; omega
    rw [if_neg e]
    omega
theorem migrate_ok {w : World} {B : Nat} {s : Sched} {t g : Nat} (H : SchedAt w B s) (K : SOk s) (ht : t < 16) (hst : (s.tk t).st ≠ 0) (hg : g < 4) (hgh : (s.tk t).home ≠ g) :
    Calls Tryz.prog 192 #[.pointer (some ⟨B, 6596, none⟩), .int .i64 (t : Int), .int .i64 (g : Int)] w fun e w' => e = .returned (.tuple #[]) ∧ (∃ s', SchedAt w' B s' ∧ SOk s') ∧ Mut B 6596 6724 w w' := by
  obtain ⟨h, b, r⟩ := K.row ht hst
  obtain ⟨⟨Q, I⟩, L⟩ := K
  have S := same_stand I r
  obtain ⟨p1, ⟨Q', J⟩, r1, hl, h2⟩ := I.stand r
  have L1 := L.same S
  have hpos := cnt_pos (s := standDown s t h b) (c := h) ht (by rw [(h2 t).1]; exact hst) r1.eh
  have hld := L1 h r.hh
  have hld2 := L1 g hg
  have hle := cnt_le (standDown s t h b) h
  have hle2 := cnt_le (standDown s t h b) g
  have hne0 : g ≠ h := fun q => hgh (by rw [q]; exact r.eh)
  have hq : (s.tk t).st = 1 ∨ (s.tk t).st ≠ 1 := by omega
  have e0 := h2 t
  have key : (∃ Q'', SInv (migMid (standDown s t h b) t h g) Q'' t) ∧ LInv (migMid (standDown s t h b) t h g) ∧ Row (migMid (standDown s t h b) t h g) t g b ∧ ((migMid (standDown s t h b) t h g).tk t).st = (s.tk t).st := by
    generalize standDown s t h b = s1 at *
    have hne : ∀ x, x ≠ t → (migMid s1 t h g).tk x = s1.tk x := fun x hx => by simp [migMid, Sched.pHome, Sched.setTk, Sched.setLd, hx]
    have hself : (migMid s1 t h g).tk t = { s1.tk t with home := g } := by simp [migMid, Sched.pHome, Sched.setTk, Sched.setLd]
    refine ⟨⟨Q', J.hand hne rfl rfl rfl rfl rfl⟩, fun c hc => ?_, ⟨ht, hg, r.hb, by rw [hself], by rw [hself]; exact r1.eb⟩, by rw [hself]; exact e0.1⟩
    have h1 := cnt_at (s := s1) (s' := migMid s1 t h g) (c := c) ht (fun x hx => by rw [hne x hx])
    have hs0 : (s1.tk t).st ≠ 0 := by rw [e0.1]; exact hst
    have h4 := L1 c hc
    have eh1 := r1.eh
    have e1 : (migMid s1 t h g).ld c = if c = g then s1.ld g + 1 else if c = h then s1.ld h - 1 else s1.ld c := rfl
    have k1 : here (s1.tk t) c = if c = h then 1 else 0 := by
      unfold here
      rw [eh1]
      by_cases q : c = h
      · simp [q, hs0]
      · have : ¬ ((h : Int) = c) := by omega
        simp [q, hs0, this]
    have k2 : here ((migMid s1 t h g).tk t) c = if c = g then 1 else 0 := by
      rw [hself]
      unfold here
      by_cases q : c = g
      · simp [q, hs0]
      · have : ¬ ((g : Int) = c) := by omega
        simp [q, hs0, this]
    rw [e1]
    by_cases q1 : c = g
    · subst q1
      rw [if_pos rfl]
      rw [if_neg hne0] at k1
      rw [if_pos rfl] at k2
      omega
    · rw [if_neg q1]
      rw [if_neg q1] at k2
      by_cases q2 : c = h
      · subst q2
        rw [if_pos rfl]
        rw [if_pos rfl] at k1
        omega
      · rw [if_neg q2]
        rw [if_neg q2] at k1
        omega
  obtain ⟨⟨Q2, J2⟩, L2, r2, e2⟩ := key
  by_cases h1 : (s.tk t).st = 1
  · refine (migrate_parked H r hg hne0 p1 r1 (by omega) (by omega) h1).mono ?_
    rintro e w' ⟨rfl, H', M⟩
    exact ⟨rfl, ⟨_, H', ⟨Q2, J2.close (.inr ⟨by rw [e2]; exact h1, g, b, hg, r.hb, r2.eh, r2.eb⟩)⟩, L2⟩, M⟩
  · refine (migrate_run H r hg hne0 p1 r1 (by omega) (by omega) h1 r2 (J2.enqPre hg r.hb)).mono ?_
    rintro e w' ⟨rfl, H', M⟩
    exact ⟨rfl, ⟨_, H', ⟨_, enq_inv J2 r2⟩, L2.same ((enq_eff (J2.tail hg r.hb) (J2.notin g b)).same (by rw [e2]; exact hst))⟩, M⟩

end Go.Proofs.Qxb6500877aGreatDoor
