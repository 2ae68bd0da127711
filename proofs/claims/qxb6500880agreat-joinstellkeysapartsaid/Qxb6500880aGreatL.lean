import Derived.Deep.CutBlock
import Derived.OwnWalk
import Derived.Maps.AppendAt
import Derived.Test.Qxb6500880aGreatA
set_option linter.unusedVariables false
set_option linter.unusedSimpArgs false
namespace Go.Proofs.Qxb6500880aGreat
open Go.RowKit


section
variable {P : Program} {ops : Array Oper} {Q : Exit → Act → World → Prop} {md : Region.Mode} {S : World → Prop} {l : Nat}

/-- Any order, S held behind each operation but number l. -/
def AnyL (P : Program) (md : Region.Mode) (ops : Array Oper) (Q : Exit → Act → World → Prop) (S : World → Prop) (l : Nat) : Nat → Array Bool → Act → World → Prop
  | 0, listed, a, w => Region.ready md ops listed = [] ∧ Q .normal a w
  | n + 1, listed, a, w => (Region.ready md ops listed = [] → Q .normal a w) ∧ ∀ i ∈ Region.ready md ops listed, wpOp P ops Q i (fun a' w' => (i ≠ l → S w') ∧ AnyL P md ops Q S l n (listed.setIfInBounds i true) a' w') a w
theorem AnyL.any : ∀ (n : Nat) (listed : Array Bool) (a : Act) (w : World), AnyL P md ops Q S l n listed a w → wpAny P md ops Q n listed a w
  | 0, _, _, _, h => h
  | n + 1, _, _, _, h => ⟨h.1, fun i hi => wpOp_mono (fun a' w' h' => AnyL.any n _ a' w' h'.2) (h.2 i hi)⟩
/-- Operation l waits for every other. -/
def lastOp (md : Region.Mode) (ops : Array Oper) (l : Nat) : Bool :=
  (List.range ops.size).all fun k => k == l || (match ops[l]? with | some o => o.after.toList.any (fun e => Region.binds md e && e.on == k) | none => false)
theorem lastOp_spec (h : lastOp md ops l = true) {listed : Array Bool} {i : Nat} (hl : l ∈ Region.ready md ops listed) (hi : i ∈ Region.ready md ops listed) : i = l := by
  obtain ⟨_, ol, hol, hall⟩ := mem_ready.1 hl
  obtain ⟨hun, oi, hoi, _⟩ := mem_ready.1 hi
  have hlt : i < ops.size := (Array.getElem?_eq_some_iff.1 hoi).1
  unfold lastOp at h
  have h1 := List.all_eq_true.1 h i (List.mem_range.2 hlt)
  simp only [hol, Bool.or_eq_true, beq_iff_eq] at h1
  rcases h1 with h1 | h1
  · exact h1
  · obtain ⟨e, he, hb⟩ := List.any_eq_true.1 h1
    simp only [Bool.and_eq_true, beq_iff_eq] at hb
    have h2 := hall e (Array.mem_toList_iff.1 he) hb.1
    rw [hb.2] at h2
    rcases Nat.lt_or_ge i listed.size with h' | h'
    · simp [h'] at hun h2
      rw [hun] at h2
      cases h2
    · simp [Array.getElem?_eq_none h'] at h2
theorem AnyL.first {i : Nat} {oi : Oper} {v : Value} (hlast : lastOp md ops l = true) (hi : ops[i]? = some oi) (hsel : ∀ (j : Nat) (o : Oper) cs b, ops[j]? = some o → o.op ≠ .select cs b)
    (hQ : ∀ c a w, Q (.panic c) (a.put oi.dst v) w → Q (.panic c) a w) : ∀ (n : Nat) (listed : Array Bool) (a : Act) (w : World),
      (∀ j oj, ops[j]? = some oj → j ≠ i → listed.getD j true = false → (∀ e ∈ oj.after, Region.binds md e = true → e.on ≠ i) → oi.apart ops oj = true) →
      i ∈ Region.ready md ops listed → YieldsIf P ops S oi v a → S w →
      AnyL P md ops Q S l n (listed.setIfInBounds i true) (a.put oi.dst v) w → AnyL P md ops Q S l (n + 1) listed a w := by
  intro n
  induction n with
  | zero =>
    intro listed a w _ hr hy hS H
    refine ⟨fun h => by rw [h] at hr; simp at hr, fun j hj => ?_⟩
    by_cases hji : j = i
    · subst hji
      exact hy.wpOp hi hS ⟨fun _ => hS, H⟩
    · have h := ready_mono hj hji
      rw [H.1] at h
      simp at h
  | succ n ih =>
    intro listed a w hfree hr hy hS H
    refine ⟨fun h => by rw [h] at hr; simp at hr, fun j hj => ?_⟩
    by_cases hji : j = i
    · subst hji
      exact hy.wpOp hi hS ⟨fun _ => hS, H⟩
    · have hjl : j ≠ l := fun e => hji (by subst e; exact (lastOp_spec hlast hj hr).symm)
      have h1 := H.2 j (ready_mono hj hji)
      obtain ⟨hjun, oj, hoj, hall⟩ := mem_ready.1 hj
      have hnot : ∀ e ∈ oj.after, Region.binds md e = true → e.on ≠ i := fun e he hb heq => by
        have h2 := hall e he hb
        have h0 := (mem_ready.1 hr).1
        rw [heq] at h2
        rcases Nat.lt_or_ge i listed.size with h' | h'
        · simp [h'] at h0 h2
          rw [h0] at h2
          cases h2
        · simp [Array.getElem?_eq_none h'] at h2
      refine wpOp_mono (fun a' w' h3 => ?_) (wpOp_putIf hoj (hfree j oj hoj hji hjun hnot) (fun cs b => hsel i oi cs b hi) (fun cs b => hsel j oj cs b hoj) hQ hy h1)
      have hS' := h3.2.1 hjl
      refine ⟨fun _ => hS', ih (listed.setIfInBounds j true) a' w' (fun k ok hk hki hun hno => hfree k ok hk hki ?_ hno) (ready_mono hr (Ne.symm hji)) h3.1 hS' ?_⟩
      · by_cases hjk : j = k
        · subst hjk; exact hjun
        · rw [getD_set_ne true hjk] at hun; exact hun
      · rw [Array.setIfInBounds_comm _ _ hji]
        exact h3.2.2
theorem AnyL.take {i : Nat} {oi : Oper} {v : Value} {n : Nat} {listed : Array Bool} {a : Act} {w : World} (hlast : lastOp md ops l = true) (hi : ops[i]? = some oi)
    (hs : Region.noSelect ops = true) (hf : Region.free md ops listed i = true) (hr : (Region.ready md ops listed).contains i = true)
    (hQ : ∀ c a w, Q (.panic c) (a.put oi.dst v) w → Q (.panic c) a w) (hy : YieldsIf P ops S oi v a) (hS : S w)
    (h : AnyL P md ops Q S l n (listed.setIfInBounds i true) (a.put oi.dst v) w) : AnyL P md ops Q S l (n + 1) listed a w :=
  AnyL.first hlast hi (Region.noSelect_spec hs) hQ n listed a w (Region.free_spec hi hf) (by simpa using hr) hy hS h
/-- Only operation i may come up. -/
theorem AnyL.one {i : Nat} {o : Oper} {n : Nat} {listed : Array Bool} {a : Act} {w : World} (hr : Region.ready md ops listed = [i]) (ho : ops[i]? = some o) (hil : (i == l) = false)
    (h : ∀ K' : Act → World → Prop, Shut (∀ a w, S w → (S w → AnyL P md ops Q S l n (listed.setIfInBounds i true) a w) → K' a w) → if Region.wanted o (yielded ops a.tmps) = true then Oper.wp P o a w K' Q else K' (a.put o.dst undef) w) : AnyL P md ops Q S l (n + 1) listed a w := by
  refine ⟨fun h0 => by rw [hr] at h0; simp at h0, fun j hj => ?_⟩
  rw [hr] at hj
  have e : j = i := by simpa using hj
  subst e
  exact wpOp_step ho fun K' hK => h K' fun a w hS hW => hK a w ⟨fun _ => hS, hW hS⟩
/-- Operation l, the last. -/
theorem AnyL.last {o : Oper} {n : Nat} {listed : Array Bool} {a : Act} {w : World} (hr : Region.ready md ops listed = [l]) (ho : ops[l]? = some o) (hd : Region.ready md ops (listed.setIfInBounds l true) = [])
    (h : ∀ K' : Act → World → Prop, Shut (∀ a w, Q .normal a w → K' a w) → if Region.wanted o (yielded ops a.tmps) = true then Oper.wp P o a w K' Q else K' (a.put o.dst undef) w) : AnyL P md ops Q S l (n + 1) listed a w := by
  refine ⟨fun h0 => by rw [hr] at h0; simp at h0, fun j hj => ?_⟩
  rw [hr] at hj
  have e : j = l := by simpa using hj
  subst e
  refine wpOp_step ho fun K' hK => h K' fun a w hq => hK a w ⟨fun q => absurd rfl q, ?_⟩
  cases n with
  | zero => exact ⟨hd, hq⟩
  | succ n => exact ⟨fun _ => hq, fun k hk => by rw [hd] at hk; simp at hk⟩
theorem wp_region_l {id : Nat} {a : Act} {w : World} (hm : P.follows .mixedOrders = true) (hS : S w.drew)
    (h : S w.drew → AnyL P .any ops Q S l ops.size (Array.replicate ops.size false) a w.drew) : (Code.region id ops true).wp P Q a w :=
  wp_region_any hm (AnyL.any _ _ _ _ (h hS))
end

section
variable {P : Program} {ops : Array Oper} {Q : Exit → Act → World → Prop} {md : Region.Mode} {S : World → Prop} {l : Nat}
/-- What is listed has all that it waits for listed. -/
def ClosedL (md : Region.Mode) (ops : Array Oper) (listed : Array Bool) : Prop := ∀ j o, ops[j]? = some o → listed.getD j false = true → ∀ e ∈ o.after, Region.binds md e = true → listed.getD e.on false = true
def closedB (md : Region.Mode) (ops : Array Oper) (listed : Array Bool) : Bool :=
  (List.range ops.size).all fun j => !(listed.getD j false) || (match ops[j]? with | some o => o.after.toList.all (fun e => !(Region.binds md e) || listed.getD e.on false) | none => true)
theorem closedB_spec {listed : Array Bool} (h : closedB md ops listed = true) : ClosedL md ops listed := fun j o ho hj e he hb => by
  have hlt : j < ops.size := (Array.getElem?_eq_some_iff.1 ho).1
  unfold closedB at h
  have h1 := List.all_eq_true.1 h j (List.mem_range.2 hlt)
  rw [hj] at h1
  simp only [ho, Bool.not_true, Bool.false_or] at h1
  have h2 := List.all_eq_true.1 h1 e (Array.mem_toList_iff.2 he)
  rw [hb] at h2
  simpa using h2
theorem getD_set_mono {listed : Array Bool} {i j : Nat} (h : listed.getD i false = true) : (listed.setIfInBounds j true).getD i false = true := by
  by_cases e : j = i
  · subst e
    have hl : j < listed.size := by
      refine Nat.lt_of_not_le (fun q => ?_)
      rw [Array.getD_eq_getD_getElem?, Array.getElem?_eq_none q] at h
      simp at h
    simp [Array.getD_eq_getD_getElem?, hl]
  · simp [Array.getD_eq_getD_getElem?, e] at h ⊢
    exact h
theorem ClosedL.set {listed : Array Bool} {j : Nat} (h : ClosedL md ops listed) (hj : j ∈ Region.ready md ops listed) : ClosedL md ops (listed.setIfInBounds j true) := fun k o ho hk e he hb => by
  obtain ⟨_, oj, hoj, hall⟩ := mem_ready.1 hj
  by_cases q : k = j
  · subst q
    rw [ho] at hoj
    have : o = oj := Option.some.inj hoj
    subst this
    exact getD_set_mono (hall e he hb)
  · have hk' : listed.getD k false = true := by
      have q' : ¬ (j = k) := fun z => q z.symm
      simp [Array.getD_eq_getD_getElem?, q'] at hk ⊢
      exact hk
    exact getD_set_mono (h k o ho hk' e he hb)
def waits (md : Region.Mode) (ops : Array Oper) : Nat → Nat → Nat → Bool
  | 0, _, _ => false
  | f + 1, l, k => match ops[l]? with
    | some o => o.after.toList.any (fun e => Region.binds md e && (e.on == k || waits md ops f e.on k))
    | none => false
theorem waits_listed {listed : Array Bool} (hc : ClosedL md ops listed) : ∀ (f l k : Nat), (∀ o, ops[l]? = some o → ∀ e ∈ o.after, Region.binds md e = true → listed.getD e.on false = true) → waits md ops f l k = true → listed.getD k false = true
  | 0, l, k, _, h => by simp [waits] at h
  | f + 1, l, k, hd, h => by
    unfold waits at h
    split at h
    · rename_i o ho
      obtain ⟨e, he, hb⟩ := List.any_eq_true.1 h
      simp only [Bool.and_eq_true, Bool.or_eq_true, beq_iff_eq] at hb
      have h1 := hd o ho e (Array.mem_toList_iff.1 he) hb.1
      rcases hb.2 with h2 | h2
      · rw [← h2]; exact h1
      · exact waits_listed hc f e.on k (fun o' ho' => hc e.on o' ho' h1) h2
    · simp at h
theorem waits_no {listed : Array Bool} {i : Nat} (hw : waits md ops 20 l i = true) (hc : ClosedL md ops listed) (hl : l ∈ Region.ready md ops listed) (hi : i ∈ Region.ready md ops listed) : False := by
  obtain ⟨_, ol, hol, hall⟩ := mem_ready.1 hl
  obtain ⟨hun, oi, hoi, _⟩ := mem_ready.1 hi
  have h1 := waits_listed hc 20 l i (fun o ho e he hb => by
    rw [hol] at ho
    have : ol = o := Option.some.inj ho
    subst this
    exact hall e he hb) hw
  rcases Nat.lt_or_ge i listed.size with h' | h'
  · simp [h'] at hun h1
    rw [hun] at h1
    cases h1
  · simp [Array.getElem?_eq_none h'] at h1
theorem AnyL.first2 {i : Nat} {oi : Oper} {v : Value} (hw : waits md ops 20 l i = true) (hi : ops[i]? = some oi) (hsel : ∀ (j : Nat) (o : Oper) cs b, ops[j]? = some o → o.op ≠ .select cs b)
    (hQ : ∀ c a w, Q (.panic c) (a.put oi.dst v) w → Q (.panic c) a w) : ∀ (n : Nat) (listed : Array Bool) (a : Act) (w : World),
      ClosedL md ops listed → (∀ j oj, ops[j]? = some oj → j ≠ i → listed.getD j true = false → (∀ e ∈ oj.after, Region.binds md e = true → e.on ≠ i) → oi.apart ops oj = true) →
      i ∈ Region.ready md ops listed → YieldsIf P ops S oi v a → S w →
      AnyL P md ops Q S l n (listed.setIfInBounds i true) (a.put oi.dst v) w → AnyL P md ops Q S l (n + 1) listed a w := by
  intro n
  induction n with
  | zero =>
    intro listed a w _ _ hr hy hS H
    refine ⟨fun h => by rw [h] at hr; simp at hr, fun j hj => ?_⟩
    by_cases hji : j = i
    · subst hji
      exact hy.wpOp hi hS ⟨fun _ => hS, H⟩
    · have h := ready_mono hj hji
      rw [H.1] at h
      simp at h
  | succ n ih =>
    intro listed a w hcl hfree hr hy hS H
    refine ⟨fun h => by rw [h] at hr; simp at hr, fun j hj => ?_⟩
    by_cases hji : j = i
    · subst hji
      exact hy.wpOp hi hS ⟨fun _ => hS, H⟩
    · have hjl : j ≠ l := fun e => by subst e; exact waits_no hw hcl hj hr
      have h1 := H.2 j (ready_mono hj hji)
      obtain ⟨hjun, oj, hoj, hall⟩ := mem_ready.1 hj
      have hnot : ∀ e ∈ oj.after, Region.binds md e = true → e.on ≠ i := fun e he hb heq => by
        have h2 := hall e he hb
        have h0 := (mem_ready.1 hr).1
        rw [heq] at h2
        rcases Nat.lt_or_ge i listed.size with h' | h'
        · simp [h'] at h0 h2
          rw [h0] at h2
          cases h2
        · simp [Array.getElem?_eq_none h'] at h2
      refine wpOp_mono (fun a' w' h3 => ?_) (wpOp_putIf hoj (hfree j oj hoj hji hjun hnot) (fun cs b => hsel i oi cs b hi) (fun cs b => hsel j oj cs b hoj) hQ hy h1)
      have hS' := h3.2.1 hjl
      refine ⟨fun _ => hS', ih (listed.setIfInBounds j true) a' w' (hcl.set hj) (fun k ok hk hki hun hno => hfree k ok hk hki ?_ hno) (ready_mono hr (Ne.symm hji)) h3.1 hS' ?_⟩
      · by_cases hjk : j = k
        · subst hjk; exact hjun
        · rw [getD_set_ne true hjk] at hun; exact hun
      · rw [Array.setIfInBounds_comm _ _ hji]
        exact h3.2.2
theorem AnyL.take2 {i : Nat} {oi : Oper} {v : Value} {n : Nat} {listed : Array Bool} {a : Act} {w : World} (hw : waits md ops 20 l i = true) (hcl : closedB md ops listed = true) (hi : ops[i]? = some oi)
    (hs : Region.noSelect ops = true) (hf : Region.free md ops listed i = true) (hr : (Region.ready md ops listed).contains i = true)
    (hQ : ∀ c a w, Q (.panic c) (a.put oi.dst v) w → Q (.panic c) a w) (hy : YieldsIf P ops S oi v a) (hS : S w)
    (h : AnyL P md ops Q S l n (listed.setIfInBounds i true) (a.put oi.dst v) w) : AnyL P md ops Q S l (n + 1) listed a w :=
  AnyL.first2 hw hi (Region.noSelect_spec hs) hQ n listed a w (closedB_spec hcl) (Region.free_spec hi hf) (by simpa using hr) hy hS h
end
end Go.Proofs.Qxb6500880aGreat
