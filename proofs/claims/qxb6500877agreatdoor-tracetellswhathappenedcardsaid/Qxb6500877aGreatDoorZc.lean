import Derived.Test.Qxb6500877aGreatDoorZb
import Derived.Test.Qxb6500877aGreatDoorQb0
import Derived.Test.Qxb6500877aGreatDoorPMp
set_option linter.unusedVariables false
set_option linter.unusedSimpArgs false
namespace Go.Proofs.Qxb6500877aGreatDoor
open Go.RowKit

theorem plc_ne {h i j : Nat} (hh : h < 32) (hi : i < 32) (hj : j < 32) (e : i ≠ j) : plc h i ≠ plc h j := by
  unfold plc
  split <;> split <;> omega
theorem plc_step {h j : Nat} (hh : h < 32) (hj : j < 31) : plc (plc h 1) j = plc h (j + 1) := by
  unfold plc
  split <;> split <;> split <;> omega
theorem plc_zero {h : Nat} (hh : h < 32) : plc h 0 = h := by unfold plc; rw [if_neg (by omega)]; rfl
theorem boxL_send {ν ν' : Net} {i : Nat} {m : MsgV} (h : SendR ν i m true ν') : boxL (ν'.box i) = boxL (ν.box i) ++ [m] ∧ (ν'.box i).acc = (ν.box i).acc + 1 ∧ (∀ j, j ≠ i → ν'.box j = ν.box j) ∧ m.mq = (ν.box i).acc + 1 := by
  rcases h with ⟨_, h, _⟩ | ⟨_, _, eq, hd, n, e1, e2, e3, e4, rfl⟩
  · cases h
  · have eb : (sendF ν i hd n m).box i = (((ν.box i).pMsg (plc hd n) m).pN (n + 1)).pAcc ((ν.box i).acc + 1) := by simp [sendF, Net.setBusy, Net.setBox]
    refine ⟨?_, by rw [eb]; rfl, fun j hj => by simp [sendF, Net.setBusy, Net.setBox, hj], eq⟩
    rw [eb]
    unfold boxL
    have en : ((((ν.box i).pMsg (plc hd n) m).pN (n + 1)).pAcc ((ν.box i).acc + 1)).n.toNat = n + 1 := by show ((n : Int) + 1).toNat = n + 1; omega
    have en0 : (ν.box i).n.toNat = n := by rw [e3]; rfl
    have eh : ((((ν.box i).pMsg (plc hd n) m).pN (n + 1)).pAcc ((ν.box i).acc + 1)).head.toNat = hd := by show (ν.box i).head.toNat = hd; rw [e1]; rfl
    have eh0 : (ν.box i).head.toNat = hd := by rw [e1]; rfl
    rw [en, en0, eh, eh0, List.range_succ, List.map_append]
    congr 1
    · refine List.map_congr_left (fun j hj => ?_)
      have hj' := List.mem_range.1 hj
      show (if plc hd j = plc hd n then m else (ν.box i).ring (plc hd j)) = _
      rw [if_neg (plc_ne e2 (by omega) e4 (by omega))]
    · show [if plc hd n = plc hd n then m else (ν.box i).ring (plc hd n)] = [m]
      rw [if_pos rfl]
theorem boxL_del {ν ν' : Net} {i : Nat} {m : MsgV} (h : DelR ν i m true ν') : boxL (ν.box i) = m :: boxL (ν'.box i) ∧ (ν'.box i).acc = (ν.box i).acc ∧ ∀ j, j ≠ i → ν'.box j = ν.box j := by
  rcases h with ⟨_, h, _⟩ | ⟨_, hd, n, e1, e2, e3, e4, e5, rfl, rfl⟩
  · cases h
  · have eb : (deliverF ν i hd n).box i = (((ν.box i).pMsg hd msg0).pHead (plc hd 1)).pN (n - 1) := by
      unfold deliverF popF
      split <;> simp [Net.setBusy, Net.setBox]
    have eo : ∀ j, j ≠ i → (deliverF ν i hd n).box j = ν.box j := fun j hj => by
      unfold deliverF popF
      split <;> simp [Net.setBusy, Net.setBox, hj]
    refine ⟨?_, by rw [eb]; rfl, eo⟩
    rw [eb]
    unfold boxL
    obtain ⟨k, rfl⟩ : ∃ k, n = k + 1 := ⟨n - 1, by omega⟩
    have en : ((((ν.box i).pMsg hd msg0).pHead (plc hd 1)).pN (((k + 1 : Nat) : Int) - 1)).n.toNat = k := by show (((k + 1 : Nat) : Int) - 1).toNat = k; omega
    have en0 : (ν.box i).n.toNat = k + 1 := by rw [e3]; rfl
    have eh : ((((ν.box i).pMsg hd msg0).pHead (plc hd 1)).pN (((k + 1 : Nat) : Int) - 1)).head.toNat = plc hd 1 := by show ((plc hd 1 : Nat) : Int).toNat = _; omega
    have eh0 : (ν.box i).head.toNat = hd := by rw [e1]; rfl
    rw [en, en0, eh, eh0, List.range_succ_eq_map, List.map_cons, List.map_map]
    congr 1
    · rw [plc_zero e2]
    · refine List.map_congr_left (fun j hj => ?_)
      have hj' := List.mem_range.1 hj
      show (ν.box i).ring (plc hd (j + 1)) = (if plc (plc hd 1) j = hd then msg0 else (ν.box i).ring (plc (plc hd 1) j))
      rw [plc_step e2 (by omega), if_neg]
      have := plc_ne (h := hd) (i := j + 1) (j := 0) e2 (by omega) (by omega) (by omega)
      rw [plc_zero e2] at this
      exact this
/-- The model's mailboxes are the machine's. -/
structure BR (ν : Net) (m : Mdl) : Prop where
  bx : ∀ b, b < 16 → m.bx b = boxL (ν.box b)
  ac : ∀ b, b < 16 → m.ac b = (ν.box b).acc
  tt : ∀ b, b < 16 → ∀ x ∈ m.bx b, x.mt = ((b % 4 : Nat) : Int)
theorem BR.len {ν : Net} {m : Mdl} {k : Nat} (R : BR ν m) (N : NOk ν k) {b : Nat} (hb : b < 16) : ((m.bx b).length : Int) = (ν.box b).n ∧ (m.bx b).length ≤ 32 := by
  obtain ⟨n, e, hn⟩ := (N b hb).n
  rw [R.bx b hb, boxL_len, e]
  exact ⟨rfl, hn⟩
theorem inc64_small {v : Int} (h : 0 ≤ v ∧ v < 18446744073709551615) : inc64 v = v + 1 := by
  unfold inc64 IntKind.wrap
  simp [IntKind.bits, IntKind.signed]
  omega
theorem BR.post {ν ν' : Net} {m : Mdl} {k x y t : Nat} {o : OpS} {mm : MsgV} (R : BR ν m) (ha : 0 ≤ (ν.box (x * 4 + y)).acc ∧ (ν.box (x * 4 + y)).acc < 18446744073709551615) (hx : x < 4) (hy : y < 4) (hS : SendR ν (x * 4 + y) mm true ν') (hm : mm = ⟨x, y, o.c, mm.mq, t, o.x, o.y, 0, 0⟩) (hn : m.now = t) : BR ν' (m.post x y o) := by
  obtain ⟨e1, e2, e3, e4⟩ := boxL_send hS
  have hb : x * 4 + y < 16 := by omega
  have ei : inc64 (m.ac (x * 4 + y)) = mm.mq := by rw [R.ac _ hb, inc64_small ha, e4]
  have em : (⟨(x : Int), (y : Int), o.c, inc64 (m.ac (x * 4 + y)), m.now, (o.x : Int), (o.y : Int), 0, 0⟩ : MsgV) = mm := by rw [ei, hn]; exact hm.symm
  refine ⟨fun b h => ?_, fun b h => ?_, fun b h u hu => ?_⟩
  · show upd m.bx (x * 4 + y) (m.bx (x * 4 + y) ++ [_]) b = _
    by_cases q : b = x * 4 + y
    · subst q
      rw [upd_same, em, e1, R.bx _ h]
    · rw [upd_other _ _ q, e3 b q, R.bx b h]
  · show upd m.ac (x * 4 + y) (inc64 (m.ac (x * 4 + y))) b = _
    by_cases q : b = x * 4 + y
    · subst q
      rw [upd_same, ei, e2, e4]
    · rw [upd_other _ _ q, e3 b q, R.ac b h]
  · have hu' : u ∈ upd m.bx (x * 4 + y) (m.bx (x * 4 + y) ++ [⟨(x : Int), (y : Int), o.c, inc64 (m.ac (x * 4 + y)), m.now, (o.x : Int), (o.y : Int), 0, 0⟩]) b := hu
    by_cases q : b = x * 4 + y
    · subst q
      rw [upd_same] at hu'
      rcases List.mem_append.1 hu' with z | z
      · exact R.tt _ h u z
      · rw [List.mem_singleton.1 z]
        show (y : Int) = _
        omega
    · rw [upd_other _ _ q] at hu'
      exact R.tt b h u hu'
/-- What is not of the mailboxes stays. -/
structure OthB (m m' : Mdl) : Prop where
  now : m'.now = m.now
  tk : m'.tk = m.tk
  wt : m'.wt = m.wt
  tm : m'.tm = m.tm
  nx : m'.nx = m.nx
theorem OthB.refl (m : Mdl) : OthB m m := ⟨rfl, rfl, rfl, rfl, rfl⟩
theorem st_inc {m : Mdl} {σ : Sg} {j : Nat} (h : ∀ i, i < 28 → m.st i = σ.st i) (hj : j < 28) : ∀ i, i < 28 → (m.inc j).st i = (σ.inc j).st i := fun i hi => by
  show upd m.st j (inc64 (m.st j)) i = if i = j then inc64 (σ.st j) else σ.st i
  unfold upd
  split
  · rw [h j hj]
  · exact h i hi
theorem st_post {m : Mdl} {σ : Sg} {x y : Nat} {o : OpS} (h : ∀ i, i < 28 → m.st i = σ.st i) (hx : x < 4) : ∀ i, i < 28 → (m.post x y o).st i = (σ.inc (x * 7 + 2)).st i := st_inc (m := (m.setAc (x * 4 + y) (inc64 (m.ac (x * 4 + y)))).setBx (x * 4 + y) _) h (by omega)
theorem kind_in {v : Int} (h : 0 ≤ v ∧ v < 4294967296) : kindB v = true ∧ kindR v = v := ⟨by simp [kindB, h], if_pos h⟩
theorem kind_out {v : Int} (h : ¬ (0 ≤ v ∧ v < 4294967296)) : kindB v = false := by simp only [kindB, decide_eq_false h]
theorem send_rel {t k : Nat} {ν ν' : Net} {σ : Sg} {m m' : Mdl} {o : OpS} {c z co : Int} (R : BR ν m) (N : NOk ν k) (hk : k < 900000) (hst : ∀ i, i < 28 → m.st i = σ.st i) (hn : m.now = t) (hkd : o.kd = 4) (hS : StepSend o t ν c ν') (hM : SendM m o z co m') :
    z = (sendRS o c).c ∧ co = (sendRS o c).co ∧ BR ν' m' ∧ OthB m m' ∧ ∀ i, i < 28 → m'.st i = (stSg σ o c).st i := by
  have no : ∀ z : Int, z ≠ 0 → c = z → ν' = ν → co = -1 → m' = m → z = (sendRS o c).c ∧ co = (sendRS o c).co ∧ BR ν' m' ∧ OthB m m' ∧ ∀ i, i < 28 → m'.st i = (stSg σ o c).st i := fun z hz e1 e2 e3 e4 => by
    subst e1 e2 e3 e4
    rw [sendRS_no hz, stSg_no hz]
    exact ⟨rfl, rfl, R, OthB.refl _, hst⟩
  have c5 : ¬ o.kd = 5 := by omega
  rcases hM with ⟨hc, rfl, rfl, rfl⟩ | ⟨hc, hM⟩
  · rcases hS with ⟨_, e1, e2⟩ | ⟨q, _⟩
    · exact no 7 (by omega) e1 e2 rfl rfl
    · rw [kind_out hc] at q; cases q
  · rcases hS with ⟨q, _⟩ | ⟨_, hS⟩
    · rw [(kind_in hc).1] at q; cases q
    rcases hS with ⟨q, _⟩ | ⟨_, hS⟩
    · omega
    rw [(kind_in hc).2] at hS
    rcases hM with ⟨hab, rfl, rfl, rfl⟩ | ⟨x, y, ea, hx, eb, hy, hM⟩
    · rcases hS with ⟨_, e1, e2⟩ | ⟨x, y, ea, hx, eb, hy, _⟩
      · exact no 4 (by omega) e1 e2 rfl rfl
      · exfalso
        have h1 := argF_rng 4 o.a
        have h2 := argF_rng 4 o.b
        unfold argF at ea eb
        split at ea <;> split at eb <;> omega
    · have ea' : argF 4 o.a = x := by rw [argF_in (by omega), ea]
      have eb' : argF 4 o.b = y := by rw [argF_in (by omega), eb]
      rw [ea', eb'] at hS
      rcases hS with ⟨q, _⟩ | ⟨x', y', e1, _, e2, _, mm, ok, hR, hok, hno⟩
      · omega
      obtain rfl : x' = x := by omega
      obtain rfl : y' = y := by omega
      have hl := R.len N (b := x' * 4 + y') (by omega)
      have hac := (N (x' * 4 + y') (by omega)).acc
      rcases hM with ⟨h32, rfl, rfl, rfl⟩ | ⟨h32, rfl, rfl, rfl⟩
      · rcases hR with ⟨_, r1, r2⟩ | ⟨q, _⟩
        · exact no 8 (by omega) (hno r1) r2 rfl rfl
        · omega
      · cases ok with
        | false =>
          rcases hR with ⟨q, _⟩ | ⟨_, q, _⟩
          · omega
          · cases q
        | true =>
          obtain ⟨hm, rfl⟩ := hok rfl
          refine ⟨rfl, ?_, R.post (k := k) (by omega) hx hy hR hm hn, ⟨rfl, rfl, rfl, rfl, rfl⟩, ?_⟩
          · show (y' : Int) = if (0 : Int) = 0 then (if o.kd = 5 then o.a else o.b) else -1
            rw [if_pos rfl, if_neg c5, eb]
          · rw [stSg_4 c5, sendSg, if_pos rfl, ea', Int.toNat_natCast]
            exact st_post hst hx
theorem del_rel {k i : Nat} {ν ν' : Net} {σ : Sg} {m m' : Mdl} {mm mr : MsgV} {c z : Int} {hm : Bool} (R : BR ν m) (N : NOk ν k) (hst : ∀ i, i < 28 → m.st i = σ.st i) (hi : i < 16)
    (hD : (z = 0 ∧ (0 ≤ mr.mt ∧ mr.mt < 4) ∧ DelR ν i mr true ν') ∨ (z = 2 ∧ DelR ν i mr false ν')) (hM : (m.bx i = [] ∧ c = 2 ∧ hm = false ∧ mm = msg0 ∧ m' = m) ∨ ∃ l, m.bx i = mm :: l ∧ c = 0 ∧ hm = true ∧ m' = m.deliver i) :
    c = z ∧ hm = decide (z = 0) ∧ mm = mr ∧ BR ν' m' ∧ OthB m m' ∧ ∀ i, i < 28 → m'.st i = (delSg σ mr z).st i := by
  have hl := R.len N hi
  rcases hD with ⟨rfl, _, hD⟩ | ⟨rfl, hD⟩
  · obtain ⟨e1, e2, e3⟩ := boxL_del hD
    rw [← R.bx i hi] at e1
    rcases hM with ⟨q, _⟩ | ⟨l, el, rfl, rfl, rfl⟩
    · rw [q] at e1; cases e1
    · rw [el] at e1
      injection e1 with e4 e5
      subst e4
      have et : mm.mt = ((i % 4 : Nat) : Int) := R.tt i hi mm (by rw [el]; simp)
      refine ⟨rfl, rfl, rfl, ⟨fun b h => ?_, fun b h => ?_, fun b h u hu => ?_⟩, ⟨rfl, rfl, rfl, rfl, rfl⟩, ?_⟩
      · show upd m.bx i (m.bx i).tail b = _
        by_cases q : b = i
        · subst q
          rw [upd_same, el, List.tail_cons, e5]
        · rw [upd_other _ _ q, e3 b q, R.bx b h]
      · show m.ac b = _
        rw [R.ac b h]
        by_cases q : b = i
        · subst q; rw [e2]
        · rw [e3 b q]
      · have hu' : u ∈ upd m.bx i (m.bx i).tail b := hu
        by_cases q : b = i
        · subst q
          rw [upd_same] at hu'
          exact R.tt _ h u (List.mem_of_mem_tail hu')
        · rw [upd_other _ _ q] at hu'
          exact R.tt b h u hu'
      · rw [delSg, if_pos rfl, et, Int.toNat_natCast]
        exact st_inc (m := m.setBx i (m.bx i).tail) hst (by omega)
  · rcases hD with ⟨e0, _, rfl, rfl⟩ | ⟨q, _⟩
    · rcases hM with ⟨q, rfl, rfl, rfl, rfl⟩ | ⟨l, el, _⟩
      · refine ⟨rfl, rfl, rfl, R, OthB.refl _, ?_⟩
        rw [delSg, if_neg (by omega)]
        exact hst
      · rw [el] at hl
        simp only [List.length_cons] at hl
        omega
    · cases q
theorem bc_rel0 {t k x : Nat} {o : OpS} (hk : k < 900000) (hx : x < 4) : ∀ (i : Nat) {ν ν' : Net} {m : Mdl} {σ : Sg}, i ≤ 4 → BR ν m → NOk ν k → (∀ j, j < 28 → m.st j = σ.st j) → m.now = t → BcR x o.c t o.x o.y 0 0 i ν ν' →
    BR ν' (bcTo m x o i) ∧ OthB m (bcTo m x o i) ∧ (∀ j, j < 28 → (bcTo m x o i).st j = (σ.incN (x * 7 + 2) (bcN x i)).st j) ∧ ∀ j, j < 16 → 0 ≤ (ν'.box j).acc ∧ (ν'.box j).acc ≤ k + i
  | 0, ν, ν', m, σ, _, R, N, hst, hn, h => by
    cases h
    refine ⟨R, OthB.refl m, ?_, fun j hj => ?_⟩
    · rw [bcN_zero]; exact hst
    · have := (N j hj).acc
      omega
  | i + 1, ν, ν', m, σ, hi, R, N, hst, hn, h => by
    obtain ⟨ν1, h1, h2⟩ := h
    obtain ⟨R1, O1, S1, A1⟩ := bc_rel0 hk hx i (by omega) R N hst hn h1
    rcases h2 with ⟨e, rfl⟩ | ⟨e, mm, hS, hm⟩
    · rw [bcTo_same e]
      refine ⟨R1, O1, ?_, fun j hj => ?_⟩
      · subst e
        rw [bcN_self]; exact S1
      · have := A1 j hj
        omega
    · rw [bcTo_post e, bcN_succ e]
      have ha := A1 (x * 4 + i) (by omega)
      obtain ⟨e1, e2, e3, e4⟩ := boxL_send hS
      refine ⟨R1.post (k := k) (by omega) hx (by omega) hS hm (by rw [O1.now, hn]), ⟨O1.now, O1.tk, O1.wt, O1.tm, O1.nx⟩, ?_, fun j hj => ?_⟩
      · exact st_post S1 hx
      · have := A1 j hj
        by_cases q : j = x * 4 + i
        · subst q
          rw [e2]; omega
        · rw [e3 j q]; omega
theorem bc_rel {t k : Nat} {ν ν' : Net} {σ : Sg} {m m' : Mdl} {o : OpS} {c z co : Int} (R : BR ν m) (N : NOk ν k) (hk : k < 900000) (hst : ∀ i, i < 28 → m.st i = σ.st i) (hn : m.now = t) (hkd : o.kd = 5) (hS : StepSend o t ν c ν') (hM : BcM m o z co m') :
    z = (sendRS o c).c ∧ co = (sendRS o c).co ∧ BR ν' m' ∧ OthB m m' ∧ ∀ i, i < 28 → m'.st i = (stSg σ o c).st i := by
  have no : ∀ z : Int, z ≠ 0 → c = z → ν' = ν → co = -1 → m' = m → z = (sendRS o c).c ∧ co = (sendRS o c).co ∧ BR ν' m' ∧ OthB m m' ∧ ∀ i, i < 28 → m'.st i = (stSg σ o c).st i := fun z hz e1 e2 e3 e4 => by
    subst e1 e2 e3 e4
    rw [sendRS_no hz, stSg_no hz]
    exact ⟨rfl, rfl, R, OthB.refl _, hst⟩
  rcases hM with ⟨hc, rfl, rfl, rfl⟩ | ⟨hc, hM⟩
  · rcases hS with ⟨_, e1, e2⟩ | ⟨q, _⟩
    · exact no 7 (by omega) e1 e2 rfl rfl
    · rw [kind_out hc] at q; cases q
  · rcases hS with ⟨q, _⟩ | ⟨_, hS⟩
    · rw [(kind_in hc).1] at q; cases q
    rcases hS with ⟨_, hS⟩ | ⟨q, _⟩
    · rw [(kind_in hc).2] at hS
      rcases hM with ⟨hab, rfl, rfl, rfl⟩ | ⟨x, ea, hx, hM⟩
      · rcases hS with ⟨_, e1, e2⟩ | ⟨x, ea, hx, _⟩
        · exact no 4 (by omega) e1 e2 rfl rfl
        · exfalso
          rw [argF_out hab] at ea
          omega
      · have ea' : argF 4 o.a = x := by rw [argF_in (by omega), ea]
        rw [ea'] at hS
        rcases hS with ⟨q, _⟩ | ⟨x', e1, _, hS⟩
        · omega
        obtain rfl : x' = x := by omega
        have hl := fun b (hb : b < 16) => R.len N hb
        rcases hM with ⟨⟨j, hj, hjx, h32⟩, rfl, rfl, rfl⟩ | ⟨h32, rfl, rfl, rfl⟩
        · rcases hS with ⟨_, e1, e2⟩ | ⟨q, _⟩
          · exact no 8 (by omega) e1 e2 rfl rfl
          · exact absurd (by have := (hl (x' * 4 + j) (by omega)).1; omega) (q j hj hjx)
        · rcases hS with ⟨q, _⟩ | ⟨_, rfl, hB⟩
          · exact absurd (fun j hj hjx e => h32 j hj hjx (by have := (hl (x' * 4 + j) (by omega)).1; omega)) q
          · obtain ⟨R1, O1, S1, _⟩ := bc_rel0 hk hx 4 (Nat.le_refl _) R N hst hn hB
            refine ⟨rfl, ?_, R1, O1, ?_⟩
            · show (x' : Int) = if (0 : Int) = 0 then (if o.kd = 5 then o.a else o.b) else -1
              rw [if_pos rfl, if_pos hkd, ea]
            · rw [stSg_5 hkd, bcSg, if_pos rfl, ea', Int.toNat_natCast]
              have e3 : bcN x' 4 = 3 := by unfold bcN; rw [if_pos hx]
              rw [e3] at S1
              exact S1
    · exact absurd hkd q
end Go.Proofs.Qxb6500877aGreatDoor
