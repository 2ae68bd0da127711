import Derived.Deep.CutBlock
import Derived.OwnWalk
import Derived.Maps.AppendAt
import Derived.Maps.OwnSet
import Derived.Maps.OwnOps
import Derived.Laws.ResultCell
import Derived.Test.Qxb6500880aGreatSo
import Derived.Test.Qxb6500880aGreatPK
set_option linter.unusedVariables false
set_option linter.unusedSimpArgs false
namespace Go.Proofs.Qxb6500880aGreat
open Go.RowKit

/-- A key of the wanted set. -/
def key3 (f : Nat → Nat) : Value := .agg #[.int .i64 (f 0 : Int), .int .i64 (f 1 : Int), .int .i64 (f 2 : Int)]
def same3 (f g : Nat → Nat) : Prop := ∀ t, t < 3 → f t = g t
theorem same3_iff (f g : Nat → Nat) : same3 f g ↔ f 0 = g 0 ∧ f 1 = g 1 ∧ f 2 = g 2 := ⟨fun h => ⟨h 0 (by omega), h 1 (by omega), h 2 (by omega)⟩, fun h t ht => by
  rcases (by omega : t = 0 ∨ t = 1 ∨ t = 2) with e | e | e <;> (subst e; simp [h])⟩
theorem same3.key {f g : Nat → Nat} (h : same3 f g) : key3 f = key3 g := by
  obtain ⟨a, b, c⟩ := (same3_iff f g).1 h
  unfold key3
  rw [a, b, c]
theorem part3a (a b c : Value) (w : World) : (part 3 #[a, b, c] 0).run Tryz.prog w = .ok a w := by
  have hs : (sizeOf 3).run Tryz.prog w = .ok 1 w := by kernel_rfl
  simp [part, run_underlying Tryz.underlying3, hs]
theorem part3b (a b c : Value) (w : World) : (part 3 #[a, b, c] 1).run Tryz.prog w = .ok b w := by
  have hs : (sizeOf 3).run Tryz.prog w = .ok 1 w := by kernel_rfl
  simp [part, run_underlying Tryz.underlying3, hs]
theorem part3c (a b c : Value) (w : World) : (part 3 #[a, b, c] 2).run Tryz.prog w = .ok c w := by
  have hs : (sizeOf 3).run Tryz.prog w = .ok 1 w := by kernel_rfl
  simp [part, run_underlying Tryz.underlying3, hs]
theorem ckey3 (e : Bool) (f : Nat → Nat) (w : World) : (Instr.checkKey e 10000 47 (key3 f)).run Tryz.prog w = .ok () w := by
  have h1 : ∀ d v, (Instr.checkKey e (d + 1) 3 v).run Tryz.prog w = .ok () w := fun d v => by simp [Instr.checkKey, run_underlying Tryz.underlying3]
  have hs : (sizeOf 3).run Tryz.prog w = .ok 1 w := by kernel_rfl
  have hd : ∀ d, (Instr.checkKey e (d + 2) 47 (key3 f)).run Tryz.prog w = .ok () w := fun d => by
    unfold key3
    rw [Instr.checkKey]
    have hr : List.range' 0 3 = [0, 1, 2] := rfl
    simp [run_underlying Tryz.underlying47, hs, hr, part3a, part3b, part3c, h1]
  exact hd 9998
theorem eq3 (f g : Nat → Nat) (w : World) : (Op.equal 47 (key3 f) (key3 g)).run Tryz.prog w = .ok (decide (f 0 = g 0 ∧ f 1 = g 1 ∧ f 2 = g 2)) w := by
  have hs : (sizeOf 3).run Tryz.prog w = .ok 1 w := by kernel_rfl
  have h1 : ∀ d (a b : Int), (Op.equalIn (d + 1) 3 (.int .i64 a) (.int .i64 b)).run Tryz.prog w = .ok (a == b) w := fun d a b => by simp [Op.equalIn, run_underlying Tryz.underlying3]
  have hd : ∀ d, (Op.equalIn (d + 2) 47 (key3 f) (key3 g)).run Tryz.prog w = .ok (decide (f 0 = g 0 ∧ f 1 = g 1 ∧ f 2 = g 2)) w := fun d => by
    unfold key3
    rw [Op.equalIn]
    have hr : List.range' 0 3 = [0, 1, 2] := rfl
    simp [run_underlying Tryz.underlying47, hs, hr, part3a, part3b, part3c, h1]
    by_cases a : f 0 = g 0 <;> by_cases b : f 1 = g 1 <;> by_cases c : f 2 = g 2 <;> simp [a, b, c, Int.ofNat_inj]
  exact hd 9998
/-- The wanted set: n keys, ky 0, ky 1, .. -/
def MapW (w : World) (mb n : Nat) (ky : Nat → Nat → Nat) : Prop := ∃ es clock, w.heap[mb]? = some (.map es clock) ∧ es.size = n ∧ ∀ i, i < n → ∃ bo, es[i]? = some { key := key3 (ky i), val := .bool true, born := bo }
theorem MapW.blk {w w' : World} {mb n : Nat} {ky : Nat → Nat → Nat} (h : MapW w mb n ky) (e : w'.heap[mb]? = w.heap[mb]?) : MapW w' mb n ky := by
  obtain ⟨es, cl, h1, h2⟩ := h
  exact ⟨es, cl, e.trans h1, h2⟩
theorem MapW.lt {w : World} {mb n : Nat} {ky : Nat → Nat → Nat} (h : MapW w mb n ky) : mb < w.heap.size := by
  obtain ⟨es, cl, h1, h2⟩ := h
  exact (Array.getElem?_eq_some_iff.mp h1).1
theorem MapW.below {w w' : World} {mb n : Nat} {ky : Nat → Nat → Nat} (h : MapW w mb n ky) (hb : Below w.heap.size w w') : MapW w' mb n ky := h.blk (hb.block mb h.lt)
theorem MapW_new (w : World) : MapW (w.alloc (.map #[] 0)) w.heap.size 0 (fun _ _ => 0) := ⟨#[], 0, by
  show (w.heap.push (.map #[] 0))[w.heap.size]? = _
  simp, rfl, fun i hi => by omega⟩
theorem asking3 (f : Nat → Nat) (w : World) : ∀ (es : List MapEntry) (k : Nat) (ky : Nat → Nat → Nat), (∀ i, i < es.length → ∃ bo, es[i]? = some { key := key3 (ky i), val := .bool true, born := bo }) →
    (∃ i, i < es.length ∧ same3 (ky i) f ∧ (Instr.findAsking 47 (key3 f) es k).run Tryz.prog w = .ok (some (k + i, .bool true)) w) ∨ ((∀ i, i < es.length → ¬ same3 (ky i) f) ∧ (Instr.findAsking 47 (key3 f) es k).run Tryz.prog w = .ok none w)
  | [], k, ky, _ => .inr ⟨fun i hi => by simp at hi, by simp [Instr.findAsking]⟩
  | e :: es, k, ky, h => by
    obtain ⟨bo, h0⟩ := h 0 (by simp)
    have h0 : e = { key := key3 (ky 0), val := .bool true, born := bo } := by simpa using h0
    subst h0
    by_cases q : same3 (ky 0) f
    · refine .inl ⟨0, by simp, q, ?_⟩
      obtain ⟨a, b, c⟩ := (same3_iff _ _).1 q
      simp [Instr.findAsking, eq3, a, b, c]
    · have q' : ¬ (f 0 = ky 0 0 ∧ f 1 = ky 0 1 ∧ f 2 = ky 0 2) := fun z => q ((same3_iff _ _).2 ⟨z.1.symm, z.2.1.symm, z.2.2.symm⟩)
      have hd : decide (f 0 = ky 0 0 ∧ f 1 = ky 0 1 ∧ f 2 = ky 0 2) = false := decide_eq_false q'
      have step : (Instr.findAsking 47 (key3 f) ({ key := key3 (ky 0), val := .bool true, born := bo } :: es) k).run Tryz.prog w = (Instr.findAsking 47 (key3 f) es (k + 1)).run Tryz.prog w := by
        rw [Instr.findAsking]
        simp
        rw [eq3, hd]
        simp [Result.andThen]
      rcases asking3 f w es (k + 1) (fun i => ky (i + 1)) (fun i hi => by
        obtain ⟨bo, z⟩ := h (i + 1) (by simpa using hi)
        exact ⟨bo, by simpa using z⟩) with ⟨i, h1, h2, h3⟩ | ⟨h1, h2⟩
      · refine .inl ⟨i + 1, by simpa using h1, h2, ?_⟩
        rw [step, h3]
        simp [Nat.add_comm, Nat.add_left_comm]
      · refine .inr ⟨fun i hi => ?_, by rw [step, h2]⟩
        match i, hi with
        | 0, _ => exact q
        | i + 1, hi => exact h1 i (by simpa using hi)
theorem find3 {w wx : World} {mb n : Nat} {ky : Nat → Nat → Nat} (f : Nat → Nat) {es : Array MapEntry} (h1 : es.size = n) (h2 : ∀ i, i < n → ∃ bo, es[i]? = some { key := key3 (ky i), val := .bool true, born := bo }) :
    (∃ i, i < n ∧ same3 (ky i) f ∧ (Instr.findKey 47 (key3 f) es.toList).run Tryz.prog wx = .ok (some (i, .bool true)) wx) ∨ ((∀ i, i < n → ¬ same3 (ky i) f) ∧ (Instr.findKey 47 (key3 f) es.toList).run Tryz.prog wx = .ok none wx) := by
  have hl : es.toList.length = n := by simpa using h1
  have hk : (Instr.findKey 47 (key3 f) es.toList).run Tryz.prog wx = (Instr.findAsking 47 (key3 f) es.toList).run Tryz.prog wx := by
    unfold Instr.findKey
    rcases he : es.toList with _ | ⟨e, l⟩
    · simp [run_underlying Tryz.underlying47, Instr.findNow, Instr.findAsking]
    · simp [run_underlying Tryz.underlying47, Instr.findNow, Instr.sameNow]
  rcases asking3 f wx es.toList 0 ky (fun i hi => by
    obtain ⟨bo, z⟩ := h2 i (by omega)
    exact ⟨bo, by simpa using z⟩) with ⟨i, z1, z2, z3⟩ | ⟨z1, z2⟩
  · exact .inl ⟨i, by omega, z2, by rw [hk, z3]; simp⟩
  · exact .inr ⟨fun i hi => z1 i (by omega), by rw [hk, z2]⟩
theorem MapW.len {w : World} {mb n : Nat} {ky : Nat → Nat → Nat} (h : MapW w mb n ky) (ty : TypeId) : (Builtin.len_ #[48] ty #[.map (some mb)]).run Tryz.prog w = .ok (.int .i64 (n : Int)) w := by
  obtain ⟨es, cl, h1, h2, h3⟩ := h
  simp [Builtin.len_, run_underlying Tryz.underlying48, h1, run_getObj_map w _ _ _ h1, h2]
  rfl
theorem MapW.look {w : World} {mb n : Nat} {ky : Nat → Nat → Nat} (h : MapW w mb n ky) (f : Nat → Nat) (hf : ∃ i, i < n ∧ same3 (ky i) f) : (Instr.lookup 48 (.map (some mb)) (key3 f) false).run Tryz.prog w = .ok (.bool true) w := by
  obtain ⟨es, cl, h1, h2, h3⟩ := h
  rcases find3 (w := w) (mb := mb) (wx := w) f h2 h3 with ⟨i, z1, z2, z3⟩ | ⟨z1, z2⟩
  · simp [Instr.lookup, run_underlying Tryz.underlying48, h1, run_getObj_map w _ _ _ h1, ckey3, z3]
  · obtain ⟨i, hi, hs⟩ := hf
    exact absurd hs (z1 i hi)
theorem MapW.put {w : World} {mb n : Nat} {ky : Nat → Nat → Nat} (h : MapW w mb n ky) (f : Nat → Nat) : ∃ w' n' ky', (Instr.mapUpdate 48 (.map (some mb)) (key3 f) (.bool true)).run Tryz.prog w = .ok () w' ∧ MapW w' mb n' ky' ∧ Wr mb w w' ∧ n' ≤ n + 1 ∧ (∀ r, (∃ i, i < n' ∧ same3 (ky' i) r) ↔ (∃ i, i < n ∧ same3 (ky i) r) ∨ same3 f r) ∧ ((∀ i j, i < n → j < i → ¬ same3 (ky i) (ky j)) → ∀ i j, i < n' → j < i → ¬ same3 (ky' i) (ky' j)) := by
  have hl := h.lt
  obtain ⟨es, cl, h1, h2, h3⟩ := h
  rcases find3 (w := w) (mb := mb) (wx := w) f h2 h3 with ⟨i, z1, z2, z3⟩ | ⟨z1, z2⟩
  · obtain ⟨bo, hi⟩ := h3 i z1
    have ek := z2.key
    have hsb : Instr.sameBits 10000 (key3 (ky i)) (key3 f) = true := by
      rw [ek]
      unfold key3
      simp [Instr.sameBits]
    refine ⟨{ w with heap := w.heap.setIfInBounds mb (.map (es.modify i fun e => { e with key := key3 f, val := .bool true }) cl) }, n, ky, ?_, ?_, ?_, by omega, fun r => ⟨.inl, fun z => ?_⟩, fun hd => hd⟩
    · simp [Instr.mapUpdate, run_underlying Tryz.underlying48, h1, run_getObj_map w _ _ _ h1, ckey3, z3, setObj_map _ h1, hi, Instr.keyThatStays, hsb]
    · refine ⟨_, cl, by simp [hl]; rfl, by simp [h2], fun j hj => ?_⟩
      obtain ⟨bo', hj'⟩ := h3 j hj
      by_cases q : j = i
      · subst q
        exact ⟨bo', by simp [Array.getElem?_modify, hj', ek]⟩
      · exact ⟨bo', by simp [Array.getElem?_modify, hj', Ne.symm q]⟩
    · exact ⟨rfl, rfl, rfl, by simp, fun q h1 h2 => Array.getElem?_setIfInBounds_ne (fun e => h2 e.symm)⟩
    · rcases z with z | z
      · exact z
      · exact ⟨i, z1, fun t ht => (z2 t ht).trans (z t ht)⟩
  · refine ⟨{ w with heap := w.heap.setIfInBounds mb (.map (es.push { key := key3 f, val := .bool true, born := cl }) (cl + 1)) }, n + 1, fun i => if i = n then f else ky i, ?_, ?_, ?_, by omega, fun r => ⟨?_, ?_⟩, fun hd => ?_⟩
    · simp [Instr.mapUpdate, run_underlying Tryz.underlying48, h1, run_getObj_map w _ _ _ h1, ckey3, z2, setObj_map _ h1]
    · refine ⟨_, cl + 1, by simp [hl]; rfl, by simp [h2], fun j hj => ?_⟩
      by_cases q : j = n
      · refine ⟨cl, ?_⟩
        show (es.push _)[j]? = some { key := key3 (if j = n then f else ky j), val := .bool true, born := cl }
        rw [if_pos q, Array.getElem?_push, if_pos (by omega)]
      · obtain ⟨bo', hj'⟩ := h3 j (by omega)
        refine ⟨bo', ?_⟩
        show (es.push _)[j]? = some { key := key3 (if j = n then f else ky j), val := .bool true, born := bo' }
        rw [if_neg q, Array.getElem?_push, if_neg (by omega), hj']
    · exact ⟨rfl, rfl, rfl, by simp, fun q h1 h2 => Array.getElem?_setIfInBounds_ne (fun e => h2 e.symm)⟩
    · rintro ⟨i, hi, hs⟩
      have hs : same3 (if i = n then f else ky i) r := hs
      by_cases q : i = n
      · rw [if_pos q] at hs; exact .inr hs
      · rw [if_neg q] at hs; exact .inl ⟨i, by omega, hs⟩
    · rintro (⟨i, hi, hs⟩ | hs)
      · exact ⟨i, by omega, by show same3 (if i = n then f else ky i) r; rw [if_neg (by omega)]; exact hs⟩
      · exact ⟨n, by omega, by show same3 (if n = n then f else ky n) r; rw [if_pos rfl]; exact hs⟩
    · intro i j hi hj
      show ¬ same3 (if i = n then f else ky i) (if j = n then f else ky j)
      by_cases q : i = n
      · rw [if_pos q, if_neg (by omega)]
        exact fun z => z1 j (by omega) (fun t ht => (z t ht).symm)
      · rw [if_neg q, if_neg (by omega)]
        exact hd i j (by omega) hj
end Go.Proofs.Qxb6500880aGreat
