import Derived.Test.Qxb6500877aGreatDoorWl
set_option linter.unusedVariables false
set_option linter.unusedSimpArgs false
namespace Go.Proofs.Qxb6500877aGreatDoor
open Go.RowKit

/-- Below block 'base', only cells lo .. hi-1 of block b, and the map in block m, have been written. -/
structure Mut3 (b lo hi m base : Nat) (w w' : World) : Prop where
  os : w'.os = w.os
  tape : w'.tape = w.tape
  output : w'.output = w.output
  size : w.heap.size ≤ w'.heap.size
  block : ∀ k, k < base → k ≠ b → k ≠ m → w'.heap[k]? = w.heap[k]?
  frz : ∀ o, w'.frozen? ⟨b, o, none⟩ = w.frozen? ⟨b, o, none⟩
  cell : ∀ o, ¬ (lo ≤ o ∧ o < hi) → w'.cell? ⟨b, o, none⟩ = w.cell? ⟨b, o, none⟩
theorem Mut2.to3 {b lo hi m base : Nat} {w w' : World} (h : Mut2 b lo hi m w w') (hb : base ≤ w.heap.size) : Mut3 b lo hi m base w w' := ⟨h.os, h.tape, h.output, h.size, fun k hk h1 h2 => h.block k (Nat.lt_of_lt_of_le hk hb) h1 h2, h.frz, h.cell⟩
theorem Mut3.refl (b lo hi m base : Nat) (w : World) : Mut3 b lo hi m base w w := ⟨rfl, rfl, rfl, Nat.le_refl _, fun _ _ _ _ => rfl, fun _ => rfl, fun _ _ => rfl⟩
theorem Mut3.trans {b lo hi m base : Nat} {x y z : World} (h : Mut3 b lo hi m base x y) (k : Mut3 b lo hi m base y z) : Mut3 b lo hi m base x z :=
  ⟨k.os.trans h.os, k.tape.trans h.tape, k.output.trans h.output, Nat.le_trans h.size k.size, fun i hi hb hm => (k.block i hi hb hm).trans (h.block i hi hb hm), fun o => (k.frz o).trans (h.frz o), fun o ho => (k.cell o ho).trans (h.cell o ho)⟩
theorem Mut3.drew {b lo hi m base : Nat} {w w' : World} (h : Mut3 b lo hi m base w w') : Mut3 b lo hi m base w w'.drew := ⟨h.os, h.tape, h.output, h.size, h.block, h.frz, h.cell⟩
theorem Mut3.wide {b lo hi lo' hi' m base : Nat} {w w' : World} (h : Mut3 b lo hi m base w w') (h1 : lo' ≤ lo) (h2 : hi ≤ hi') : Mut3 b lo' hi' m base w w' :=
  ⟨h.os, h.tape, h.output, h.size, h.block, h.frz, fun o ho => h.cell o (by omega)⟩
theorem Mut.to3 {b lo hi m base : Nat} {w w' : World} (h : Mut b lo hi w w') (hb : base ≤ w.heap.size) : Mut3 b lo hi m base w w' := (h.to2 (m := m)).to3 hb
theorem Mut3.setCell {b lo hi m base : Nat} {w w' : World} (h : Mut3 b lo hi m base w w') (hb : base ≤ w'.heap.size) {o : Nat} (h1 : lo ≤ o) (h2 : o < hi) (v : Value) : Mut3 b lo hi m base w (w'.setCell ⟨b, o, none⟩ v) :=
  h.trans (((Mut.refl b lo hi w').setCell h1 h2 v).to3 hb)
theorem Mut3.far {b lo hi m base : Nat} {w w' : World} (h : Mut3 b lo hi m base w w') {k o : Nat} {v : Value} (hk : k ≠ b) (hm : k ≠ m) (hb : k < base) (hc : w.cell? ⟨k, o, none⟩ = some v) : w'.cell? ⟨k, o, none⟩ = some v := by
  rw [← hc]
  exact World.cell?_of_block (h.block k hb hk hm)
theorem grown_mut3 {b lo hi m base : Nat} {w w' : World} {row : Option Nat} (h : w.grownBy w' row) (hb : base ≤ w.heap.size) (hB : b < base) (hr : ∀ k, row = some k → base ≤ k) : Mut3 b lo hi m base w w' := by
  have key : ∀ k, k < base → w'.heap[k]? = w.heap[k]? := fun k hk => h.block k (Nat.lt_of_lt_of_le hk hb) (fun e => by have := hr k e.symm; omega)
  exact ⟨h.os, h.tape, h.output, h.size, fun k hk _ _ => key k hk, fun o => World.frozen?_of_block (a := ⟨b, o, none⟩) (key b hB), fun o _ => World.cell?_of_block (a := ⟨b, o, none⟩) (key b hB)⟩
theorem WheelAt.same {w w' : World} {B : Nat} {s : Wheel} (h : WheelAt w B s) (hb : w'.heap[B]? = w.heap[B]?) : WheelAt w' B s :=
  ⟨fun o ho => (World.cell?_of_block (a := ⟨B, 1 + o, none⟩) hb).trans (h.cell o ho), fun o => (World.frozen?_of_block (a := ⟨B, o, none⟩) hb).trans (h.frz o)⟩
theorem TimersAt.grown {w w' : World} {B n base : Nat} {s : Wheel} {f : Int → Option Int} {row : Option Nat} (h : TimersAt w B n s f) (hg : w.grownBy w' row) (hb : base ≤ w.heap.size) (hB : B < base) (hm : s.mb < base) (hr : ∀ k, row = some k → base ≤ k) : TimersAt w' B n s f := by
  have key : ∀ k, k < base → w'.heap[k]? = w.heap[k]? := fun k hk => hg.block k (Nat.lt_of_lt_of_le hk hb) (fun e => by have := hr k e.symm; omega)
  exact ⟨h.wh.same (key B hB), h.mp.block (key _ hm), h.ne⟩

/-- One timer that went off. -/
structure FiredS where
  id : Int
  core : Int
  dl : Int
  ck : Int
  t : Int
def firedCells (l : List FiredS) : List Value := l.flatMap (fun x => [.int .u64 x.id, .int .i64 x.core, .int .u64 x.dl, .int .u64 x.ck, .int .u64 x.t])
theorem firedCells_snoc (l : List FiredS) (x : FiredS) : firedCells (l ++ [x]) = firedCells l ++ [.int .u64 x.id, .int .i64 x.core, .int .u64 x.dl, .int .u64 x.ck, .int .u64 x.t] := by simp [firedCells]
def FiredAt (w : World) (base : Nat) (v : Value) (l : List FiredS) : Prop := w.ownsRow base 86 5 v l.length (firedCells l)
theorem FiredAt.nil (w : World) (base : Nat) : FiredAt w base (.slice none 0 0) [] := World.ownsRow_nil _ _ _ _
theorem FiredAt.mut2 {w w' : World} {B lo hi m base : Nat} {v : Value} {l : List FiredS} (h : FiredAt w base v l) (M : Mut2 B lo hi m w w') (hB : B < base) (hm : m < base) : FiredAt w' base v l := by
  refine ⟨h.1, ?_⟩
  rcases h.2 with e | ⟨g, cap, cur, h1, h2, h3, h4⟩
  · exact .inl e
  · refine .inr ⟨g, cap, cur, h1, h2, ?_, h4⟩
    have hlt : g < w.heap.size := by
      by_cases hc : g < w.heap.size
      · exact hc
      · rw [Array.getElem?_eq_none (by omega)] at h3
        simp at h3
    rw [M.block g hlt (by omega) (by omega)]
    exact h3
theorem FiredAt.mut {w w' : World} {B lo hi base : Nat} {v : Value} {l : List FiredS} (h : FiredAt w base v l) (M : Mut B lo hi w w') (hB : B < base) : FiredAt w' base v l := h.mut2 (m := B) M.to2 hB hB
theorem FiredAt.drew {w : World} {base : Nat} {v : Value} {l : List FiredS} (h : FiredAt w base v l) : FiredAt w.drew base v l := h
theorem info86 : (Tryz.prog.info? 86).map (fun i => (i.zero, i.size, i.bytes)) = some (some (.agg #[.int .u64 0, .int .i64 0, .int .u64 0, .int .u64 0, .int .u64 0]), 5, 40) := by kernel_rfl
theorem cell_five_new (w : World) (a b c d e : Value) (t : TypeId) : ∀ j u, [a, b, c, d, e][j]? = some u → (w.alloc (.cells #[a, b, c, d, e] t)).cell? ((⟨w.heap.size, 0, none⟩ : Addr).add j) = some u := by
  intro j u hj
  match j, hj with
  | 0, hj => simp at hj; subst hj; simp [Addr.add]
  | 1, hj => simp at hj; subst hj; simp [Addr.add]
  | 2, hj => simp at hj; subst hj; simp [Addr.add]
  | 3, hj => simp at hj; subst hj; simp [Addr.add]
  | 4, hj => simp at hj; subst hj; simp [Addr.add]
  | j + 5, hj => simp at hj

def firedOf (s : Wheel) (i : Nat) (t : Int) : FiredS := ⟨(s.nd i).id, (s.nd i).core, (s.nd i).dl, (s.nd i).ck, t⟩
set_option maxHeartbeats 4000000 in
theorem expire_any {w : World} {B n base : Nat} {s : Wheel} {f : Int → Option Int} {i : Nat} {at_ : Int} {v : Value} {l : List FiredS} (T : TimersAt w B n s f) (hi : i < 64) (hid : 0 ≤ (s.nd i).id ∧ (s.nd i).id < 18446744073709551616) (hl : 0 < s.live ∧ s.live < 1000)
    (hF : FiredAt w base v l) (hll : l.length < 100000) (hB : B < base) (hm : s.mb < base) (hb : base ≤ w.heap.size) :
    Calls Tryz.prog 168 #[.pointer (some ⟨B, 1, none⟩), .int .i16 (i : Int), .int .u64 at_, v] w fun e w' => ∃ v', e = .returned v' ∧ TimersAt w' B n (retireF s i) (forget f (s.nd i).id) ∧ FiredAt w' base v' (l ++ [firedOf s i at_]) ∧ Mut3 B 1 1939 s.mb base w w' := by
  obtain ⟨x0, x1, x2, x3, _, _, _, _⟩ := T.wh.node hi
  have i0 : (0 : Int) ≤ i := by omega
  have i1 : (i : Int) < 64 := by omega
  obtain ⟨i0_, hi_, hz0, hz1, hz2⟩ := info_parts info86
  have hF' : w.ownsRow base 86 5 v l.length (firedCells l) := hF
  go_enter Tryz.func168, Tryz.ntmps168
  go_wp2_with (first | (at_builtin; refine wpList_append_own _ rfl (.tmp 9) (.tmp 19) 41 rfl base 86 i0_ (.agg #[.int .u64 0, .int .i64 0, .int .u64 0, .int .u64 0, .int .u64 0]) 5 40 Tryz.underlying41 hi_ hz0 hz1 hz2 rfl (by decide) v l.length (firedCells l) rfl (hF'.alloc _) ⟨w.heap.size, 0, none⟩ 1 1 [.int .u64 (s.nd i).id, .int .i64 (s.nd i).core, .int .u64 (s.nd i).dl, .int .u64 (s.nd i).ck, .int .u64 at_] rfl rfl (cell_five_new _ _ _ _ _ _ _) (fun x hx => by simp at hx; rcases hx with rfl | rfl | rfl | rfl | rfl <;> rfl) (by unfold maxLen; omega) (by omega) (by simp; omega) ?_; intro v' w3 hown' hgrow3 hnil3) | fail)
  have hr : ∀ k, v.ownBlock = some k → base ≤ k := fun k e => (World.ownsRow.lt hF' k e).1
  generalize hcs : Obj.cells #[Value.int IntKind.u64 (s.nd i).id, Value.int IntKind.i64 (s.nd i).core, Value.int IntKind.u64 (s.nd i).dl, Value.int IntKind.u64 (s.nd i).ck, Value.int IntKind.u64 at_] 86 = ob at hgrow3
  have G0 : w.grownBy (w.alloc ob) none := World.grownBy_alloc w ob none
  have hb1 : base ≤ (w.alloc ob).heap.size := Nat.le_trans hb G0.size
  have T1 := T.grown G0 hb hB hm (by simp)
  have T3 := T1.grown hgrow3 hb1 hB hm hr
  have M1 : Mut3 B 1 1939 s.mb base w (w.alloc ob) := grown_mut3 G0 hb hB (by simp)
  have M3 : Mut3 B 1 1939 s.mb base w w3 := M1.trans (grown_mut3 hgrow3 hb1 hB hr)
  have F3 : FiredAt w3 base v' (l ++ [firedOf s i at_]) := by
    show w3.ownsRow base 86 5 v' (l ++ [firedOf s i at_]).length (firedCells (l ++ [firedOf s i at_]))
    rw [firedCells_snoc, List.length_append]
    exact hown'
  have hb3 : base ≤ w3.heap.size := Nat.le_trans hb M3.size
  clear hcs hgrow3 hown' hnil3 G0 T1 M1 x0 x1 x2 x3 hF' hF
  refine (retire_any T3 hi hid hl).mono ?_
  rintro e w4 ⟨rfl, T4, M4⟩
  go_wp2
  go_ret
  exact ⟨v', rfl, T4, F3.mut2 M4 hB hm, M3.trans (M4.to3 hb3)⟩

end Go.Proofs.Qxb6500877aGreatDoor
