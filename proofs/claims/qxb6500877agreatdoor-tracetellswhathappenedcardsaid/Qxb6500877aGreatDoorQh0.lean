import Derived.Deep.WholeRow
import Derived.Test.Qxb6500877aGreatDoorQf
import Derived.Test.Qxb6500877aGreatDoorQg
set_option linter.unusedVariables false
set_option linter.unusedSimpArgs false
namespace Go.Proofs.Qxb6500877aGreatDoor
open Go.RowKit

/-- The cells of a state with nothing in it. -/
def zst (j : Nat) : Value :=
  if j = 0 then .int .u64 0 else if j < 49 then (if (j - 1) % 3 = 0 then .int .u8 0 else .int .i64 0)
  else if j < 89 then (if (j - 49) % 10 = 0 then .int .i64 0 else if (j - 49) % 10 = 1 then .slice none 0 0 else if (j - 49) % 10 = 2 then .int .i64 0 else .int .u64 0)
  else if j < 105 then .slice none 0 0 else if j < 121 then .int .u64 0 else if j = 121 then .slice none 0 0 else .int .u64 0
def zero61 : Array Value := ((List.range 123).map zst).toArray
theorem zero61_size : zero61.size = 123 := by simp [zero61]
theorem info61 : (Tryz.prog.info? 61).map (fun i => (i.zero, i.size)) = some (some (.agg zero61), 123) := by kernel_rfl
theorem zv61 : ∀ w, (zeroValue 61).run Tryz.prog w = .ok (.agg zero61) w := (zero_of_info info61).1
theorem sz61 : (Tryz.prog.info? 61).map (·.size) = some 123 := (zero_of_info info61).2
/-- Numbers listed in memory, in a block not below base. -/
def IdsAt (w : World) (base : Nat) (v : Value) (l : List Nat) : Prop :=
  (l = [] ∧ v = .slice none 0 0) ∨ ∃ g cap, v = .slice (some ⟨g, 0, none⟩) l.length cap ∧ base ≤ g ∧ g < w.heap.size ∧ ∀ (j x : Nat), l[j]? = some x → w.cell? ⟨g, j, none⟩ = some (.int .i64 (x : Int))
theorem ids_own {w : World} {base : Nat} {v : Value} {l : List Nat} (h : w.ownsRow base 35 1 v l.length (idCells l)) : IdsAt w base v l := by
  rcases h.2 with ⟨e1, e2⟩ | ⟨g, cap, cur, e, hb, hh, _⟩
  · exact .inl ⟨List.length_eq_zero_iff.1 e2, e1⟩
  · subst e
    refine .inr ⟨g, cap, rfl, hb, (h.lt g rfl).2, fun j x hj => ?_⟩
    have := h.cells (g := g) rfl j (.int .i64 (x : Int)) (by rw [idCells, List.getElem?_map, hj]; rfl)
    have e : (⟨g, 0, none⟩ : Addr).add j = ⟨g, j, none⟩ := by simp [Addr.add]; intro h; exact h.symm
    rw [e] at this
    exact this
/-- The visible state. -/
structure Snap where
  now : Int
  tk : Nat → Int × Int × Int
  cur : Nat → Int
  q : Nat → List Nat
  ld : Nat → Int
  st : Nat → Int
  box : Nat → List MsgV
  acc : Nat → Int
  tm : List TmR
  nx : Int
/-- What lies in cell j of a state in memory. -/
def SCell (w : World) (base : Nat) (S : Snap) (j : Nat) (v : Value) : Prop :=
  if j = 0 then v = .int .u64 S.now
  else if j < 49 then (if (j - 1) % 3 = 0 then v = .int .u8 (S.tk ((j - 1) / 3)).1 else if (j - 1) % 3 = 1 then v = .int .i64 (S.tk ((j - 1) / 3)).2.1 else v = .int .i64 (S.tk ((j - 1) / 3)).2.2)
  else if j < 89 then (if (j - 49) % 10 = 0 then v = .int .i64 (S.cur ((j - 49) / 10)) else if (j - 49) % 10 = 1 then IdsAt w base v (S.q ((j - 49) / 10)) else if (j - 49) % 10 = 2 then v = .int .i64 (S.ld ((j - 49) / 10)) else v = .int .u64 (S.st ((j - 49) / 10 * 7 + ((j - 49) % 10 - 3))))
  else if j < 105 then MsgsAt w base v (S.box (j - 89))
  else if j < 121 then v = .int .u64 (S.acc (j - 105))
  else if j = 121 then TmsAt w base v S.tm
  else v = .int .u64 S.nx
theorem IdsAt.keep {w w' : World} {base : Nat} {v : Value} {l : List Nat} (h : IdsAt w base v l) (hs : w.heap.size ≤ w'.heap.size) (hk : ∀ k, base ≤ k → k < w.heap.size → w'.heap[k]? = w.heap[k]?) : IdsAt w' base v l := by
  rcases h with h | ⟨g, cap, h1, h2, h3, h4⟩
  · exact .inl h
  · exact .inr ⟨g, cap, h1, h2, by omega, fun j x hj => (World.cell?_of_block (a := ⟨g, j, none⟩) (hk g h2 h3)).trans (h4 j x hj)⟩
theorem MsgsAt.keep {w w' : World} {base : Nat} {v : Value} {l : List MsgV} (h : MsgsAt w base v l) (hs : w.heap.size ≤ w'.heap.size) (hk : ∀ k, base ≤ k → k < w.heap.size → w'.heap[k]? = w.heap[k]?) : MsgsAt w' base v l := by
  rcases h with h | ⟨g, cap, h1, h2, h3, h4⟩
  · exact .inl h
  · exact .inr ⟨g, cap, h1, h2, by omega, fun j x hj => (h4 j x hj).blk (hk g h2 h3)⟩
theorem TmsAt.keep {w w' : World} {base : Nat} {v : Value} {l : List TmR} (h : TmsAt w base v l) (hs : w.heap.size ≤ w'.heap.size) (hk : ∀ k, base ≤ k → k < w.heap.size → w'.heap[k]? = w.heap[k]?) : TmsAt w' base v l := by
  rcases h with h | ⟨g, cap, h1, h2, h3, h4⟩
  · exact .inl h
  · refine .inr ⟨g, cap, h1, h2, by omega, fun j x hj => ?_⟩
    obtain ⟨q0, q1, q2, q3⟩ := h4 j x hj
    have e := hk g h2 h3
    exact ⟨(World.cell?_of_block (a := ⟨g, j * 4, none⟩) e).trans q0, (World.cell?_of_block (a := ⟨g, j * 4 + 1, none⟩) e).trans q1, (World.cell?_of_block (a := ⟨g, j * 4 + 2, none⟩) e).trans q2, (World.cell?_of_block (a := ⟨g, j * 4 + 3, none⟩) e).trans q3⟩
theorem IdsAt.wide {w : World} {base base' : Nat} {v : Value} {l : List Nat} (h : IdsAt w base v l) (hb : base' ≤ base) : IdsAt w base' v l := by
  rcases h with h | ⟨g, cap, h1, h2, h3, h4⟩
  · exact .inl h
  · exact .inr ⟨g, cap, h1, by omega, h3, h4⟩
theorem MsgsAt.wide {w : World} {base base' : Nat} {v : Value} {l : List MsgV} (h : MsgsAt w base v l) (hb : base' ≤ base) : MsgsAt w base' v l := by
  rcases h with h | ⟨g, cap, h1, h2, h3, h4⟩
  · exact .inl h
  · exact .inr ⟨g, cap, h1, by omega, h3, h4⟩
theorem TmsAt.wide {w : World} {base base' : Nat} {v : Value} {l : List TmR} (h : TmsAt w base v l) (hb : base' ≤ base) : TmsAt w base' v l := by
  rcases h with h | ⟨g, cap, h1, h2, h3, h4⟩
  · exact .inl h
  · exact .inr ⟨g, cap, h1, by omega, h3, h4⟩
theorem SCell.keep {w w' : World} {base : Nat} {S : Snap} {j : Nat} {v : Value} (h : SCell w base S j v) (hs : w.heap.size ≤ w'.heap.size) (hk : ∀ k, base ≤ k → k < w.heap.size → w'.heap[k]? = w.heap[k]?) : SCell w' base S j v := by
  unfold SCell at h ⊢
  repeat' split at h
  all_goals simp_all only [if_true, if_false]
  all_goals first | exact h | exact IdsAt.keep h hs hk | exact MsgsAt.keep h hs hk | exact TmsAt.keep h hs hk
theorem SCell.wide {w : World} {base base' : Nat} {S : Snap} {j : Nat} {v : Value} (h : SCell w base S j v) (hb : base' ≤ base) : SCell w base' S j v := by
  unfold SCell at h ⊢
  repeat' split at h
  all_goals simp_all only [if_true, if_false]
  all_goals first | exact h | exact IdsAt.wide h hb | exact MsgsAt.wide h hb | exact TmsAt.wide h hb
/-- A state being made: the cells in D are as they shall be. -/
structure StX (w : World) (b base : Nat) (D : Nat → Prop) (S : Snap) : Prop where
  ex : ∀ j, j < 123 → ∃ v, w.cell? ⟨b, j, none⟩ = some v ∧ (D j → SCell w base S j v)
  row : ∃ cs : Array Value, w.heap[b]? = some (.cells cs 61) ∧ cs.size = 123
theorem StX.lt {w : World} {b base : Nat} {D : Nat → Prop} {S : Snap} (h : StX w b base D S) : b < w.heap.size := by
  obtain ⟨v, h1, _⟩ := h.ex 0 (by omega)
  exact World.block_lt_of_cell? _ _ h1
theorem StX.fz {w : World} {b base : Nat} {D : Nat → Prop} {S : Snap} (h : StX w b base D S) (o : Nat) : w.frozen? ⟨b, o, none⟩ = false := by
  obtain ⟨cs, h1, h2⟩ := h.row
  simp [World.frozen?, h1]
theorem StX.put {w : World} {b base j : Nat} {D : Nat → Prop} {S : Snap} {v : Value} (h : StX w b base D S) (hb : b < base) (hj : j < 123) (hv : SCell w base S j v) (D' : Nat → Prop) (hD : ∀ i, i < 123 → D' i → D i ∨ i = j) : StX (w.setCell ⟨b, j, none⟩ v) b base D' S := by
  have keep : ∀ k, base ≤ k → k < w.heap.size → (w.setCell ⟨b, j, none⟩ v).heap[k]? = w.heap[k]? := fun k h1 _ => by
    simp only [World.setCell, Array.getElem?_modify]
    rw [if_neg (by omega)]
  have hs : w.heap.size ≤ (w.setCell ⟨b, j, none⟩ v).heap.size := by simp
  refine ⟨fun i hi => ?_, ?_⟩
  · obtain ⟨u, hu, hd⟩ := h.ex i hi
    by_cases e : i = j
    · subst e
      exact ⟨v, World.cell?_setCell_same _ _ _ hu, fun _ => hv.keep hs keep⟩
    · refine ⟨u, by rw [World.cell?_setCell_other _ _ _ _ (by simp <;> omega)]; exact hu, fun q => ?_⟩
      rcases hD i hi q with q | q
      · exact (hd q).keep hs keep
      · exact absurd q e
  · obtain ⟨cs, h1, h2⟩ := h.row
    refine ⟨cs.setIfInBounds j v, ?_, by simpa using h2⟩
    simp only [World.setCell, Array.getElem?_modify]
    rw [if_pos trivial, h1]
    rfl
theorem StX.grow {w w' : World} {b base : Nat} {D : Nat → Prop} {S : Snap} (h : StX w b base D S) (hs : w.heap.size ≤ w'.heap.size) (hk : ∀ k, k < w.heap.size → w'.heap[k]? = w.heap[k]?) : StX w' b base D S := by
  have hb := h.lt
  refine ⟨fun j hj => ?_, ?_⟩
  · obtain ⟨v, h1, h2⟩ := h.ex j hj
    exact ⟨v, (World.cell?_of_block (a := ⟨b, j, none⟩) (hk b hb)).trans h1, fun q => (h2 q).keep hs (fun k _ hk' => hk k hk')⟩
  · obtain ⟨cs, h1, h2⟩ := h.row
    exact ⟨cs, (hk b hb).trans h1, h2⟩
theorem StX.wide {w : World} {b base base' : Nat} {D : Nat → Prop} {S : Snap} (h : StX w b base D S) (hb : base' ≤ base) : StX w b base' D S :=
  ⟨fun j hj => by
    obtain ⟨v, h1, h2⟩ := h.ex j hj
    exact ⟨v, h1, fun q => (h2 q).wide hb⟩, h.row⟩
theorem StX.drew {w : World} {b base : Nat} {D : Nat → Prop} {S : Snap} (h : StX w b base D S) : StX w.drew b base D S := h.grow (Nat.le_refl _) (fun _ _ => rfl)
theorem zero_cell (w : World) {j : Nat} (hj : j < 123) : ∃ v, (w.alloc (.cells zero61 61)).cell? ⟨w.heap.size, j, none⟩ = some v := by
  rw [cell_of_row _ _ _ zero61 61 (0, 0) (heap_alloc_last w _)]
  exact ⟨zero61[j]'(by rw [zero61_size]; exact hj), Array.getElem?_eq_getElem _⟩
theorem stx_new (w : World) (base : Nat) (S : Snap) : StX (w.alloc (.cells zero61 61)) w.heap.size base (fun _ => False) S :=
  ⟨fun j hj => by
    obtain ⟨v, hv⟩ := zero_cell w hj
    exact ⟨v, hv, fun q => q.elim⟩, ⟨zero61, heap_alloc_last w _, zero61_size⟩⟩
/-- A state's value, its lists in memory. -/
def SnapV (w : World) (base : Nat) (v : Value) (S : Snap) : Prop := ∃ cs : Array Value, v = .agg cs ∧ cs.size = 123 ∧ ∀ j u, cs[j]? = some u → SCell w base S j u
end Go.Proofs.Qxb6500877aGreatDoor
