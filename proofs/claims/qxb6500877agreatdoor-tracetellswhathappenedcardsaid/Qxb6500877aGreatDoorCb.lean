import Derived.Maps.RangeWalk
import Derived.Deep.CutBlock
import Derived.Test.Qxb6500877aGreatDoorCa
set_option linter.unusedVariables false
set_option linter.unusedSimpArgs false
namespace Go.Proofs.Qxb6500877aGreatDoor
open Go.RowKit

/-- The numbers in the map that have been passed. -/
def passed (f : Int → Option Int) (left : Lit → Bool) (id : Int) : Option Int := if left (.int .u64 id) = true then none else f id
theorem MapOf.congr {w : World} {mb n : Nat} {f g : Int → Option Int} (h : MapOf w mb n f) (e : ∀ id, 0 ≤ id → id < 18446744073709551616 → f id = g id) : MapOf w mb n g := by
  obtain ⟨D, h, r⟩ := h
  exact ⟨D, h, fun id h0 h1 => by rw [← e id h0 h1]; exact r id h0 h1⟩
theorem turned_grown {w w' : World} {m : Nat} (h : w.mapTurned w' m) : w.grownBy w' (some m) := by
  have hk := fun {k : Nat} (hk : k ≠ m) => turned_block h hk
  obtain ⟨es, c, es', c', hb, rfl⟩ := h
  exact ⟨rfl, rfl, rfl, by simp [Go.ChangeMaps.setBlock], fun k _ h2 => hk (fun e => h2 (by rw [e]))⟩
theorem ranges_le {w : World} {b r n cnt : Nat} {D : DataW Unit} {left : Lit → Bool} {R : Value → Option (DataW Unit × List MemPlace)} (h : w.ranges Tryz.prog 36 R b r n D left cnt) : cnt ≤ n := by
  obtain ⟨es, clock, since, seen, c0, _, _, h1, _, _, _, h2, _⟩ := h
  have : (leftOf es seen).size ≤ es.size := by
    unfold leftOf
    exact Array.size_filter_le
  omega
theorem same_lit (a b : Int) : (Lit.int .u64 a).sameKey (.int .u64 b) = decide (a = b) := by
  simp [Lit.sameKey]
theorem Mut.grown {b lo hi r : Nat} {x y z : World} (h : Mut b lo hi x y) (k : y.grownBy z (some r)) (hr : x.heap.size ≤ r) (hb : b < x.heap.size) : Mut b lo hi x z :=
  have hk : ∀ i, i < x.heap.size → z.heap[i]? = y.heap[i]? := fun i hi => k.block i (Nat.lt_of_lt_of_le hi h.size) (fun e => by have := Option.some.inj e; omega)
  ⟨k.os.trans h.os, k.tape.trans h.tape, k.output.trans h.output, Nat.le_trans h.size k.size, fun i hi hne => (hk i hi).trans (h.block i hi hne),
    fun o => (World.frozen?_of_block (a := ⟨b, o, none⟩) (hk b hb)).trans (h.frz o), fun o ho => (World.cell?_of_block (a := ⟨b, o, none⟩) (hk b hb)).trans (h.cell o ho)⟩
theorem wf64' {x : Int} (h : (Lit.int .u64 x).wf = true) : 0 ≤ x ∧ x < 18446744073709551616 := by
  have : (decide ((0 : Int) ≤ x) && decide (x ≤ 18446744073709551615)) = true := h
  simp at this; omega
theorem wf16' {x : Int} (h : (Lit.int .i16 x).wf = true) : -32768 ≤ x ∧ x < 32768 := by
  have : (decide ((-32768 : Int) ≤ x) && decide (x ≤ 32767)) = true := h
  simp at this; omega
theorem entry_of {D : DataW Unit} {fm : Int → Option Int} (hD : ∀ id : Int, 0 ≤ id → id < 18446744073709551616 → Maps.has D (.int .u64 id) = (fm id).isSome ∧ D.atKey (.int .u64 id) (.lit (.int .i16 0)) = .lit (.int .i16 ((fm id).getD 0))) {x c : Int} (h0 : 0 ≤ x) (h1 : x < 18446744073709551616) (hat : ∀ zd, D.atKey (.int .u64 x) zd = .lit (.int .i16 c)) : fm x = some c := by
  obtain ⟨r1, r2⟩ := hD x h0 h1
  rw [hat] at r2
  have e := (Lit.int.inj (DataW.lit.inj r2)).2
  cases hf : fm x with
  | some v => rw [hf] at e; simp at e; rw [e]
  | none =>
    rw [hf] at r1
    have h := has_not r1 (.lit (.int .i16 (c + 1)))
    rw [hat] at h
    have e := (Lit.int.inj (DataW.lit.inj h)).2
    omega
theorem passed_step {fm : Int → Option Int} {left : Lit → Bool} {x c : Int} (hf : fm x = some c) (id : Int) : (if id = x then some c else passed fm left id) = passed fm (fun z => left z && !z.sameKey (.int .u64 x)) id := by
  unfold passed
  simp only [same_lit]
  by_cases e : id = x
  · subst e; simp [hf]
  · simp [e]
set_option maxRecDepth 20000 in
set_option maxHeartbeats 8000000 in
theorem copyFrom_any {W : World} {B B2 mb n : Nat} {f : Nat → Value} {fm : Int → Option Int} (hf : ∀ j, j < 6753 → W.cell? ⟨B, j, none⟩ = some (f j)) (h1 : ∀ j, j < 6753 → (f j).oneCell' = true) (hr : W.heap[B2]? = some (.cells (cellsA f) 190)) (hm : W.cell? ⟨B, 517, none⟩ = some (.map (some mb))) (Mp : MapOf W mb n fm) (hn : n < 1000000) (hne : B2 ≠ B ∧ B2 ≠ mb ∧ B ≠ mb) :
    Calls Tryz.prog 107 #[.pointer (some ⟨B2, 1, none⟩), .pointer (some ⟨B, 1, none⟩)] W fun e w' => e = .returned (.tuple #[]) ∧ ∃ mb2, W.heap.size ≤ mb2 ∧ MapOf w' mb2 n fm ∧ w'.cell? ⟨B2, 517, none⟩ = some (.map (some mb2)) ∧ Mut B2 517 518 W w' := by
  have hl := load168 hf
  have hs := store168 hr h1
  have hmk := hint_make W
  have hB : B < W.heap.size := World.block_lt_of_cell? _ _ hm
  have c2 : W.cell? ⟨B2, 517, none⟩ = some (.map (some mb)) := by
    rw [cell_of_row _ _ _ _ 190 (0, 0) hr, cellsA_get f (by omega), ← hf 517 (by omega), hm]
  have hB2 : B2 < W.heap.size := World.block_lt_of_cell? _ _ c2
  have hlm := Mp.lt
  have fz2 : ∀ o, W.frozen? ⟨B2, o, none⟩ = false := fun o => by simp [World.frozen?, hr]
  have b1 := one_alloc W (.map #[] 0)
  have M2 := mapOf_made W
  generalize hW1 : W.alloc (.map #[] 0) = W1 at *
  have hsz1 : W1.heap.size = W.heap.size + 1 := by rw [← hW1]; simp
  have d2 := cell_later b1 c2
  have dm := cell_later b1 hm
  have fz1 : ∀ o, W1.frozen? ⟨B2, o, none⟩ = false := fun o => (World.frozen?_of_block (a := ⟨B2, o, none⟩) (b1.block B2 hB2)).trans (fz2 o)
  generalize hW2 : W1.setCell ⟨B2, 517, none⟩ (.map (some W.heap.size)) = W2 at *
  have k2 : W2.cell? ⟨B2, 517, none⟩ = some (.map (some W.heap.size)) := by rw [← hW2]; exact World.cell?_setCell_same _ _ _ d2
  have km : W2.cell? ⟨B, 517, none⟩ = some (.map (some mb)) := by rw [← hW2, World.cell?_setCell_far _ _ _ _ hne.1]; exact dm
  have far2 : ∀ k, k ≠ B2 → W2.heap[k]? = W1.heap[k]? := fun k hk => by rw [← hW2]; exact heap_far _ _ (fun e => hk e.symm)
  have MN : MapOf W2 W.heap.size 0 (fun _ => none) := M2.block (far2 _ (by omega))
  have MO : MapOf W2 mb n fm := (Mp.block (b1.block mb hlm)).block (far2 _ (fun e => hne.2.1 e.symm))
  have hsz2 : W2.heap.size = W.heap.size + 1 := by rw [← hW2]; simp [hsz1]
  have MU : Mut B2 517 518 W W2 := by
    rw [← hW2]
    exact (Mut.of_below b1 hB2).setCell (by omega) (by omega) _
  obtain ⟨D, hown, hD⟩ := MO
  have HD := hideIt hD
  have hW2' : (W.alloc (.map #[] 0)).setCell ⟨B2, 517, none⟩ (.map (some W.heap.size)) = W2 := by rw [hW1, hW2]
  clear hD hf h1 hr Mp
  have n1 : ¬ (B2 = B) := hne.1
  have n2 : ¬ (B = B2) := fun e => hne.1 e.symm
  go_enter Tryz.func107, Tryz.ntmps107
  go_upto_region 0 with fail
  go_cut [] (fun wd => wd = W)
  case first =>
    go_wp2_with (first | (refine wpList_load_row rfl (.tmp 8) 168 rfl ⟨B, 1, none⟩ (.agg (cellsW f).toArray) rfl hl ?_) | (refine wpList_store_row rfl (.tmp 10) (.tmp 9) 168 rfl ⟨B2, 1, none⟩ (.agg (cellsW f).toArray) rfl rfl hs ?_) | go_in)
    go_meet
    case rel => rfl
  case rest =>
  have hc := hcut.symm
  clear hcut
  subst hc
  go_upto_region 1 with fail
  go_cut [] (fun wd => wd = W2)
  case first =>
    go_wp2
    go_meet
    case rel => rfl
  case rest =>
  have hc := hcut.symm
  clear hcut
  subst hc
  have hgs : W2.heap.size = W.heap.size + 1 := hsz2
  have hle := Maps.size D
  go_wp2_with (first
    | (at_range; refine wpList_range_own _ rfl _ 161 rfl 36 156 mapLaw Tryz.underlying161 _ mb n _ rfl hown ?_; intro w0 hrg0 hg0 hs0)
    | go_in)
  go_frame
  rw [hgs] at hrg0 hs0 ⊢
  have hcn := ranges_le hrg0
  have hrne : ¬ (W.heap.size + 1 = B2) := by omega
  go_loopw [4] (fun _ wr => ∃ (left : Lit → Bool) (cnt : Nat), wr.ranges Tryz.prog 36 (plainElem Tryz.prog 156) mb (W.heap.size + 1) n D left cnt ∧ cnt ≤ Maps.size D ∧ MapOf wr W.heap.size (Maps.size D - cnt) (passed fm left) ∧ wr.cell? ⟨B2, 517, none⟩ = some (.map (some W.heap.size)) ∧ Mut B2 517 518 W wr)
    (fun _ wr => wr.rangeLeft mb (W.heap.size + 1))
  case atStart =>
    have hb0 : ∀ k, k < W2.heap.size → w0.heap[k]? = W2.heap[k]? := fun k hk => hg0.block k hk (by simp)
    refine ⟨_, _, hrg0, Nat.le_refl _, ?_, (World.cell?_of_block (a := ⟨B2, 517, none⟩) (hb0 B2 (by omega))).trans k2, MU.grown (hg0.but (some (W.heap.size + 1))) (by omega) hB2⟩
    exact (MapOf.congr (MN.block (hb0 _ (by omega))) (fun id i0 i1 => by
      unfold passed
      rw [(HD.out id i0 i1).1]
      cases fm id <;> rfl)).mono (Nat.zero_le _)
  case round =>
    obtain ⟨left, cnt, hrg, hcs, MO, c5, MU2⟩ := hrel
    go_wp2_with (first
      | (at_next; refine wpList_next_ranges_ii _ rfl _ rfl 36 156 .u64 .i16 mapLaw Tryz.underlying36 Tryz.underlying156 mb (W.heap.size + 1) n _ _ _ rfl hrg ?_ ?_)
      | go_in)
    · intro hc0 hl0
      go_wp2
      go_end0
      refine ⟨rfl, W.heap.size, Nat.le_refl _, (MapOf.congr MO (fun id i0 i1 => ?_)).mono (by omega), c5, MU2⟩
      unfold passed
      rw [hl0]
      simp
    · intro x c w1 cnt1 hwx hwc hlx hat hrg1 hlt hg1 hs1 hen
      obtain ⟨x0, x1⟩ := wf64' hwx
      obtain ⟨y0, y1⟩ := wf16' hwc
      have hfx := entry_of HD.out x0 x1 hat
      have hsz := MU2.size
      have hk1 : ∀ k, k < W.heap.size + 1 → w1.heap[k]? = wr.heap[k]? := fun k hk => hg1.block k (by have := MO.lt; omega) (fun e => by have := Option.some.inj e; omega)
      have c6 := (World.cell?_of_block (a := ⟨B2, 517, none⟩) (hk1 B2 (by omega))).trans c5
      obtain ⟨w2, hup, MO2, ht⟩ := (MO.block (hk1 _ (by omega))).store (show Maps.size D - cnt < maxLen by unfold maxLen; omega) x0 x1 y0 y1
      go_wp2
      have hg2 := turned_grown ht
      have hrg2 := hrg1.kept hg2 (fun e => by have := Option.some.inj e; omega) (fun e => by have := Option.some.inj e; omega)
      go_roundw
      case rel =>
        exact ⟨_, cnt1, hrg2, by omega, (MapOf.congr MO2 (fun id i0 i1 => passed_step hfx id)).mono (by omega), (World.cell?_of_block (a := ⟨B2, 517, none⟩) (turned_block ht (show B2 ≠ W.heap.size by omega))).trans c6, (MU2.grown hg1 (by omega) hB2).grown hg2 (by omega) hB2⟩
      case measure => rw [hrg2.left_eq, hrg.left_eq]; exact hlt
end Go.Proofs.Qxb6500877aGreatDoor
