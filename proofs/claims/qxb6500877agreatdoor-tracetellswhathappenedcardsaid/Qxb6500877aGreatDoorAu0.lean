import Derived.Shelf.SlSortFuncK.WholeK
import Derived.Shelf.GgSortFunc.Tiny
import Derived.Shelf.Lay
import Derived.Ground.GgsProg
import Derived.Test.Qxb6500877aGreatDoorZd0
set_option linter.unusedVariables false
set_option linter.unusedSimpArgs false
namespace Go.Proofs
open Go.Shelf
shelf_lay LaysGg.n6 Ggs 6 at Tryz as Tryz.sv6
end Go.Proofs
namespace Go.Proofs.Qxb6500877aGreatDoor
open Go.RowKit

noncomputable def tmT : TypeInfo := (Tryz.prog.info? 59).get (by kernel_rfl)
noncomputable def tmE : TypeInfo := (Tryz.prog.info? 84).get (by kernel_rfl)
theorem tm_swK (n : Nat) (h2 : 2 ≤ n) : Lib.swapperK n tmE 25 = 9 := by
  have a : tmE.hasPointers = false := by kernel_rfl
  have b : tmE.bytes = 32 := by kernel_rfl
  have c : (n == 0) = false := by simp; omega
  have d : (n == 1) = false := by simp; omega
  simp [Lib.swapperK, a, b, c, d]
theorem tm_sw0 : Lib.swapperK 0 tmE 25 = 1 := by simp [Lib.swapperK]
theorem tm_sw1 : Lib.swapperK 1 tmE 25 = 2 := by simp [Lib.swapperK]
theorem tm_tiny (p : Option Addr) (n c : Nat) (h1 : n ≤ 1) (lb : Array Value) (w : World) : Calls Tryz.prog 165 #[.iface 59 (.slice p n c), .func (.func 166) #[] lb] w fun e w' => e = .returned (.tuple #[]) ∧ ∃ os, w' = Sort.grow w os := by
  have h : n = 0 ∨ n = 1 := by omega
  rcases h with rfl | rfl
  · exact Go.Proofs.Any.sort_Slice_tiny Tryz.sv6 59 84 tmT tmE (by kernel_rfl) (by kernel_rfl) (by kernel_rfl) (by kernel_rfl) 25 (fun _ => by kernel_rfl) p 0 c (by omega) 214 (by rw [tm_sw0]; kernel_rfl) (.func 166) #[] lb w
  · exact Go.Proofs.Any.sort_Slice_tiny Tryz.sv6 59 84 tmT tmE (by kernel_rfl) (by kernel_rfl) (by kernel_rfl) (by kernel_rfl) 25 (fun _ => by kernel_rfl) p 1 c (by omega) 215 (by rw [tm_sw1]; kernel_rfl) (.func 166) #[] lb w
theorem tm_sort (blk c Bs : Nat) (d : Array TmR) (h2 : 2 ≤ d.size) (hsz : d.size < 4611686018427387904) (w : World) (hH : Sort.HoldsK encTm 4 w blk 0 d) (hblk : blk < w.heap.size)
    (hBs : w.cell? ⟨Bs, 0, none⟩ = some (.slice (some ⟨blk, 0, none⟩) d.size c)) (hB1 : Bs < w.heap.size) (hB2 : Bs ≠ blk) :
    Calls Tryz.prog 165 #[.iface 59 (.slice (some ⟨blk, 0, none⟩) d.size c), .func (.func 166) #[] #[.pointer (some ⟨Bs, 0, none⟩)]] w fun e w' =>
      e = .returned (.tuple #[]) ∧ ∃ d' n os, Sort.PermIn 0 d.size d d' ∧ Sort.SortedIn ltTm 0 d.size d' ∧ w' = Sort.grow (Sort.putRowK encTm 4 (Sort.ahead w n) blk 0 d') os := by
  have hless : LessReadsK Tryz.prog 166 #[.pointer (some ⟨Bs, 0, none⟩)] encTm 4 ltTm blk 0 d.size w := by
    intro m os dk hs i j hi hj
    have e : sortWorldK encTm 4 w blk 0 m dk os = Sort.putRowK encTm 4 (Sort.grow (Sort.ahead w m) os) blk 0 dk := by
      unfold sortWorldK; rw [Sort.putRowK_grow _ _ (Sort.ahead w m) _ blk 0 _ hblk]
    have hHg : Sort.HoldsK encTm 4 (Sort.grow (Sort.ahead w m) os) blk 0 d := Sort.holdsK_grow _ _ _ _ blk 0 d hblk (Sort.holdsK_ahead _ _ _ _ _ _ _ hH)
    refine less_tm blk c Bs d.size _ (fun t => dk[t]!) ?_ (fun t ht => ?_) i j hi hj
    · rw [e, Sort.cell?_putRowK_other _ _ _ blk 0 dk _ (by exact hB2), Sort.cell?_grow _ _ _ (by exact hB1)]; exact hBs
    · rw [e]
      have hq := Sort.holdsK_putRowK _ _ _ blk 0 d dk hHg hs
      have h0 := (hq.cell (i := t) (c := 0) (by omega) (by omega)).1
      have h2 := (hq.cell (i := t) (c := 2) (by omega) (by omega)).1
      simp only [Nat.zero_add, Nat.add_zero] at h0 h2
      exact ⟨h0, h2⟩
  exact Any.sort_Slice_cells_sorted Tryz.sv6 59 84 tmT tmE (by kernel_rfl) (by kernel_rfl) (by kernel_rfl) (by kernel_rfl) 25 (fun _ => by kernel_rfl) encTm 4 (fun _ => rfl) (by kernel_rfl) (fun _ => by kernel_rfl)
    (fun x v hv => by simp [encTm] at hv; rcases hv with rfl | rfl | rfl | rfl <;> rfl) ltTm swo_ltTm 166 _
    (enters_of Tryz.func166 (by kernel_rfl) rfl) blk 0 c d h2 hsz 222 (by rw [tm_swK _ h2]; kernel_rfl) false
    (fun args W => run_callFunc_extern Tryz.func222 (by kernel_rfl) (by kernel_rfl) (by kernel_rfl) (e := Extern.ReflectliteSwapper.swap false) (by kernel_rfl) args W) w hless hH hblk
theorem sort_call {w : World} {base n cap : Nat} {p : Option Addr} {l : List TmR} {Bs : Nat} (H : w.ownsRow base 84 4 (.slice p n cap) n (tmCells l)) (hn : n = l.length) (hbig : n ≤ 1000) (hBs : w.cell? ⟨Bs, 0, none⟩ = some (.slice p n cap)) (hne : (Value.slice p n cap).ownBlock ≠ some Bs) :
    Calls Tryz.prog 165 #[.iface 59 (.slice p n cap), .func (.func 166) #[] #[.pointer (some ⟨Bs, 0, none⟩)]] w fun e w' => e = .returned (.tuple #[]) ∧ ∃ l', l'.Perm l ∧ TmAsc l' ∧ w'.ownsRow base 84 4 (.slice p n cap) n (tmCells l') ∧ w.grownBy w' (Value.slice p n cap).ownBlock := by
  by_cases h1 : n ≤ 1
  · refine (tm_tiny p n cap h1 _ w).mono ?_
    rintro e w' ⟨rfl, os, rfl⟩
    have G : w.grownBy (Sort.grow w os) (Value.slice p n cap).ownBlock := ⟨rfl, rfl, rfl, by simp [Sort.grow], fun k hk _ => by simp [Sort.grow, Array.getElem?_append_left hk]⟩
    have G0 : w.grownBy (Sort.grow w os) none := ⟨rfl, rfl, rfl, by simp [Sort.grow], fun k hk _ => by simp [Sort.grow, Array.getElem?_append_left hk]⟩
    refine ⟨rfl, l, List.Perm.refl _, ?_, H.kept G0 ?_, G⟩
    · intro i j a b hij hi hj
      have := (List.getElem?_eq_some_iff.1 hj).1
      omega
    · cases h : (Value.slice p n cap).ownBlock with
      | none => exact .inl rfl
      | some q => exact .inr (by simp)
  · obtain ⟨g, rfl⟩ : ∃ g, p = some ⟨g, 0, none⟩ := by
      rcases H.2 with ⟨e1, e2⟩ | ⟨g', cap', cur, e1, _⟩
      · omega
      · exact ⟨g', (Value.slice.inj e1).1⟩
    obtain ⟨d, hd⟩ : ∃ d : Array TmR, d.toList = l := ⟨l.toArray, by simp⟩
    have hds : d.size = n := by rw [hn, ← hd, Array.length_toList]
    subst hds
    rw [← hd] at H
    have hblk : g < w.heap.size := (H.lt g rfl).2
    refine (tm_sort g cap Bs d (by omega) (by omega) w (holds_tm H) hblk hBs (World.block_lt_of_cell? _ _ hBs) (fun e => hne (by rw [e]; rfl))).mono ?_
    rintro e w' ⟨rfl, d', q, os, ⟨hs, _, hp⟩, hso, rfl⟩
    obtain ⟨ho, hg⟩ := put_tm (q := q) (os := os) H hs
    refine ⟨rfl, d'.toList, ?_, ?_, ho, hg⟩
    · rw [← hd]
      have e1 : d'.extract 0 d.size = d' := by rw [← hs]; exact Array.extract_size
      have e2 : d.extract 0 d.size = d := Array.extract_size
      rw [e1, e2] at hp
      exact hp
    · intro i j a b hij hi hj
      rw [Array.getElem?_toList] at hi hj
      have hi' := (Array.getElem?_eq_some_iff.1 hi).1
      have hj' := (Array.getElem?_eq_some_iff.1 hj).1
      have := hso i j (Nat.zero_le _) hij (by omega)
      rw [getElem!_pos d' j hj', getElem!_pos d' i hi'] at this
      rw [← (Array.getElem?_eq_some_iff.1 hi).2, ← (Array.getElem?_eq_some_iff.1 hj).2]
      exact this
end Go.Proofs.Qxb6500877aGreatDoor
