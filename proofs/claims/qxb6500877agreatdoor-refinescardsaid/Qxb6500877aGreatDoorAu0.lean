import Derived.Shelf.SlSortFuncK.WholeK
import Derived.Shelf.GgSortFunc.Tiny
import Derived.Ground.GgsProg
import Derived.Test.Qxb6500877aGreatDoorZd0
set_option linter.unusedVariables false
set_option linter.unusedSimpArgs false
namespace Go.Proofs
open Go.Shelf
def Tryz.sv6_ren : Go.Shelf.Ren := ⟨fun | 6 => 165 | 10 => 199 | 11 => 200 | 12 => 201 | 13 => 202 | 14 => 203 | 24 => 223 | 25 => 224 | 26 => 225 | 27 => 226 | 28 => 227 | 29 => 228 | 30 => 229 | 31 => 230 | 32 => 231 | 33 => 232 | 34 => 234 | 35 => 235 | 36 => 236 | 37 => 237 | 38 => 238 | 39 => 239 | n => n, fun | 20 => 20 | 26 => 260 | 35 => 289 | 0 => 0 | 37 => 291 | 3 => 3 | 41 => 275 | 44 => 296 | 49 => 37 | 51 => 28 | 4 => 4 | 54 => 314 | 53 => 313 | 58 => 318 | 5 => 5 | 9 => 9 | 60 => 321 | 64 => 324 | 66 => 326 | 67 => 327 | 17 => 17 | 32 => 286 | 33 => 287 | 82 => 342 | 12 => 12 | 75 => 335 | 76 => 336 | 77 => 337 | 78 => 338 | 79 => 339 | 80 => 340 | n => n, fun | n => n⟩
theorem Tryz.sv6 : Go.Proofs.LaysGg.n6 Tryz.prog Tryz.sv6_ren := {
  mixed := by kernel_rfl
  f6 := Tryz.func165.trans (congrArg some (by kernel_rfl))
  f10 := Tryz.func199.trans (congrArg some (by kernel_rfl))
  f11 := Tryz.func200.trans (congrArg some (by kernel_rfl))
  f12 := Tryz.func201.trans (congrArg some (by kernel_rfl))
  f13 := Tryz.func202.trans (congrArg some (by kernel_rfl))
  f14 := Tryz.func203.trans (congrArg some (by kernel_rfl))
  f24 := Tryz.func223.trans (congrArg some (by kernel_rfl))
  f25 := Tryz.func224.trans (congrArg some (by kernel_rfl))
  f26 := Tryz.func225.trans (congrArg some (by kernel_rfl))
  f27 := Tryz.func226.trans (congrArg some (by kernel_rfl))
  f28 := Tryz.func227.trans (congrArg some (by kernel_rfl))
  f29 := Tryz.func228.trans (congrArg some (by kernel_rfl))
  f30 := Tryz.func229.trans (congrArg some (by kernel_rfl))
  f31 := Tryz.func230.trans (congrArg some (by kernel_rfl))
  f32 := Tryz.func231.trans (congrArg some (by kernel_rfl))
  f33 := Tryz.func232.trans (congrArg some (by kernel_rfl))
  f34 := Tryz.func234.trans (congrArg some (by kernel_rfl))
  f35 := Tryz.func235.trans (congrArg some (by kernel_rfl))
  f36 := Tryz.func236.trans (congrArg some (by kernel_rfl))
  f37 := Tryz.func237.trans (congrArg some (by kernel_rfl))
  f38 := Tryz.func238.trans (congrArg some (by kernel_rfl))
  f39 := Tryz.func239.trans (congrArg some (by kernel_rfl))
  t0 := Tryz.underlying0
  a0 := Tryz.isAgg0
  z0 := Tryz.sizeOf0
  v0 := Tryz.zeroValue0
  i0 := by kernel_rfl
  t3 := Tryz.underlying3
  a3 := Tryz.isAgg3
  z3 := Tryz.sizeOf3
  v3 := Tryz.zeroValue3
  i3 := by kernel_rfl
  t4 := Tryz.underlying4
  a4 := Tryz.isAgg4
  z4 := Tryz.sizeOf4
  v4 := Tryz.zeroValue4
  i4 := by kernel_rfl
  t5 := Tryz.underlying5
  a5 := Tryz.isAgg5
  z5 := Tryz.sizeOf5
  v5 := Tryz.zeroValue5
  i5 := by kernel_rfl
  t9 := Tryz.underlying9
  a9 := Tryz.isAgg9
  z9 := Tryz.sizeOf9
  v9 := Tryz.zeroValue9
  i9 := by kernel_rfl
  t12 := Tryz.underlying12
  a12 := Tryz.isAgg12
  z12 := Tryz.sizeOf12
  v12 := Tryz.zeroValue12
  i12 := by kernel_rfl
  t17 := Tryz.underlying17
  a17 := Tryz.isAgg17
  z17 := Tryz.sizeOf17
  v17 := Tryz.zeroValue17
  i17 := by kernel_rfl
  t20 := Tryz.underlying20
  a20 := Tryz.isAgg20
  z20 := Tryz.sizeOf20
  v20 := Tryz.zeroValue20
  i20 := by kernel_rfl
  t26 := Tryz.underlying260
  a26 := Tryz.isAgg260
  z26 := Tryz.sizeOf260
  v26 := Tryz.zeroValue260
  i26 := by kernel_rfl
  t32 := Tryz.underlying286
  a32 := Tryz.isAgg286
  z32 := Tryz.sizeOf286
  v32 := Tryz.zeroValue286
  i32 := by kernel_rfl
  t33 := Tryz.underlying287
  a33 := Tryz.isAgg287
  z33 := Tryz.sizeOf287
  v33 := Tryz.zeroValue287
  i33 := by kernel_rfl
  t35 := Tryz.underlying289
  a35 := Tryz.isAgg289
  z35 := Tryz.sizeOf289
  v35 := Tryz.zeroValue289
  i35 := by kernel_rfl
  t37 := Tryz.underlying291
  a37 := Tryz.isAgg291
  z37 := Tryz.sizeOf291
  v37 := Tryz.zeroValue291
  i37 := by kernel_rfl
  t41 := Tryz.underlying275
  a41 := Tryz.isAgg275
  z41 := Tryz.sizeOf275
  v41 := Tryz.zeroValue275
  i41 := by kernel_rfl
  t44 := Tryz.underlying296
  a44 := Tryz.isAgg296
  z44 := Tryz.sizeOf296
  v44 := Tryz.zeroValue296
  i44 := by kernel_rfl
  t49 := Tryz.underlying37
  a49 := Tryz.isAgg37
  z49 := Tryz.sizeOf37
  v49 := Tryz.zeroValue37
  i49 := by kernel_rfl
  t51 := Tryz.underlying28
  a51 := Tryz.isAgg28
  z51 := Tryz.sizeOf28
  v51 := Tryz.zeroValue28
  i51 := by kernel_rfl
  t53 := Tryz.underlying313
  a53 := Tryz.isAgg313
  z53 := Tryz.sizeOf313
  v53 := Tryz.zeroValue313
  i53 := by kernel_rfl
  t54 := Tryz.underlying314
  a54 := Tryz.isAgg314
  z54 := Tryz.sizeOf314
  v54 := Tryz.zeroValue314
  i54 := by kernel_rfl
  t58 := Tryz.underlying318
  a58 := Tryz.isAgg318
  z58 := Tryz.sizeOf318
  v58 := Tryz.zeroValue318
  i58 := by kernel_rfl
  t60 := Tryz.underlying321
  a60 := Tryz.isAgg321
  z60 := Tryz.sizeOf321
  v60 := Tryz.zeroValue321
  i60 := by kernel_rfl
  t64 := Tryz.underlying324
  a64 := Tryz.isAgg324
  z64 := Tryz.sizeOf324
  v64 := Tryz.zeroValue324
  i64 := by kernel_rfl
  t66 := Tryz.underlying326
  a66 := Tryz.isAgg326
  z66 := Tryz.sizeOf326
  v66 := Tryz.zeroValue326
  i66 := by kernel_rfl
  t67 := Tryz.underlying327
  a67 := Tryz.isAgg327
  z67 := Tryz.sizeOf327
  v67 := Tryz.zeroValue327
  i67 := by kernel_rfl
  t75 := Tryz.underlying335
  a75 := Tryz.isAgg335
  z75 := Tryz.sizeOf335
  v75 := Tryz.zeroValue335
  i75 := by kernel_rfl
  t76 := Tryz.underlying336
  a76 := Tryz.isAgg336
  z76 := Tryz.sizeOf336
  v76 := Tryz.zeroValue336
  i76 := by kernel_rfl
  t77 := Tryz.underlying337
  a77 := Tryz.isAgg337
  z77 := Tryz.sizeOf337
  v77 := Tryz.zeroValue337
  i77 := by kernel_rfl
  t78 := Tryz.underlying338
  a78 := Tryz.isAgg338
  z78 := Tryz.sizeOf338
  v78 := Tryz.zeroValue338
  i78 := by kernel_rfl
  t79 := Tryz.underlying339
  a79 := Tryz.isAgg339
  z79 := Tryz.sizeOf339
  v79 := Tryz.zeroValue339
  i79 := by kernel_rfl
  t80 := Tryz.underlying340
  a80 := Tryz.isAgg340
  z80 := Tryz.sizeOf340
  v80 := Tryz.zeroValue340
  i80 := by kernel_rfl
  t82 := Tryz.underlying342
  a82 := Tryz.isAgg342
  z82 := Tryz.sizeOf342
  v82 := Tryz.zeroValue342
  i82 := by kernel_rfl }
end Go.Proofs
namespace Go.Proofs.Qxb6500877aGreatDoor
open Go.RowKit

theorem tm59 : (Tryz.prog.info? 59).isSome = true := by kernel_rfl
theorem tm84 : (Tryz.prog.info? 84).isSome = true := by kernel_rfl
theorem tm_swK (n : Nat) (h2 : 2 ≤ n) : Lib.swapperK n ((Tryz.prog.info? 84).get tm84) 25 = 9 := by
  have a : ((Tryz.prog.info? 84).get tm84).hasPointers = false := by kernel_rfl
  have b : ((Tryz.prog.info? 84).get tm84).bytes = 32 := by kernel_rfl
  have c : (n == 0) = false := by simp; omega
  have d : (n == 1) = false := by simp; omega
  simp [Lib.swapperK, a, b, c, d]
theorem tm_sw0 : Lib.swapperK 0 ((Tryz.prog.info? 84).get tm84) 25 = 1 := by simp [Lib.swapperK]
theorem tm_sw1 : Lib.swapperK 1 ((Tryz.prog.info? 84).get tm84) 25 = 2 := by simp [Lib.swapperK]
theorem tm_tiny (p : Option Addr) (n c : Nat) (h1 : n ≤ 1) (lb : Array Value) (w : World) : Calls Tryz.prog 165 #[.iface 59 (.slice p n c), .func (.func 166) #[] lb] w fun e w' => e = .returned (.tuple #[]) ∧ ∃ os, w' = Sort.grow w os := by
  have h : n = 0 ∨ n = 1 := by omega
  rcases h with rfl | rfl
  · exact Go.Proofs.Any.sort_Slice_tiny Tryz.sv6 59 84 ((Tryz.prog.info? 59).get tm59) ((Tryz.prog.info? 84).get tm84) (by kernel_rfl) (by kernel_rfl) (by kernel_rfl) (by kernel_rfl) 25 (fun _ => by kernel_rfl) p 0 c (by omega) 214 (by rw [tm_sw0]; kernel_rfl) (.func 166) #[] lb w
  · exact Go.Proofs.Any.sort_Slice_tiny Tryz.sv6 59 84 ((Tryz.prog.info? 59).get tm59) ((Tryz.prog.info? 84).get tm84) (by kernel_rfl) (by kernel_rfl) (by kernel_rfl) (by kernel_rfl) 25 (fun _ => by kernel_rfl) p 1 c (by omega) 215 (by rw [tm_sw1]; kernel_rfl) (.func 166) #[] lb w
theorem tm_sort [Inhabited TmR] (blk c Bs : Nat) (d : Array TmR) (h2 : 2 ≤ d.size) (hsz : d.size < 4611686018427387904) (w : World) (hH : Sort.HoldsK encTm 4 w blk 0 d) (hblk : blk < w.heap.size)
    (hBs : w.cell? ⟨Bs, 0, none⟩ = some (.slice (some ⟨blk, 0, none⟩) d.size c)) (hB1 : Bs < w.heap.size) (hB2 : Bs ≠ blk) :
    Calls Tryz.prog 165 #[.iface 59 (.slice (some ⟨blk, 0, none⟩) d.size c), .func (.func 166) #[] #[.pointer (some ⟨Bs, 0, none⟩)]] w fun e w' =>
      e = .returned (.tuple #[]) ∧ ∃ d' n os, Sort.PermIn 0 d.size d d' ∧ Sort.SortedIn ltTm 0 d.size d' ∧ w' = Sort.grow (Sort.putRowK encTm 4 (Sort.ahead w n) blk 0 d') os := by
  have hless : LessReadsK Tryz.prog 166 #[.pointer (some ⟨Bs, 0, none⟩)] encTm 4 ltTm blk 0 d.size w := by
    intro m os dk hs i j hi hj
    have e : sortWorldK encTm 4 w blk 0 m dk os = Sort.putRowK encTm 4 (Sort.grow (Sort.ahead w m) os) blk 0 dk := by
      unfold sortWorldK; rw [Sort.putRowK_grow _ _ (Sort.ahead w m) _ blk 0 _ hblk]
    have hHg : Sort.HoldsK encTm 4 (Sort.grow (Sort.ahead w m) os) blk 0 d := Sort.holdsK_grow _ _ _ _ blk 0 d hblk (Sort.holdsK_ahead _ _ _ _ _ _ _ hH)
    refine less_tm blk c Bs d.size _ (fun t => dk[t]!) ?_ (fun t ht => ?_) i j hi hj
    · rw [e, Sort.cell?_putRowK_other _ _ _ blk 0 dk _ (by exact hB2), Sort.cell?_grow _ _ _ (by exact hB1)]; exact hBs
    · rw [e]
      have hq := Sort.holdsK_putRowK _ _ _ blk 0 d dk hHg hs
      have h0 := (hq.cell (i := t) (c := 0) (by omega) (by omega)).1
      have h2 := (hq.cell (i := t) (c := 2) (by omega) (by omega)).1
      simp only [Nat.zero_add, Nat.add_zero] at h0 h2
      exact ⟨h0, h2⟩
  exact Any.sort_Slice_cells_sorted Tryz.sv6 59 84 ((Tryz.prog.info? 59).get tm59) ((Tryz.prog.info? 84).get tm84) (by kernel_rfl) (by kernel_rfl) (by kernel_rfl) (by kernel_rfl) 25 (fun _ => by kernel_rfl) encTm 4 (fun _ => rfl) (by kernel_rfl) (fun _ => by kernel_rfl)
    (fun x v hv => by simp [encTm] at hv; rcases hv with rfl | rfl | rfl | rfl <;> rfl) ltTm swo_ltTm 166 _
    (enters_of Tryz.func166 (by kernel_rfl) rfl) blk 0 c d h2 hsz 222 (by rw [tm_swK _ h2]; kernel_rfl) false
    (fun args W => run_callFunc_extern Tryz.func222 (by kernel_rfl) (by kernel_rfl) (by kernel_rfl) (e := Extern.ReflectliteSwapper.swap false) (by kernel_rfl) args W) w hless hH hblk
theorem sort_call {w : World} {base n cap : Nat} {p : Option Addr} {l : List TmR} {Bs : Nat} (H : w.ownsRow base 84 4 (.slice p n cap) n (tmCells l)) (hn : n = l.length) (hbig : n ≤ 1000) (hBs : w.cell? ⟨Bs, 0, none⟩ = some (.slice p n cap)) (hne : (Value.slice p n cap).ownBlock ≠ some Bs) :
    Calls Tryz.prog 165 #[.iface 59 (.slice p n cap), .func (.func 166) #[] #[.pointer (some ⟨Bs, 0, none⟩)]] w fun e w' => e = .returned (.tuple #[]) ∧ ∃ l', l'.Perm l ∧ TmAsc l' ∧ w'.ownsRow base 84 4 (.slice p n cap) n (tmCells l') ∧ w.grownBy w' (Value.slice p n cap).ownBlock := by
  have inh : Inhabited TmR := ⟨⟨0, 0, 0, 0⟩⟩
  by_cases h1 : n ≤ 1
  · refine (tm_tiny p n cap h1 _ w).mono ?_
    rintro e w' ⟨rfl, os, rfl⟩
    have G : w.grownBy (Sort.grow w os) (Value.slice p n cap).ownBlock := ⟨rfl, rfl, rfl, by simp [Sort.grow], fun k hk _ => by simp [Sort.grow, Array.getElem?_append_left hk]⟩
    have G0 : w.grownBy (Sort.grow w os) none := ⟨rfl, rfl, rfl, by simp [Sort.grow], fun k hk _ => by simp [Sort.grow, Array.getElem?_append_left hk]⟩
    refine ⟨rfl, l, List.Perm.refl _, ?_, H.kept G0 ?_, G⟩
    · intro i j a b hij hi hj
      have := (List.getElem?_eq_some_iff.1 hj).1
      omega
    · cases h : (Value.slice p n cap).ownBlock with
      | none => exact .inl rfl
      | some q => exact .inr (by simp)
  · obtain ⟨g, rfl⟩ : ∃ g, p = some ⟨g, 0, none⟩ := by
      rcases H.2 with ⟨e1, e2⟩ | ⟨g', cap', cur, e1, _⟩
      · omega
      · exact ⟨g', (Value.slice.inj e1).1⟩
    obtain ⟨d, hd⟩ : ∃ d : Array TmR, d.toList = l := ⟨l.toArray, by simp⟩
    have hds : d.size = n := by rw [hn, ← hd, Array.length_toList]
    subst hds
    rw [← hd] at H
    have hblk : g < w.heap.size := (H.lt g rfl).2
    refine (tm_sort g cap Bs d (by omega) (by omega) w (holds_tm H) hblk hBs (World.block_lt_of_cell? _ _ hBs) (fun e => hne (by rw [e]; rfl))).mono ?_
    rintro e w' ⟨rfl, d', q, os, ⟨hs, _, hp⟩, hso, rfl⟩
    obtain ⟨ho, hg⟩ := put_tm (q := q) (os := os) H hs
    refine ⟨rfl, d'.toList, ?_, ?_, ho, hg⟩
    · rw [← hd]
      have e1 : d'.extract 0 d.size = d' := by rw [← hs]; exact Array.extract_size
      have e2 : d.extract 0 d.size = d := Array.extract_size
      rw [e1, e2] at hp
      exact hp
    · intro i j a b hij hi hj
      rw [Array.getElem?_toList] at hi hj
      have hi' := (Array.getElem?_eq_some_iff.1 hi).1
      have hj' := (Array.getElem?_eq_some_iff.1 hj).1
      have := hso i j (Nat.zero_le _) hij (by omega)
      rw [getElem!_pos d' j hj', getElem!_pos d' i hi'] at this
      rw [← (Array.getElem?_eq_some_iff.1 hi).2, ← (Array.getElem?_eq_some_iff.1 hj).2]
      exact this
end Go.Proofs.Qxb6500877aGreatDoor
