import Derived.Deep.CutBlock
import Derived.OwnWalk
import Derived.Maps.AppendAt
import Derived.Maps.OwnSet
import Derived.Maps.OwnOps
import Derived.Laws.ResultCell
import Derived.Test.Qxb6500880aGreatZi
set_option linter.unusedVariables false
set_option linter.unusedSimpArgs false
namespace Go.Proofs.Qxb6500880aGreat
open Go.RowKit

/-- What stays while a plan runs. -/
structure RP where
  E : Nat
  GR : Nat
  GC : Nat
  hb : Nat
  nm : ByteArray
  S : Nat → Prop
  w0 : World
/-- What changes. -/
structure RX where
  c : Nat → Value
  r : Nat → Nat
  cu : Nat → Value
  key : Value
  kn : Nat
  kx : List Value
  probe : Value
  pn : Nat
  px : List Value
  pr : Value
  prn : Nat
  prx : List Value
  s : RelS
  d : Nat → Nat
  N : Nat
  f : Nat → Nat
def fpX (Q : RP) (x : RX) : Nat → Nat → Prop
  | 0 => fun q => q = Q.E
  | 1 => fun q => q = Q.GR
  | 2 => fun q => q = Q.GC
  | 3 => fun q => x.key.ownBlock = some q
  | 4 => fun q => x.probe.ownBlock = some q
  | 5 => fun q => x.pr.ownBlock = some q
  | 6 => fpR Q.hb x.s
  | _ => Q.S
structure RAt (w : World) (Q : RP) (x : RX) : Prop where
  e : EngAt w Q.E x.c
  c21 : x.c 21 = .slice (some ⟨Q.GR, 0, none⟩) 3 3
  c22 : x.c 22 = .slice (some ⟨Q.GC, 0, none⟩) 2 2
  c23 : x.c 23 = x.probe
  c14 : x.c 14 = x.pr
  rg : ∀ j, j < 3 → w.cell? ⟨Q.GR, j, none⟩ = some (.int .u32 (x.r j : Int))
  rf : ∀ o, w.frozen? ⟨Q.GR, o, none⟩ = false
  cu : ∀ j, j < 12 → w.cell? ⟨Q.GC, j, none⟩ = some (x.cu j)
  cf : ∀ o, w.frozen? ⟨Q.GC, o, none⟩ = false
  k11 : x.cu 11 = x.key
  ky : w.ownsRow 0 109 1 x.key x.kn x.kx
  po : w.ownsRow 0 109 1 x.probe x.pn x.px
  pf : w.ownsRow 0 21 1 x.pr x.prn x.prx
  re : RelO w Q.hb Q.nm x.s x.d x.N x.f
  st : ∀ q, Q.S q → q < w.heap.size ∧ w.heap[q]? = Q.w0.heap[q]?
  dj : Disj (fpX Q x) 8
  io : w.os = Q.w0.os ∧ w.tape = Q.w0.tape ∧ w.output = Q.w0.output
theorem RAt.flt {w : World} {Q : RP} {x : RX} (h : RAt w Q x) : ∀ k q, k < 8 → fpX Q x k q → q < w.heap.size
  | 0, q, _, hq => by have e : q = Q.E := hq; rw [e]; exact h.e.lt
  | 1, q, _, hq => by have e : q = Q.GR := hq; rw [e]; exact World.block_lt_of_cell? _ _ (h.rg 0 (by omega))
  | 2, q, _, hq => by have e : q = Q.GC := hq; rw [e]; exact World.block_lt_of_cell? _ _ (h.cu 0 (by omega))
  | 3, q, _, hq => (h.ky.lt q hq).2
  | 4, q, _, hq => (h.po.lt q hq).2
  | 5, q, _, hq => (h.pf.lt q hq).2
  | 6, q, _, hq => h.re.fp_lt hq
  | k + 7, q, _, hq => (h.st q hq).1
theorem RAt.keep {w' : World} {w : World} {Q : RP} {x : RX} (h : RAt w Q x) (hs : w.heap.size ≤ w'.heap.size) (hio : w'.os = w.os ∧ w'.tape = w.tape ∧ w'.output = w.output) (kp : ∀ k q, k < 8 → fpX Q x k q → w'.heap[q]? = w.heap[q]?) : RAt w' Q x :=
  ⟨h.e.blk (kp 0 _ (by omega) rfl), h.c21, h.c22, h.c23, h.c14, fun j hj => (World.cell?_of_block (a := ⟨Q.GR, j, none⟩) (kp 1 _ (by omega) rfl)).trans (h.rg j hj), fun o => (World.frozen?_of_block (a := ⟨Q.GR, o, none⟩) (kp 1 _ (by omega) rfl)).trans (h.rf o), fun j hj => (World.cell?_of_block (a := ⟨Q.GC, j, none⟩) (kp 2 _ (by omega) rfl)).trans (h.cu j hj), fun o => (World.frozen?_of_block (a := ⟨Q.GC, o, none⟩) (kp 2 _ (by omega) rfl)).trans (h.cf o), h.k11, own_keep h.ky (fun q hq _ => kp 3 q (by omega) hq), own_keep h.po (fun q hq _ => kp 4 q (by omega) hq), own_keep h.pf (fun q hq _ => kp 5 q (by omega) hq), h.re.keep (fun q hq _ => kp 6 q (by omega) hq), fun q hq => ⟨Nat.lt_of_lt_of_le (h.st q hq).1 hs, (kp 7 q (by omega) hq).trans (h.st q hq).2⟩, h.dj, ⟨hio.1.trans h.io.1, hio.2.1.trans h.io.2.1, hio.2.2.trans h.io.2.2⟩⟩
theorem RAt.below {w' : World} {w : World} {Q : RP} {x : RX} (h : RAt w Q x) (hb : Below w.heap.size w w') : RAt w' Q x := h.keep hb.size ⟨hb.os, hb.tape, hb.output⟩ (fun k q hk hq => hb.block q (h.flt k q hk hq))
theorem RAt.drew {w : World} {Q : RP} {x : RX} (h : RAt w Q x) : RAt w.drew Q x := h.below (below_dr (Below.refl _ _))
/-- A cell of a static block. -/
theorem RAt.cell {w : World} {Q : RP} {x : RX} (h : RAt w Q x) {b o : Nat} {v : Value} (hb : Q.S b) (hv : Q.w0.cell? ⟨b, o, none⟩ = some v) : w.cell? ⟨b, o, none⟩ = some v := (World.cell?_of_block (a := ⟨b, o, none⟩) (h.st b hb).2).trans hv
theorem RAt.but {w' : World} {w : World} {Q : RP} {x : RX} (h : RAt w Q x) {T : Nat → Prop} (W : Ws T w w') (i : Nat) (hi : i < 8) (hT : ∀ q, q < w.heap.size → T q → fpX Q x i q) : ∀ k q, k < 8 → k ≠ i → fpX Q x k q → w'.heap[q]? = w.heap[q]? :=
  fun k q hk hki hq => W.block q (h.flt k q hk hq) (fun z => hki (h.dj k i q hk hi hq (hT q (h.flt k q hk hq) z)))
/-- A cell of the engine is written. -/
theorem RAt.put_c {w : World} {Q : RP} {x : RX} (h : RAt w Q x) {k : Nat} (hk : k < 24) (v : Value) (h21 : k ≠ 21) (h22 : k ≠ 22) (h23 : k ≠ 23) (h14 : k ≠ 14) : RAt (w.setCell ⟨Q.E, k, none⟩ v) Q { x with c := updV x.c k v } := by
  have W : Ws (fun q => q = Q.E) w (w.setCell ⟨Q.E, k, none⟩ v) := (Ws.refl _ w).set (.inl rfl)
  have kp := h.but W 0 (by omega) (fun q _ hq => hq)
  refine ⟨h.e.put hk v, (updV_other _ _ (fun e => h21 e.symm)).trans h.c21, (updV_other _ _ (fun e => h22 e.symm)).trans h.c22, (updV_other _ _ (fun e => h23 e.symm)).trans h.c23, (updV_other _ _ (fun e => h14 e.symm)).trans h.c14, fun j hj => (World.cell?_of_block (a := ⟨Q.GR, j, none⟩) (kp 1 _ (by omega) (by omega) rfl)).trans (h.rg j hj), fun o => (World.frozen?_setCell _ _ _ _).trans (h.rf o), fun j hj => (World.cell?_of_block (a := ⟨Q.GC, j, none⟩) (kp 2 _ (by omega) (by omega) rfl)).trans (h.cu j hj), fun o => (World.frozen?_setCell _ _ _ _).trans (h.cf o), h.k11, own_keep h.ky (fun q hq _ => kp 3 q (by omega) (by omega) hq), own_keep h.po (fun q hq _ => kp 4 q (by omega) (by omega) hq), own_keep h.pf (fun q hq _ => kp 5 q (by omega) (by omega) hq), h.re.keep (fun q hq _ => kp 6 q (by omega) (by omega) hq), fun q hq => ⟨by simpa using (h.st q hq).1, (kp 7 q (by omega) (by omega) hq).trans (h.st q hq).2⟩, ?_, ⟨W.os.trans h.io.1, W.tape.trans h.io.2.1, W.output.trans h.io.2.2⟩⟩
  refine h.dj.upd (i := 0) h.flt (fun q hq => .inl hq) (fun k hk q hq => ?_)
  match k, hk, hq with
  | 0, hk, _ => exact absurd rfl hk
  | 1, _, hq => exact hq
  | 2, _, hq => exact hq
  | 3, _, hq => exact hq
  | 4, _, hq => exact hq
  | 5, _, hq => exact hq
  | 6, _, hq => exact hq
  | k + 7, _, hq => exact hq
/-- A register is written. -/
theorem RAt.put_r {w : World} {Q : RP} {x : RX} (h : RAt w Q x) {k : Nat} (hk : k < 3) (v : Nat) : RAt (w.setCell ⟨Q.GR, k, none⟩ (.int .u32 (v : Int))) Q { x with r := updN x.r k v } := by
  have W : Ws (fun q => q = Q.GR) w (w.setCell ⟨Q.GR, k, none⟩ (.int .u32 (v : Int))) := (Ws.refl _ w).set (.inl rfl)
  have kp := h.but W 1 (by omega) (fun q _ hq => hq)
  refine ⟨h.e.blk (kp 0 _ (by omega) (by omega) rfl), h.c21, h.c22, h.c23, h.c14, fun j hj => ?_, fun o => (World.frozen?_setCell _ _ _ _).trans (h.rf o), fun j hj => (World.cell?_of_block (a := ⟨Q.GC, j, none⟩) (kp 2 _ (by omega) (by omega) rfl)).trans (h.cu j hj), fun o => (World.frozen?_setCell _ _ _ _).trans (h.cf o), h.k11, own_keep h.ky (fun q hq _ => kp 3 q (by omega) (by omega) hq), own_keep h.po (fun q hq _ => kp 4 q (by omega) (by omega) hq), own_keep h.pf (fun q hq _ => kp 5 q (by omega) (by omega) hq), h.re.keep (fun q hq _ => kp 6 q (by omega) (by omega) hq), fun q hq => ⟨by simpa using (h.st q hq).1, (kp 7 q (by omega) (by omega) hq).trans (h.st q hq).2⟩, ?_, ⟨W.os.trans h.io.1, W.tape.trans h.io.2.1, W.output.trans h.io.2.2⟩⟩
  · show _ = some (Value.int .u32 ((updN x.r k v j : Nat) : Int))
    by_cases q : j = k
    · subst q
      rw [updN_same]
      exact World.cell?_setCell_same _ _ _ (h.rg j hj)
    · rw [updN_other _ _ q]
      exact (World.cell?_setCell_other _ _ _ _ (by simp <;> omega)).trans (h.rg j hj)
  · refine h.dj.upd (i := 1) h.flt (fun q hq => .inl hq) (fun k hk q hq => ?_)
    match k, hk, hq with
    | 0, _, hq => exact hq
    | 1, hk, _ => exact absurd rfl hk
    | 2, _, hq => exact hq
    | 3, _, hq => exact hq
    | 4, _, hq => exact hq
    | 5, _, hq => exact hq
    | 6, _, hq => exact hq
    | k + 7, _, hq => exact hq
/-- A cell of a cursor is written. -/
theorem RAt.put_u {w : World} {Q : RP} {x : RX} (h : RAt w Q x) {k : Nat} (hk : k < 12) (h11 : k ≠ 11) (v : Value) : RAt (w.setCell ⟨Q.GC, k, none⟩ v) Q { x with cu := updV x.cu k v } := by
  have W : Ws (fun q => q = Q.GC) w (w.setCell ⟨Q.GC, k, none⟩ v) := (Ws.refl _ w).set (.inl rfl)
  have kp := h.but W 2 (by omega) (fun q _ hq => hq)
  refine ⟨h.e.blk (kp 0 _ (by omega) (by omega) rfl), h.c21, h.c22, h.c23, h.c14, fun j hj => (World.cell?_of_block (a := ⟨Q.GR, j, none⟩) (kp 1 _ (by omega) (by omega) rfl)).trans (h.rg j hj), fun o => (World.frozen?_setCell _ _ _ _).trans (h.rf o), fun j hj => ?_, fun o => (World.frozen?_setCell _ _ _ _).trans (h.cf o), (updV_other _ _ (fun e => h11 e.symm)).trans h.k11, own_keep h.ky (fun q hq _ => kp 3 q (by omega) (by omega) hq), own_keep h.po (fun q hq _ => kp 4 q (by omega) (by omega) hq), own_keep h.pf (fun q hq _ => kp 5 q (by omega) (by omega) hq), h.re.keep (fun q hq _ => kp 6 q (by omega) (by omega) hq), fun q hq => ⟨by simpa using (h.st q hq).1, (kp 7 q (by omega) (by omega) hq).trans (h.st q hq).2⟩, ?_, ⟨W.os.trans h.io.1, W.tape.trans h.io.2.1, W.output.trans h.io.2.2⟩⟩
  · show _ = some (updV x.cu k v j)
    by_cases q : j = k
    · subst q
      rw [updV_same]
      exact World.cell?_setCell_same _ _ _ (h.cu j hj)
    · rw [updV_other _ _ q]
      exact (World.cell?_setCell_other _ _ _ _ (by simp <;> omega)).trans (h.cu j hj)
  · refine h.dj.upd (i := 2) h.flt (fun q hq => .inl hq) (fun k hk q hq => ?_)
    match k, hk, hq with
    | 0, _, hq => exact hq
    | 1, _, hq => exact hq
    | 2, hk, _ => exact absurd rfl hk
    | 3, _, hq => exact hq
    | 4, _, hq => exact hq
    | 5, _, hq => exact hq
    | 6, _, hq => exact hq
    | k + 7, _, hq => exact hq
/-- The key is laid anew. -/
theorem RAt.put_key {w' : World} {w : World} {Q : RP} {x : RX} (h : RAt w Q x) {v : Value} {n : Nat} {xs : List Value} (ho : w'.ownsRow 0 109 1 v n xs) (hv : ∀ q, v.ownBlock = some q → x.key.ownBlock = some q ∨ w.heap.size ≤ q) (W : Ws (fun q => x.key.ownBlock = some q) w w') : RAt (w'.setCell ⟨Q.GC, 11, none⟩ v) Q { x with cu := updV x.cu 11 v, key := v, kn := n, kx := xs } := by
  have kp1 := h.but W 3 (by omega) (fun q _ hq => hq)
  have hGC : Q.GC < w.heap.size := h.flt 2 _ (by omega) rfl
  have vGC : v.ownBlock ≠ some Q.GC := fun e => by
    rcases hv _ e with z | z
    · have := h.dj 3 2 Q.GC (by omega) (by omega) z rfl; omega
    · omega
  have kp : ∀ k q, k < 8 → k ≠ 3 → k ≠ 2 → fpX Q x k q → (w'.setCell ⟨Q.GC, 11, none⟩ v).heap[q]? = w.heap[q]? := fun k q hk h3 h2 hq => (far_set (fun (e : q = Q.GC) => by have := h.dj k 2 q hk (by omega) hq e; omega)).trans (kp1 k q hk h3 hq)
  have eGC : w'.heap[Q.GC]? = w.heap[Q.GC]? := kp1 2 _ (by omega) (by omega) rfl
  refine ⟨h.e.blk (kp 0 _ (by omega) (by omega) (by omega) rfl), h.c21, h.c22, h.c23, h.c14, fun j hj => (World.cell?_of_block (a := ⟨Q.GR, j, none⟩) (kp 1 _ (by omega) (by omega) (by omega) rfl)).trans (h.rg j hj), fun o => (World.frozen?_of_block (a := ⟨Q.GR, o, none⟩) (kp 1 _ (by omega) (by omega) (by omega) rfl)).trans (h.rf o), fun j hj => ?_, fun o => (World.frozen?_setCell _ _ _ _).trans ((World.frozen?_of_block (a := ⟨Q.GC, o, none⟩) eGC).trans (h.cf o)), updV_same x.cu 11 v, own_one ho (fun q hq => far_set (fun (e : q = Q.GC) => vGC (e ▸ hq))), own_keep h.po (fun q hq _ => kp 4 q (by omega) (by omega) (by omega) hq), own_keep h.pf (fun q hq _ => kp 5 q (by omega) (by omega) (by omega) hq), h.re.keep (fun q hq _ => kp 6 q (by omega) (by omega) (by omega) hq), fun q hq => ⟨by have := (h.st q hq).1; have := W.size; simp; omega, (kp 7 q (by omega) (by omega) (by omega) hq).trans (h.st q hq).2⟩, ?_, ⟨W.os.trans h.io.1, W.tape.trans h.io.2.1, W.output.trans h.io.2.2⟩⟩
  · show _ = some (updV x.cu 11 v j)
    by_cases q : j = 11
    · subst q
      rw [updV_same]
      exact World.cell?_setCell_same _ _ _ ((World.cell?_of_block (a := ⟨Q.GC, 11, none⟩) eGC).trans (h.cu 11 hj))
    · rw [updV_other _ _ q]
      exact (World.cell?_setCell_other _ _ _ _ (by simp <;> omega)).trans ((World.cell?_of_block (a := ⟨Q.GC, j, none⟩) eGC).trans (h.cu j hj))
  · refine h.dj.upd (i := 3) h.flt hv (fun k hk q hq => ?_)
    match k, hk, hq with
    | 0, _, hq => exact hq
    | 1, _, hq => exact hq
    | 2, _, hq => exact hq
    | 3, hk, _ => exact absurd rfl hk
    | 4, _, hq => exact hq
    | 5, _, hq => exact hq
    | 6, _, hq => exact hq
    | k + 7, _, hq => exact hq
/-- The engine's row probe is laid anew. -/
theorem RAt.put_probe {w' : World} {w : World} {Q : RP} {x : RX} (h : RAt w Q x) {v : Value} {n : Nat} {xs : List Value} (ho : w'.ownsRow 0 109 1 v n xs) (hv : ∀ q, v.ownBlock = some q → x.probe.ownBlock = some q ∨ w.heap.size ≤ q) (W : Ws (fun q => x.probe.ownBlock = some q) w w') : RAt (w'.setCell ⟨Q.E, 23, none⟩ v) Q { x with c := updV x.c 23 v, probe := v, pn := n, px := xs } := by
  have kp1 := h.but W 4 (by omega) (fun q _ hq => hq)
  have hE : Q.E < w.heap.size := h.flt 0 _ (by omega) rfl
  have vE : v.ownBlock ≠ some Q.E := fun e => by
    rcases hv _ e with z | z
    · have := h.dj 4 0 Q.E (by omega) (by omega) z rfl; omega
    · omega
  have kp : ∀ k q, k < 8 → k ≠ 4 → k ≠ 0 → fpX Q x k q → (w'.setCell ⟨Q.E, 23, none⟩ v).heap[q]? = w.heap[q]? := fun k q hk h3 h2 hq => (far_set (fun (e : q = Q.E) => by have := h.dj k 0 q hk (by omega) hq e; omega)).trans (kp1 k q hk h3 hq)
  have eE : EngAt w' Q.E x.c := h.e.blk (kp1 0 _ (by omega) (by omega) rfl)
  refine ⟨eE.put (by omega) v, (updV_other x.c v (show 21 ≠ 23 by omega)).trans h.c21, (updV_other x.c v (show 22 ≠ 23 by omega)).trans h.c22, updV_same x.c 23 v, (updV_other x.c v (show 14 ≠ 23 by omega)).trans h.c14, fun j hj => (World.cell?_of_block (a := ⟨Q.GR, j, none⟩) (kp 1 _ (by omega) (by omega) (by omega) rfl)).trans (h.rg j hj), fun o => (World.frozen?_of_block (a := ⟨Q.GR, o, none⟩) (kp 1 _ (by omega) (by omega) (by omega) rfl)).trans (h.rf o), fun j hj => (World.cell?_of_block (a := ⟨Q.GC, j, none⟩) (kp 2 _ (by omega) (by omega) (by omega) rfl)).trans (h.cu j hj), fun o => (World.frozen?_of_block (a := ⟨Q.GC, o, none⟩) (kp 2 _ (by omega) (by omega) (by omega) rfl)).trans (h.cf o), h.k11, own_keep h.ky (fun q hq _ => kp 3 q (by omega) (by omega) (by omega) hq), own_one ho (fun q hq => far_set (fun (e : q = Q.E) => vE (e ▸ hq))), own_keep h.pf (fun q hq _ => kp 5 q (by omega) (by omega) (by omega) hq), h.re.keep (fun q hq _ => kp 6 q (by omega) (by omega) (by omega) hq), fun q hq => ⟨by have := (h.st q hq).1; have := W.size; simp; omega, (kp 7 q (by omega) (by omega) (by omega) hq).trans (h.st q hq).2⟩, ?_, ⟨W.os.trans h.io.1, W.tape.trans h.io.2.1, W.output.trans h.io.2.2⟩⟩
  refine h.dj.upd (i := 4) h.flt hv (fun k hk q hq => ?_)
  match k, hk, hq with
  | 0, _, hq => exact hq
  | 1, _, hq => exact hq
  | 2, _, hq => exact hq
  | 3, _, hq => exact hq
  | 4, hk, _ => exact absurd rfl hk
  | 5, _, hq => exact hq
  | 6, _, hq => exact hq
  | k + 7, _, hq => exact hq
/-- The engine's row pr is laid anew. -/
theorem RAt.put_pr {w' : World} {w : World} {Q : RP} {x : RX} (h : RAt w Q x) {v : Value} {n : Nat} {xs : List Value} (ho : w'.ownsRow 0 21 1 v n xs) (hv : ∀ q, v.ownBlock = some q → x.pr.ownBlock = some q ∨ w.heap.size ≤ q) (W : Ws (fun q => x.pr.ownBlock = some q) w w') : RAt (w'.setCell ⟨Q.E, 14, none⟩ v) Q { x with c := updV x.c 14 v, pr := v, prn := n, prx := xs } := by
  have kp1 := h.but W 5 (by omega) (fun q _ hq => hq)
  have hE : Q.E < w.heap.size := h.flt 0 _ (by omega) rfl
  have vE : v.ownBlock ≠ some Q.E := fun e => by
    rcases hv _ e with z | z
    · have := h.dj 5 0 Q.E (by omega) (by omega) z rfl; omega
    · omega
  have kp : ∀ k q, k < 8 → k ≠ 5 → k ≠ 0 → fpX Q x k q → (w'.setCell ⟨Q.E, 14, none⟩ v).heap[q]? = w.heap[q]? := fun k q hk h3 h2 hq => (far_set (fun (e : q = Q.E) => by have := h.dj k 0 q hk (by omega) hq e; omega)).trans (kp1 k q hk h3 hq)
  have eE : EngAt w' Q.E x.c := h.e.blk (kp1 0 _ (by omega) (by omega) rfl)
  refine ⟨eE.put (by omega) v, (updV_other x.c v (show 21 ≠ 14 by omega)).trans h.c21, (updV_other x.c v (show 22 ≠ 14 by omega)).trans h.c22, (updV_other x.c v (show 23 ≠ 14 by omega)).trans h.c23, updV_same x.c 14 v, fun j hj => (World.cell?_of_block (a := ⟨Q.GR, j, none⟩) (kp 1 _ (by omega) (by omega) (by omega) rfl)).trans (h.rg j hj), fun o => (World.frozen?_of_block (a := ⟨Q.GR, o, none⟩) (kp 1 _ (by omega) (by omega) (by omega) rfl)).trans (h.rf o), fun j hj => (World.cell?_of_block (a := ⟨Q.GC, j, none⟩) (kp 2 _ (by omega) (by omega) (by omega) rfl)).trans (h.cu j hj), fun o => (World.frozen?_of_block (a := ⟨Q.GC, o, none⟩) (kp 2 _ (by omega) (by omega) (by omega) rfl)).trans (h.cf o), h.k11, own_keep h.ky (fun q hq _ => kp 3 q (by omega) (by omega) (by omega) hq), own_keep h.po (fun q hq _ => kp 4 q (by omega) (by omega) (by omega) hq), own_one ho (fun q hq => far_set (fun (e : q = Q.E) => vE (e ▸ hq))), h.re.keep (fun q hq _ => kp 6 q (by omega) (by omega) (by omega) hq), fun q hq => ⟨by have := (h.st q hq).1; have := W.size; simp; omega, (kp 7 q (by omega) (by omega) (by omega) hq).trans (h.st q hq).2⟩, ?_, ⟨W.os.trans h.io.1, W.tape.trans h.io.2.1, W.output.trans h.io.2.2⟩⟩
  refine h.dj.upd (i := 5) h.flt hv (fun k hk q hq => ?_)
  match k, hk, hq with
  | 0, _, hq => exact hq
  | 1, _, hq => exact hq
  | 2, _, hq => exact hq
  | 3, _, hq => exact hq
  | 4, _, hq => exact hq
  | 5, hk, _ => exact absurd rfl hk
  | 6, _, hq => exact hq
  | k + 7, _, hq => exact hq
/-- A row is inserted. -/
theorem RAt.ins {w' : World} {w : World} {Q : RP} {x : RX} (h : RAt w Q x) {s' : RelS} {d' f' : Nat → Nat} {N' : Nat} (R : RelO w' Q.hb Q.nm s' d' N' f') (hv : ∀ q, fpR Q.hb s' q → fpR Q.hb x.s q ∨ w.heap.size ≤ q) (W : Ws (fpR Q.hb x.s) w w') : RAt w' Q { x with s := s', d := d', N := N', f := f' } := by
  have kp := h.but W 6 (by omega) (fun q _ hq => hq)
  refine ⟨h.e.blk (kp 0 _ (by omega) (by omega) rfl), h.c21, h.c22, h.c23, h.c14, fun j hj => (World.cell?_of_block (a := ⟨Q.GR, j, none⟩) (kp 1 _ (by omega) (by omega) rfl)).trans (h.rg j hj), fun o => (World.frozen?_of_block (a := ⟨Q.GR, o, none⟩) (kp 1 _ (by omega) (by omega) rfl)).trans (h.rf o), fun j hj => (World.cell?_of_block (a := ⟨Q.GC, j, none⟩) (kp 2 _ (by omega) (by omega) rfl)).trans (h.cu j hj), fun o => (World.frozen?_of_block (a := ⟨Q.GC, o, none⟩) (kp 2 _ (by omega) (by omega) rfl)).trans (h.cf o), h.k11, own_keep h.ky (fun q hq _ => kp 3 q (by omega) (by omega) hq), own_keep h.po (fun q hq _ => kp 4 q (by omega) (by omega) hq), own_keep h.pf (fun q hq _ => kp 5 q (by omega) (by omega) hq), R, fun q hq => ⟨Nat.lt_of_lt_of_le (h.st q hq).1 W.size, (kp 7 q (by omega) (by omega) hq).trans (h.st q hq).2⟩, ?_, ⟨W.os.trans h.io.1, W.tape.trans h.io.2.1, W.output.trans h.io.2.2⟩⟩
  refine h.dj.upd (i := 6) h.flt hv (fun k hk q hq => ?_)
  match k, hk, hq with
  | 0, _, hq => exact hq
  | 1, _, hq => exact hq
  | 2, _, hq => exact hq
  | 3, _, hq => exact hq
  | 4, _, hq => exact hq
  | 5, _, hq => exact hq
  | 6, hk, _ => exact absurd rfl hk
  | k + 7, _, hq => exact hq
end Go.Proofs.Qxb6500880aGreat
