import Derived.Deep.CutBlock
import Derived.OwnWalk
import Derived.Maps.AppendAt
import Derived.Maps.OwnSet
import Derived.Maps.OwnOps
import Derived.Laws.ResultCell
import Derived.Test.Qxb6500880aZi
set_option linter.unusedVariables false
set_option linter.unusedSimpArgs false
namespace Go.Proofs.Qxb6500880a
open Go.RowKit

/-- Step k of a plan. -/
structure StX (w : World) (gs k : Nat) (ρ : Rl) (kn : Bool) (kv av : Value) : Prop where
  s0 : w.cell? ⟨gs, k * 8, none⟩ = some (.pointer (some ⟨ρ.gj, k * 3, none⟩))
  s1 : w.cell? ⟨gs, k * 8 + 1, none⟩ = some (.int .i64 (k : Int))
  s2 : w.cell? ⟨gs, k * 8 + 2, none⟩ = some (.int .u8 0)
  s3 : w.cell? ⟨gs, k * 8 + 3, none⟩ = some (howV kn)
  s4 : w.cell? ⟨gs, k * 8 + 4, none⟩ = some (.pointer none)
  s5 : w.cell? ⟨gs, k * 8 + 5, none⟩ = some (kv)
  s6 : w.cell? ⟨gs, k * 8 + 6, none⟩ = some (av)
  s7 : w.cell? ⟨gs, k * 8 + 7, none⟩ = some (.slice none 0 0)
theorem StX.blk {w w' : World} {gs k : Nat} {ρ : Rl} {kn : Bool} {kv av : Value} (h : StX w gs k ρ kn kv av) (e : w'.heap[gs]? = w.heap[gs]?) : StX w' gs k ρ kn kv av :=
  ⟨(World.cell?_of_block (a := ⟨gs, k * 8, none⟩) e).trans h.s0, (World.cell?_of_block (a := ⟨gs, k * 8 + 1, none⟩) e).trans h.s1, (World.cell?_of_block (a := ⟨gs, k * 8 + 2, none⟩) e).trans h.s2, (World.cell?_of_block (a := ⟨gs, k * 8 + 3, none⟩) e).trans h.s3, (World.cell?_of_block (a := ⟨gs, k * 8 + 4, none⟩) e).trans h.s4, (World.cell?_of_block (a := ⟨gs, k * 8 + 5, none⟩) e).trans h.s5, (World.cell?_of_block (a := ⟨gs, k * 8 + 6, none⟩) e).trans h.s6, (World.cell?_of_block (a := ⟨gs, k * 8 + 7, none⟩) e).trans h.s7⟩
theorem stC_len (ρ : Rl) (kn : Nat → Bool) (ky ac : Nat → Value) : ∀ m, (stC ρ kn ky ac m).length = m * 8
  | 0 => rfl
  | m + 1 => by
    unfold stC
    rw [List.length_append, stC_len ρ kn ky ac m]
    simp
    omega
theorem stC_get (ρ : Rl) (kn : Nat → Bool) (ky ac : Nat → Value) (k i : Nat) (hi : i < 8) : ∀ m, k < m → (stC ρ kn ky ac m)[k * 8 + i]? = ([.pointer (some ⟨ρ.gj, k * 3, none⟩), .int .i64 (k : Int), .int .u8 0, howV (kn k), .pointer none, ky k, ac k, .slice none 0 0] : List Value)[i]?
  | 0, h => by omega
  | m + 1, h => by
    unfold stC
    by_cases q : k = m
    · subst q
      rw [List.getElem?_append_right (by rw [stC_len]; omega), stC_len]
      congr 1
      omega
    · rw [List.getElem?_append_left (by rw [stC_len]; omega)]
      exact stC_get ρ kn ky ac k i hi m (by omega)
theorem PlI.shape {w : World} {P lo : Nat} {ρ : Rl} {kn : Nat → Bool} {sv : Value} {ky ac : Nat → Value} (h : PlI w P lo ρ kn ρ.m sv ky ac) (hm : 0 < ρ.m) : ∃ gs cs, sv = .slice (some ⟨gs, 0, none⟩) ρ.m cs ∧ ρ.m ≤ cs ∧ lo ≤ gs ∧ gs < w.heap.size ∧ ∀ k, k < ρ.m → StX w gs k ρ (kn k) (ky k) (ac k) := by
  obtain ⟨gs, cs, e, h1, h2, h3, h4, h5⟩ := own_full h.own hm
  refine ⟨gs, cs, e, h1, h2, h3, fun k hk => ?_⟩
  have z : ∀ i, i < 8 → w.cell? ⟨gs, k * 8 + i, none⟩ = _ := fun i hi => (h4 (k * 8 + i) (by omega)).trans (stC_get ρ kn ky ac k i hi ρ.m hk)
  exact ⟨z 0 (by omega), z 1 (by omega), z 2 (by omega), z 3 (by omega), z 4 (by omega), z 5 (by omega), z 6 (by omega), z 7 (by omega)⟩
/-- A cursor not yet opened. -/
structure CurN (w : World) (GC k : Nat) : Prop where
  c0 : w.cell? ⟨GC, k * 6, none⟩ = some (.int .i64 0)
  c1 : w.cell? ⟨GC, k * 6 + 1, none⟩ = some (.int .i64 0)
  c2 : w.cell? ⟨GC, k * 6 + 2, none⟩ = some (.int .i64 0)
  c3 : w.cell? ⟨GC, k * 6 + 3, none⟩ = some (.int .i32 0)
  c4 : w.cell? ⟨GC, k * 6 + 4, none⟩ = some (.int .i64 0)
  c5 : w.cell? ⟨GC, k * 6 + 5, none⟩ = some (.slice none 0 0)
/-- A cursor at a row. -/
structure CurO (w : World) (GC k : Nat) (r : Int) : Prop where
  c0 : w.cell? ⟨GC, k * 6, none⟩ = some (.int .i64 0)
  c1 : w.cell? ⟨GC, k * 6 + 1, none⟩ = some (.int .i64 1)
  c2 : w.cell? ⟨GC, k * 6 + 2, none⟩ = some (.int .i64 r)
  c4 : w.cell? ⟨GC, k * 6 + 4, none⟩ = some (.int .i64 0)
theorem CurN.blk {w w' : World} {GC k : Nat} (h : CurN w GC k) (e : w'.heap[GC]? = w.heap[GC]?) : CurN w' GC k :=
  ⟨(World.cell?_of_block (a := ⟨GC, k * 6, none⟩) e).trans h.c0, (World.cell?_of_block (a := ⟨GC, k * 6 + 1, none⟩) e).trans h.c1, (World.cell?_of_block (a := ⟨GC, k * 6 + 2, none⟩) e).trans h.c2, (World.cell?_of_block (a := ⟨GC, k * 6 + 3, none⟩) e).trans h.c3, (World.cell?_of_block (a := ⟨GC, k * 6 + 4, none⟩) e).trans h.c4, (World.cell?_of_block (a := ⟨GC, k * 6 + 5, none⟩) e).trans h.c5⟩
theorem CurO.blk {w w' : World} {GC k : Nat} {r : Int} (h : CurO w GC k r) (e : w'.heap[GC]? = w.heap[GC]?) : CurO w' GC k r :=
  ⟨(World.cell?_of_block (a := ⟨GC, k * 6, none⟩) e).trans h.c0, (World.cell?_of_block (a := ⟨GC, k * 6 + 1, none⟩) e).trans h.c1, (World.cell?_of_block (a := ⟨GC, k * 6 + 2, none⟩) e).trans h.c2, (World.cell?_of_block (a := ⟨GC, k * 6 + 4, none⟩) e).trans h.c4⟩
theorem cur_other {w : World} {GC k j o : Nat} {v : Value} (hj : j ≠ k) (ho : o < 6) {i : Nat} (hi : i < 6) : (w.setCell ⟨GC, k * 6 + o, none⟩ v).cell? ⟨GC, j * 6 + i, none⟩ = w.cell? ⟨GC, j * 6 + i, none⟩ := by
  rw [World.cell?_setCell_other _ _ _ _ (by simp <;> omega)]
set_option maxRecDepth 20000 in
set_option maxHeartbeats 8000000 in
theorem open_scan {w : World} {E GR R GC gs k : Nat} {ρ : Rl} {av : Value} {nm : ByteArray} {s : RelS} (St : StX w gs k ρ false (.slice none 0 0) av) (j0 : w.cell? ⟨ρ.gj, k * 3, none⟩ = some (.pointer (some ⟨ρ.rb, 0, none⟩))) (H : RelAt w ρ.rb nm s) (hcu : s.cur = 1) (hE : w.cell? ⟨E, 21, none⟩ = some (.slice (some ⟨GR, 0, none⟩) R R)) (RZ : RegZ w GR R) (C : CurN w GC k) (cf : ∀ o, w.frozen? ⟨GC, o, none⟩ = false) (hne : GC ≠ gs ∧ GC ≠ E ∧ GC ≠ GR) (hR : R ≤ 1000) (hk : k ≤ 100) :
    Calls Try.prog 60 #[.pointer (some ⟨E, 0, none⟩), .pointer (some ⟨gs, k * 8, none⟩), .pointer (some ⟨GC, k * 6, none⟩)] w fun e w' => e = .returned (.tuple #[]) ∧ CurO w' GC k 0 ∧ (∀ j, j ≠ k → ∀ i, i < 6 → w'.cell? ⟨GC, j * 6 + i, none⟩ = w.cell? ⟨GC, j * 6 + i, none⟩) ∧ (∀ o, w'.frozen? ⟨GC, o, none⟩ = false) ∧ Wr GC w w' := by
  obtain ⟨hne1, hne2, hne3⟩ := hne
  have hbd := bounds_any H
  rw [hcu] at hbd
  have s0 := St.s0
  have s2 := St.s2
  have hGl : GC < w.heap.size := World.block_lt_of_cell? _ _ C.c0
  have hgl : gs < w.heap.size := World.block_lt_of_cell? _ _ St.s0
  have c0 := C.c0
  have c1 := C.c1
  have HQ := hideIt (And.intro St (And.intro H (And.intro hE (And.intro RZ C))))
  clear St H hE RZ C hcu
  go_enter Try.func60, Try.ntmps60
  go_wp2_with fail
  refine hbd.mono ?_
  rintro e w1 ⟨rfl, ew⟩
  clear hbd
  have d0 : w1.cell? ⟨GC, k * 6, none⟩ = some (.int .i64 0) := by rw [ew]; exact c0
  have d1 : w1.cell? ⟨GC, k * 6 + 1, none⟩ = some (.int .i64 0) := by rw [ew]; exact c1
  have df : ∀ o, w1.frozen? ⟨GC, o, none⟩ = false := by rw [ew]; exact cf
  have W1 : Wr GC w w1 := by rw [ew]; exact (Wr.refl _ _).drew
  have e1 : ∀ q : Nat, w1.heap[q]? = w.heap[q]? := by rw [ew]; exact fun _ => rfl
  have hs1 : w1.heap.size = w.heap.size := by rw [ew]; rfl
  have HW1 := hideIt (And.intro W1 (And.intro e1 hs1))
  clear W1 e1 hs1 ew c0 c1 s0 s2 j0 cf
  go_upto_region 2 with fail
  obtain ⟨St, H, hE, RZ, C⟩ := HQ.out
  obtain ⟨W1, e1, hs1⟩ := HW1.out
  have eF : ∀ q, q ≠ GC → ((w1.setCell ⟨GC, k * 6, none⟩ (.int .i64 0)).setCell ⟨GC, k * 6 + 1, none⟩ (.int .i64 1)).heap[q]? = w.heap[q]? := fun q z => ((far_set z).trans (far_set z)).trans (e1 q)
  have c5 : ((w1.setCell ⟨GC, k * 6, none⟩ (.int .i64 0)).setCell ⟨GC, k * 6 + 1, none⟩ (.int .i64 1)).cell? ⟨GC, k * 6 + 5, none⟩ = some (.slice none 0 0) := by
    rw [World.cell?_setCell_other _ _ _ _ (by simp <;> omega), World.cell?_setCell_other _ _ _ _ (by simp <;> omega)]
    exact (World.cell?_of_block (a := ⟨GC, k * 6 + 5, none⟩) (e1 GC)).trans C.c5
  have C0 : ((w1.setCell ⟨GC, k * 6, none⟩ (.int .i64 0)).setCell ⟨GC, k * 6 + 1, none⟩ (.int .i64 1)).cell? ⟨GC, k * 6, none⟩ = some (.int .i64 0) := by
    rw [World.cell?_setCell_other _ _ _ _ (by simp <;> omega)]
    exact World.cell?_setCell_same _ _ _ d0
  have C1 : ((w1.setCell ⟨GC, k * 6, none⟩ (.int .i64 0)).setCell ⟨GC, k * 6 + 1, none⟩ (.int .i64 1)).cell? ⟨GC, k * 6 + 1, none⟩ = some (.int .i64 1) := by
    refine World.cell?_setCell_same (u := .int .i64 0) _ _ _ ?_
    rw [World.cell?_setCell_other _ _ _ _ (by simp <;> omega)]
    exact d1
  have C2 : ((w1.setCell ⟨GC, k * 6, none⟩ (.int .i64 0)).setCell ⟨GC, k * 6 + 1, none⟩ (.int .i64 1)).cell? ⟨GC, k * 6 + 2, none⟩ = some (.int .i64 0) := by
    rw [World.cell?_setCell_other _ _ _ _ (by simp <;> omega), World.cell?_setCell_other _ _ _ _ (by simp <;> omega)]
    exact (World.cell?_of_block (a := ⟨GC, k * 6 + 2, none⟩) (e1 GC)).trans C.c2
  have C4 : ((w1.setCell ⟨GC, k * 6, none⟩ (.int .i64 0)).setCell ⟨GC, k * 6 + 1, none⟩ (.int .i64 1)).cell? ⟨GC, k * 6 + 4, none⟩ = some (.int .i64 0) := by
    rw [World.cell?_setCell_other _ _ _ _ (by simp <;> omega), World.cell?_setCell_other _ _ _ _ (by simp <;> omega)]
    exact (World.cell?_of_block (a := ⟨GC, k * 6 + 4, none⟩) (e1 GC)).trans C.c4
  have CJ : ∀ j, j ≠ k → ∀ i, i < 6 → ((w1.setCell ⟨GC, k * 6, none⟩ (.int .i64 0)).setCell ⟨GC, k * 6 + 1, none⟩ (.int .i64 1)).cell? ⟨GC, j * 6 + i, none⟩ = w.cell? ⟨GC, j * 6 + i, none⟩ := fun j hj i hi => by
    rw [World.cell?_setCell_other _ _ _ _ (by simp <;> omega), World.cell?_setCell_other _ _ _ _ (by simp <;> omega)]
    exact World.cell?_of_block (a := ⟨GC, j * 6 + i, none⟩) (e1 GC)
  have ff : ∀ o, ((w1.setCell ⟨GC, k * 6, none⟩ (.int .i64 0)).setCell ⟨GC, k * 6 + 1, none⟩ (.int .i64 1)).frozen? ⟨GC, o, none⟩ = false := fun o => ((World.frozen?_setCell _ _ _ _).trans (World.frozen?_setCell _ _ _ _)).trans (df o)
  have WR : Wr GC w ((w1.setCell ⟨GC, k * 6, none⟩ (.int .i64 0)).setCell ⟨GC, k * 6 + 1, none⟩ (.int .i64 1)) := W1.set.set
  have e5 := (World.cell?_of_block (a := ⟨gs, k * 8 + 5, none⟩) (eF gs (fun e => hne1 e.symm))).trans St.s5
  have e3 := (World.cell?_of_block (a := ⟨gs, k * 8 + 3, none⟩) (eF gs (fun e => hne1 e.symm))).trans St.s3
  have hE' := (World.cell?_of_block (a := ⟨E, 21, none⟩) (eF E (fun e => hne2 e.symm))).trans hE
  have RZ' := RZ.blk (eF GR (fun e => hne3 e.symm))
  have hsz : ((w1.setCell ⟨GC, k * 6, none⟩ (.int .i64 0)).setCell ⟨GC, k * 6 + 1, none⟩ (.int .i64 1)).heap.size = w.heap.size := by simp; omega
  replace hGl : GC < ((w1.setCell ⟨GC, k * 6, none⟩ (.int .i64 0)).setCell ⟨GC, k * 6 + 1, none⟩ (.int .i64 1)).heap.size := by omega
  replace hgl : gs < ((w1.setCell ⟨GC, k * 6, none⟩ (.int .i64 0)).setCell ⟨GC, k * 6 + 1, none⟩ (.int .i64 1)).heap.size := by omega
  clear St H hE RZ C W1 e1 hs1 eF d0 d1 df HW1
  generalize ((w1.setCell ⟨GC, k * 6, none⟩ (.int .i64 0)).setCell ⟨GC, k * 6 + 1, none⟩ (.int .i64 1)) = w2 at *
  have hga := gather_any (w := w2.drew) (f := fun _ => 0) (k := 0) hE' ⟨RZ'.c, RZ'.fz⟩ ⟨none, 0, rfl, Nat.le_refl _, .inl rfl⟩ (fun j hj => by omega) hR (by omega)
  clear hE' RZ'
  have HY := hideIt (And.intro C0 (And.intro C1 (And.intro C2 (And.intro C4 (And.intro CJ (And.intro WR hsz))))))
  clear C0 C1 C2 C4 CJ WR hsz HQ
  refine wp_region_l (l := 14) (S := (fun w' => w'.cell? ⟨GC, k * 6 + 5, none⟩ = some (.slice none 0 0) ∧ w'.cell? ⟨gs, k * 8 + 5, none⟩ = some (.slice none 0 0))) (by kernel_rfl) ⟨c5, e5⟩ (fun hHeld => ?_)
  refine AnyL.take2 (i := 0) (oi := { dst := some 29, op := Go.Op.move (Go.Operand.tmp 2), type := 183, pos := _, after := #[], guard := none }) (v := ?vv31001) (by kernel_rfl) (by kernel_rfl) rfl (by kernel_rfl) (by kernel_rfl) (by kernel_rfl) (fun _ _ _ h => h) (Or.inl ⟨by rfl, ?hy31001⟩) (by assumption) ?tk31001
  case hy31001 => (intro w hSw; (try dsimp only at hSw); go_simp; (try with_reducible rfl))
  try simp only [Act.put, List.setIfInBounds_toArray, List.set_cons_zero, List.set_cons_succ]
  refine AnyL.take2 (i := 1) (oi := { dst := some 30, op := Go.Op.move (Go.Operand.tmp 0), type := 43, pos := _, after := #[], guard := none }) (v := ?vv31002) (by kernel_rfl) (by kernel_rfl) rfl (by kernel_rfl) (by kernel_rfl) (by kernel_rfl) (fun _ _ _ h => h) (Or.inl ⟨by rfl, ?hy31002⟩) (by assumption) ?tk31002
  case hy31002 => (intro w hSw; (try dsimp only at hSw); go_simp; (try with_reducible rfl))
  try simp only [Act.put, List.setIfInBounds_toArray, List.set_cons_zero, List.set_cons_succ]
  refine AnyL.take2 (i := 2) (oi := { dst := some 31, op := Go.Op.move (Go.Operand.tmp 2), type := 183, pos := _, after := #[], guard := none }) (v := ?vv31003) (by kernel_rfl) (by kernel_rfl) rfl (by kernel_rfl) (by kernel_rfl) (by kernel_rfl) (fun _ _ _ h => h) (Or.inl ⟨by rfl, ?hy31003⟩) (by assumption) ?tk31003
  case hy31003 => (intro w hSw; (try dsimp only at hSw); go_simp; (try with_reducible rfl))
  try simp only [Act.put, List.setIfInBounds_toArray, List.set_cons_zero, List.set_cons_succ]
  refine AnyL.take2 (i := 3) (oi := { dst := some 32, op := Go.Op.nilCheck (Go.Operand.tmp 31), type := 0, pos := _, after := #[{ on := 2, ground := Go.Ground.data }], guard := none }) (v := ?vv31004) (by kernel_rfl) (by kernel_rfl) rfl (by kernel_rfl) (by kernel_rfl) (by kernel_rfl) (fun _ _ _ h => h) (Or.inl ⟨by rfl, ?hy31004⟩) (by assumption) ?tk31004
  case hy31004 => (intro w hSw; (try dsimp only at hSw); go_simp; (try with_reducible rfl))
  try simp only [Act.put, List.setIfInBounds_toArray, List.set_cons_zero, List.set_cons_succ]
  refine AnyL.take2 (i := 4) (oi := { dst := some 33, op := Go.Op.fieldAddr 102 (Go.Operand.tmp 32) 5, type := 0, pos := _, after := #[{ on := 3, ground := Go.Ground.data }], guard := none }) (v := ?vv31005) (by kernel_rfl) (by kernel_rfl) rfl (by kernel_rfl) (by kernel_rfl) (by kernel_rfl) (fun _ _ _ h => h) (Or.inl ⟨by rfl, ?hy31005⟩) (by assumption) ?tk31005
  case hy31005 => (intro w hSw; (try dsimp only at hSw); go_simp; (try with_reducible rfl))
  try simp only [Act.put, List.setIfInBounds_toArray, List.set_cons_zero, List.set_cons_succ]
  refine AnyL.take2 (i := 5) (oi := { dst := some 34, op := Go.Op.load 72 (Go.Operand.tmp 33), type := 72, pos := _, after := #[{ on := 4, ground := Go.Ground.data }], guard := none }) (v := ?vv31006) (by kernel_rfl) (by kernel_rfl) rfl (by kernel_rfl) (by kernel_rfl) (by kernel_rfl) (fun _ _ _ h => h) (Or.inl ⟨by rfl, ?hy31006⟩) (by assumption) ?tk31006
  case hy31006 => (intro w hSw; (try dsimp only at hSw); go_simp; (try with_reducible rfl))
  try simp only [Act.put, List.setIfInBounds_toArray, List.set_cons_zero, List.set_cons_succ]
  refine AnyL.take2 (i := 6) (oi := { dst := some 35, op := Go.Op.slice 72 (Go.Operand.tmp 34) none (some (Go.Operand.const (Go.Value.int Go.IntKind.i64 0))) none, type := 72, pos := _, after := #[{ on := 5, ground := Go.Ground.data }], guard := none }) (v := ?vv31007) (by kernel_rfl) (by kernel_rfl) rfl (by kernel_rfl) (by kernel_rfl) (by kernel_rfl) (fun _ _ _ h => h) (Or.inl ⟨by rfl, ?hy31007⟩) (by assumption) ?tk31007
  case hy31007 => (intro w hSw; (try dsimp only at hSw); go_simp; (try with_reducible rfl))
  try simp only [Act.put, List.setIfInBounds_toArray, List.set_cons_zero, List.set_cons_succ]
  refine AnyL.take2 (i := 7) (oi := { dst := some 36, op := Go.Op.move (Go.Operand.tmp 1), type := 182, pos := _, after := #[], guard := none }) (v := ?vv31008) (by kernel_rfl) (by kernel_rfl) rfl (by kernel_rfl) (by kernel_rfl) (by kernel_rfl) (fun _ _ _ h => h) (Or.inl ⟨by rfl, ?hy31008⟩) (by assumption) ?tk31008
  case hy31008 => (intro w hSw; (try dsimp only at hSw); go_simp; (try with_reducible rfl))
  try simp only [Act.put, List.setIfInBounds_toArray, List.set_cons_zero, List.set_cons_succ]
  refine AnyL.take2 (i := 8) (oi := { dst := some 37, op := Go.Op.nilCheck (Go.Operand.tmp 36), type := 0, pos := _, after := #[{ on := 7, ground := Go.Ground.data }], guard := none }) (v := ?vv31009) (by kernel_rfl) (by kernel_rfl) rfl (by kernel_rfl) (by kernel_rfl) (by kernel_rfl) (fun _ _ _ h => h) (Or.inl ⟨by rfl, ?hy31009⟩) (by assumption) ?tk31009
  case hy31009 => (intro w hSw; (try dsimp only at hSw); go_simp; (try with_reducible rfl))
  try simp only [Act.put, List.setIfInBounds_toArray, List.set_cons_zero, List.set_cons_succ]
  refine AnyL.take2 (i := 9) (oi := { dst := some 38, op := Go.Op.fieldAddr 173 (Go.Operand.tmp 37) 5, type := 0, pos := _, after := #[{ on := 8, ground := Go.Ground.data }], guard := none }) (v := ?vv31010) (by kernel_rfl) (by kernel_rfl) rfl (by kernel_rfl) (by kernel_rfl) (by kernel_rfl) (fun _ _ _ h => h) (Or.inl ⟨by rfl, ?hy31010⟩) (by assumption) ?tk31010
  case hy31010 => (intro w hSw; (try dsimp only at hSw); go_simp; (try with_reducible rfl))
  try simp only [Act.put, List.setIfInBounds_toArray, List.set_cons_zero, List.set_cons_succ]
  refine AnyL.take2 (i := 10) (oi := { dst := some 39, op := Go.Op.load 90 (Go.Operand.tmp 38), type := 90, pos := _, after := #[{ on := 9, ground := Go.Ground.data }], guard := none }) (v := ?vv31011) (by kernel_rfl) (by kernel_rfl) rfl (by kernel_rfl) (by kernel_rfl) (by kernel_rfl) (fun _ _ _ h => h) (Or.inl ⟨by rfl, ?hy31011⟩) (by assumption) ?tk31011
  case hy31011 => (intro w hSw; (try dsimp only at hSw); go_simp; (try with_reducible rfl))
  try simp only [Act.put, List.setIfInBounds_toArray, List.set_cons_zero, List.set_cons_succ]
  refine AnyL.one (i := 11) (o := { dst := some 40, op := Go.Op.call { callee := Go.Callee.value (Go.Operand.func 73), args := #[Go.Operand.tmp 30, Go.Operand.tmp 35, Go.Operand.tmp 39], argTypes := #[43, 72, 90] }, type := 72, pos := _, after := #[{ on := 1, ground := Go.Ground.data }, { on := 6, ground := Go.Ground.data }, { on := 10, ground := Go.Ground.data }], guard := none }) (by kernel_rfl) rfl rfl (fun K' hK' => ?_)
  go_simp
  go_at_call 73
  refine hga.mono ?_
  rintro e w5 ⟨v5, rfl, own5, hv0, b5⟩
  obtain ⟨p5, n5, rfl⟩ := own_shape own5
  have x5 : w5.cell? ⟨GC, k * 6 + 5, none⟩ = some (.slice none 0 0) := (World.cell?_of_block (a := ⟨GC, k * 6 + 5, none⟩) (b5.block GC hGl)).trans c5
  have x6 : w5.cell? ⟨gs, k * 8 + 5, none⟩ = some (.slice none 0 0) := (World.cell?_of_block (a := ⟨gs, k * 8 + 5, none⟩) (b5.block gs hgl)).trans e5
  have xf : ∀ o, w5.frozen? ⟨GC, o, none⟩ = false := fun o => (World.frozen?_of_block (a := ⟨GC, o, none⟩) (b5.block GC hGl)).trans (ff o)
  have HX5 := hideIt (And.intro own5 (And.intro hv0 b5))
  clear own5 hv0 b5 hga
  clear hHeld
  refine hK'.out _ _ ⟨x5, x6⟩ (fun hHeld => ?_)
  clear hK' K'
  try simp only [Act.put, List.setIfInBounds_toArray, List.set_cons_zero, List.set_cons_succ]
  refine AnyL.take2 (i := 12) (oi := { dst := some 41, op := Go.Op.nilCheck (Go.Operand.tmp 29), type := 0, pos := _, after := #[{ on := 0, ground := Go.Ground.data }, { on := 0, ground := Go.Ground.phase }, { on := 1, ground := Go.Ground.phase }, { on := 2, ground := Go.Ground.phase }, { on := 3, ground := Go.Ground.phase }, { on := 4, ground := Go.Ground.phase }, { on := 5, ground := Go.Ground.phase }, { on := 6, ground := Go.Ground.phase }, { on := 7, ground := Go.Ground.phase }, { on := 8, ground := Go.Ground.phase }, { on := 9, ground := Go.Ground.phase }, { on := 10, ground := Go.Ground.phase }, { on := 11, ground := Go.Ground.phase }], guard := none }) (v := ?vv31012) (by kernel_rfl) (by kernel_rfl) rfl (by kernel_rfl) (by kernel_rfl) (by kernel_rfl) (fun _ _ _ h => h) (Or.inl ⟨by rfl, ?hy31012⟩) (by assumption) ?tk31012
  case hy31012 => (intro w hSw; (try dsimp only at hSw); go_simp; (try with_reducible rfl))
  try simp only [Act.put, List.setIfInBounds_toArray, List.set_cons_zero, List.set_cons_succ]
  refine AnyL.take2 (i := 13) (oi := { dst := some 42, op := Go.Op.fieldAddr 102 (Go.Operand.tmp 41) 5, type := 0, pos := _, after := #[{ on := 12, ground := Go.Ground.data }, { on := 0, ground := Go.Ground.phase }, { on := 1, ground := Go.Ground.phase }, { on := 2, ground := Go.Ground.phase }, { on := 3, ground := Go.Ground.phase }, { on := 4, ground := Go.Ground.phase }, { on := 5, ground := Go.Ground.phase }, { on := 6, ground := Go.Ground.phase }, { on := 7, ground := Go.Ground.phase }, { on := 8, ground := Go.Ground.phase }, { on := 9, ground := Go.Ground.phase }, { on := 10, ground := Go.Ground.phase }, { on := 11, ground := Go.Ground.phase }], guard := none }) (v := ?vv31013) (by kernel_rfl) (by kernel_rfl) rfl (by kernel_rfl) (by kernel_rfl) (by kernel_rfl) (fun _ _ _ h => h) (Or.inl ⟨by rfl, ?hy31013⟩) (by assumption) ?tk31013
  case hy31013 => (intro w hSw; (try dsimp only at hSw); go_simp; (try with_reducible rfl))
  try simp only [Act.put, List.setIfInBounds_toArray, List.set_cons_zero, List.set_cons_succ]
  refine AnyL.last (o := { dst := none, op := Go.Op.store 72 (Go.Operand.tmp 42) (Go.Operand.tmp 40), type := 0, pos := _, after := #[{ on := 13, ground := Go.Ground.data }, { on := 11, ground := Go.Ground.data }, { on := 11, ground := Go.Ground.chain }, { on := 0, ground := Go.Ground.phase }, { on := 1, ground := Go.Ground.phase }, { on := 2, ground := Go.Ground.phase }, { on := 3, ground := Go.Ground.phase }, { on := 4, ground := Go.Ground.phase }, { on := 5, ground := Go.Ground.phase }, { on := 6, ground := Go.Ground.phase }, { on := 7, ground := Go.Ground.phase }, { on := 8, ground := Go.Ground.phase }, { on := 9, ground := Go.Ground.phase }, { on := 10, ground := Go.Ground.phase }, { on := 11, ground := Go.Ground.phase }], guard := none }) (by kernel_rfl) rfl (by kernel_rfl) (fun K' hK' => ?_)
  go_simp
  clear hHeld
  refine hK'.out _ _ ?_
  clear hK' K'
  try simp only [Act.put, List.setIfInBounds_toArray, List.set_cons_zero, List.set_cons_succ]
  obtain ⟨own5, hv0, b5⟩ := HX5.out
  obtain ⟨C0, C1, C2, C4, CJ, WR, hsz⟩ := HY.out
  have eG := b5.block GC hGl
  have g0 : (w5.setCell ⟨GC, k * 6 + 5, none⟩ (.slice p5 0 n5)).cell? ⟨GC, k * 6, none⟩ = some (.int .i64 0) := (World.cell?_setCell_other _ _ _ _ (by simp <;> omega)).trans ((World.cell?_of_block (a := ⟨GC, k * 6, none⟩) eG).trans C0)
  have g1 : (w5.setCell ⟨GC, k * 6 + 5, none⟩ (.slice p5 0 n5)).cell? ⟨GC, k * 6 + 1, none⟩ = some (.int .i64 1) := (World.cell?_setCell_other _ _ _ _ (by simp <;> omega)).trans ((World.cell?_of_block (a := ⟨GC, k * 6 + 1, none⟩) eG).trans C1)
  have g2 : (w5.setCell ⟨GC, k * 6 + 5, none⟩ (.slice p5 0 n5)).cell? ⟨GC, k * 6 + 2, none⟩ = some (.int .i64 0) := (World.cell?_setCell_other _ _ _ _ (by simp <;> omega)).trans ((World.cell?_of_block (a := ⟨GC, k * 6 + 2, none⟩) eG).trans C2)
  have g4 : (w5.setCell ⟨GC, k * 6 + 5, none⟩ (.slice p5 0 n5)).cell? ⟨GC, k * 6 + 4, none⟩ = some (.int .i64 0) := (World.cell?_setCell_other _ _ _ _ (by simp <;> omega)).trans ((World.cell?_of_block (a := ⟨GC, k * 6 + 4, none⟩) eG).trans C4)
  have gj : ∀ j, j ≠ k → ∀ i, i < 6 → (w5.setCell ⟨GC, k * 6 + 5, none⟩ (.slice p5 0 n5)).cell? ⟨GC, j * 6 + i, none⟩ = w.cell? ⟨GC, j * 6 + i, none⟩ := fun j hj i hi => (World.cell?_setCell_other _ _ _ _ (by simp <;> omega)).trans ((World.cell?_of_block (a := ⟨GC, j * 6 + i, none⟩) eG).trans (CJ j hj i hi))
  have gf : ∀ o, (w5.setCell ⟨GC, k * 6 + 5, none⟩ (.slice p5 0 n5)).frozen? ⟨GC, o, none⟩ = false := fun o => (World.frozen?_setCell _ _ _ _).trans (xf o)
  have gw : Wr GC w (w5.setCell ⟨GC, k * 6 + 5, none⟩ (.slice p5 0 n5)) := (WR.trans ⟨b5.os, b5.tape, b5.output, b5.size, fun q z1 z2 => b5.block q z1⟩).set
  have q3 : (w5.setCell ⟨GC, k * 6 + 5, none⟩ (.slice p5 0 n5)).cell? ⟨gs, k * 8 + 3, none⟩ = some (.int .u8 0) := (World.cell?_of_block (a := ⟨gs, k * 8 + 3, none⟩) ((far_set (fun e => hne1 e.symm)).trans (b5.block gs hgl))).trans e3
  clear own5 hv0 b5 C0 C1 C2 C4 CJ WR hsz eG HX5 HY x5 x6 xf c5 ff e5 e3
  generalize (w5.setCell ⟨GC, k * 6 + 5, none⟩ (.slice p5 0 n5)) = w6 at *
  have HZ := hideIt (And.intro gj gw)
  have G0 := hideIt (And.intro g1 g4)
  clear gj gw g1 g4
  go_wp2
  go_end0
  obtain ⟨gj, gw⟩ := HZ.out
  obtain ⟨g1, g4⟩ := G0.out
  rw [setCell_self g2]
  exact ⟨rfl, ⟨g0, g1, g2, g4⟩, gj, gf, gw⟩
set_option maxRecDepth 20000 in
set_option maxHeartbeats 8000000 in
theorem open_lookup {w : World} {E GR R GC gs k gq cq x : Nat} {ρ : Rl} {av : Value} {nm : ByteArray} {s : RelS} (St : StX w gs k ρ true (.slice (some ⟨gq, 0, none⟩) 1 cq) av) (HO : OpsAt w (.slice (some ⟨gq, 0, none⟩) 1 cq) 1 (fun _ => x)) (hx : x < R) {f : Nat → Int} (hro : s.rows = 1) (hA : s.A = 1) (hd : SymZ w s.data 1) (hdG : s.data.ownBlock ≠ some GC) (hs : SlotAt w s.slots f) (hsG : s.slots.ownBlock ≠ some GC) (hf1 : f (slotZ 1) = 1) (j0 : w.cell? ⟨ρ.gj, k * 3, none⟩ = some (.pointer (some ⟨ρ.rb, 0, none⟩))) (H : RelAt w ρ.rb nm s) (hcu : s.cur = 1) (hE : w.cell? ⟨E, 21, none⟩ = some (.slice (some ⟨GR, 0, none⟩) R R)) (RZ : RegZ w GR R) (C : CurN w GC k) (cf : ∀ o, w.frozen? ⟨GC, o, none⟩ = false) (hne : GC ≠ gs ∧ GC ≠ E ∧ GC ≠ GR ∧ GC ≠ gq ∧ GC ≠ ρ.rb) (hR : R ≤ 1000) (hk : k ≤ 100) :
    Calls Try.prog 60 #[.pointer (some ⟨E, 0, none⟩), .pointer (some ⟨gs, k * 8, none⟩), .pointer (some ⟨GC, k * 6, none⟩)] w fun e w' => e = .returned (.tuple #[]) ∧ CurO w' GC k 0 ∧ (∀ j, j ≠ k → ∀ i, i < 6 → w'.cell? ⟨GC, j * 6 + i, none⟩ = w.cell? ⟨GC, j * 6 + i, none⟩) ∧ (∀ o, w'.frozen? ⟨GC, o, none⟩ = false) ∧ Wr GC w w' := by
  obtain ⟨hne1, hne2, hne3, hne4, hne5⟩ := hne
  have hbd := bounds_any H
  rw [hcu] at hbd
  have s0 := St.s0
  have s2 := St.s2
  have hGl : GC < w.heap.size := World.block_lt_of_cell? _ _ C.c0
  have hgl : gs < w.heap.size := World.block_lt_of_cell? _ _ St.s0
  have c0 := C.c0
  have c1 := C.c1
  have HQ := hideIt (And.intro St (And.intro H (And.intro hE (And.intro RZ C))))
  have HQ2 := hideIt (And.intro HO (And.intro hro (And.intro hA (And.intro hd (And.intro hdG (And.intro hs (And.intro hsG hf1)))))))
  clear St H hE RZ C hcu HO hro hA hd hdG hs hsG hf1
  have j0' := hideIt j0
  go_enter Try.func60, Try.ntmps60
  go_wp2_with fail
  refine hbd.mono ?_
  rintro e w1 ⟨rfl, ew⟩
  clear hbd
  have d0 : w1.cell? ⟨GC, k * 6, none⟩ = some (.int .i64 0) := by rw [ew]; exact c0
  have d1 : w1.cell? ⟨GC, k * 6 + 1, none⟩ = some (.int .i64 0) := by rw [ew]; exact c1
  have df : ∀ o, w1.frozen? ⟨GC, o, none⟩ = false := by rw [ew]; exact cf
  have W1 : Wr GC w w1 := by rw [ew]; exact (Wr.refl _ _).drew
  have e1 : ∀ q : Nat, w1.heap[q]? = w.heap[q]? := by rw [ew]; exact fun _ => rfl
  have hs1 : w1.heap.size = w.heap.size := by rw [ew]; rfl
  have HW1 := hideIt (And.intro W1 (And.intro e1 hs1))
  clear W1 e1 hs1 ew c0 c1 s0 s2 j0 cf
  go_upto_region 2 with fail
  obtain ⟨St, H, hE, RZ, C⟩ := HQ.out
  obtain ⟨W1, e1, hs1⟩ := HW1.out
  obtain ⟨HO, hro, hA, hd, hdG, hs, hsG, hf1⟩ := HQ2.out
  have eF : ∀ q, q ≠ GC → ((w1.setCell ⟨GC, k * 6, none⟩ (.int .i64 0)).setCell ⟨GC, k * 6 + 1, none⟩ (.int .i64 1)).heap[q]? = w.heap[q]? := fun q z => ((far_set z).trans (far_set z)).trans (e1 q)
  have c5 : ((w1.setCell ⟨GC, k * 6, none⟩ (.int .i64 0)).setCell ⟨GC, k * 6 + 1, none⟩ (.int .i64 1)).cell? ⟨GC, k * 6 + 5, none⟩ = some (.slice none 0 0) := by
    rw [World.cell?_setCell_other _ _ _ _ (by simp <;> omega), World.cell?_setCell_other _ _ _ _ (by simp <;> omega)]
    exact (World.cell?_of_block (a := ⟨GC, k * 6 + 5, none⟩) (e1 GC)).trans C.c5
  have C0 : ((w1.setCell ⟨GC, k * 6, none⟩ (.int .i64 0)).setCell ⟨GC, k * 6 + 1, none⟩ (.int .i64 1)).cell? ⟨GC, k * 6, none⟩ = some (.int .i64 0) := by
    rw [World.cell?_setCell_other _ _ _ _ (by simp <;> omega)]
    exact World.cell?_setCell_same _ _ _ d0
  have C1 : ((w1.setCell ⟨GC, k * 6, none⟩ (.int .i64 0)).setCell ⟨GC, k * 6 + 1, none⟩ (.int .i64 1)).cell? ⟨GC, k * 6 + 1, none⟩ = some (.int .i64 1) := by
    refine World.cell?_setCell_same (u := .int .i64 0) _ _ _ ?_
    rw [World.cell?_setCell_other _ _ _ _ (by simp <;> omega)]
    exact d1
  have C2 : ((w1.setCell ⟨GC, k * 6, none⟩ (.int .i64 0)).setCell ⟨GC, k * 6 + 1, none⟩ (.int .i64 1)).cell? ⟨GC, k * 6 + 2, none⟩ = some (.int .i64 0) := by
    rw [World.cell?_setCell_other _ _ _ _ (by simp <;> omega), World.cell?_setCell_other _ _ _ _ (by simp <;> omega)]
    exact (World.cell?_of_block (a := ⟨GC, k * 6 + 2, none⟩) (e1 GC)).trans C.c2
  have C4 : ((w1.setCell ⟨GC, k * 6, none⟩ (.int .i64 0)).setCell ⟨GC, k * 6 + 1, none⟩ (.int .i64 1)).cell? ⟨GC, k * 6 + 4, none⟩ = some (.int .i64 0) := by
    rw [World.cell?_setCell_other _ _ _ _ (by simp <;> omega), World.cell?_setCell_other _ _ _ _ (by simp <;> omega)]
    exact (World.cell?_of_block (a := ⟨GC, k * 6 + 4, none⟩) (e1 GC)).trans C.c4
  have CJ : ∀ j, j ≠ k → ∀ i, i < 6 → ((w1.setCell ⟨GC, k * 6, none⟩ (.int .i64 0)).setCell ⟨GC, k * 6 + 1, none⟩ (.int .i64 1)).cell? ⟨GC, j * 6 + i, none⟩ = w.cell? ⟨GC, j * 6 + i, none⟩ := fun j hj i hi => by
    rw [World.cell?_setCell_other _ _ _ _ (by simp <;> omega), World.cell?_setCell_other _ _ _ _ (by simp <;> omega)]
    exact World.cell?_of_block (a := ⟨GC, j * 6 + i, none⟩) (e1 GC)
  have ff : ∀ o, ((w1.setCell ⟨GC, k * 6, none⟩ (.int .i64 0)).setCell ⟨GC, k * 6 + 1, none⟩ (.int .i64 1)).frozen? ⟨GC, o, none⟩ = false := fun o => ((World.frozen?_setCell _ _ _ _).trans (World.frozen?_setCell _ _ _ _)).trans (df o)
  have WR : Wr GC w ((w1.setCell ⟨GC, k * 6, none⟩ (.int .i64 0)).setCell ⟨GC, k * 6 + 1, none⟩ (.int .i64 1)) := W1.set.set
  have e5 := (World.cell?_of_block (a := ⟨gs, k * 8 + 5, none⟩) (eF gs (fun e => hne1 e.symm))).trans St.s5
  have e3 := (World.cell?_of_block (a := ⟨gs, k * 8 + 3, none⟩) (eF gs (fun e => hne1 e.symm))).trans St.s3
  have hE' := (World.cell?_of_block (a := ⟨E, 21, none⟩) (eF E (fun e => hne2 e.symm))).trans hE
  have RZ' := RZ.blk (eF GR (fun e => hne3 e.symm))
  have HO' := HO.keep (fun q hq _ => eF q (fun e => hne4 ((own_blk hq).trans e).symm))
  have HH2 := H.blk (eF ρ.rb (fun e => hne5 e.symm))
  have hsz : ((w1.setCell ⟨GC, k * 6, none⟩ (.int .i64 0)).setCell ⟨GC, k * 6 + 1, none⟩ (.int .i64 1)).heap.size = w.heap.size := by simp; omega
  replace hGl : GC < ((w1.setCell ⟨GC, k * 6, none⟩ (.int .i64 0)).setCell ⟨GC, k * 6 + 1, none⟩ (.int .i64 1)).heap.size := by omega
  replace hgl : gs < ((w1.setCell ⟨GC, k * 6, none⟩ (.int .i64 0)).setCell ⟨GC, k * 6 + 1, none⟩ (.int .i64 1)).heap.size := by omega
  have jj : (some ⟨ρ.rb, 0, none⟩ : Option Addr) = some ⟨ρ.rb, 0, none⟩ := rfl
  clear St H hE RZ C W1 e1 hs1 eF d0 d1 df HW1
  generalize ((w1.setCell ⟨GC, k * 6, none⟩ (.int .i64 0)).setCell ⟨GC, k * 6 + 1, none⟩ (.int .i64 1)) = w2 at *
  have hga := gather_any (w := w2.drew) (f := fun _ => x) (k := 1) hE' ⟨RZ'.c, RZ'.fz⟩ (show OpsAt w2.drew _ 1 _ from HO'.keep (fun _ _ _ => rfl)) (fun j hj => hx) hR (by omega)
  have HHH := hideIt HH2
  clear hE' RZ' HO' HO hd hs HH2 hro hA hdG hsG hf1
  have HY := hideIt (And.intro C0 (And.intro C1 (And.intro C2 (And.intro C4 (And.intro CJ (And.intro WR hsz))))))
  clear C0 C1 C2 C4 CJ WR hsz HQ
  refine wp_region_l (l := 14) (S := (fun w' => w'.cell? ⟨GC, k * 6 + 5, none⟩ = some (.slice none 0 0) ∧ w'.cell? ⟨gs, k * 8 + 5, none⟩ = some (.slice (some ⟨gq, 0, none⟩) 1 cq))) (by kernel_rfl) ⟨c5, e5⟩ (fun hHeld => ?_)
  refine AnyL.take2 (i := 0) (oi := { dst := some 29, op := Go.Op.move (Go.Operand.tmp 2), type := 183, pos := _, after := #[], guard := none }) (v := ?vv31014) (by kernel_rfl) (by kernel_rfl) rfl (by kernel_rfl) (by kernel_rfl) (by kernel_rfl) (fun _ _ _ h => h) (Or.inl ⟨by rfl, ?hy31014⟩) (by assumption) ?tk31014
  case hy31014 => (intro w hSw; (try dsimp only at hSw); go_simp; (try with_reducible rfl))
  try simp only [Act.put, List.setIfInBounds_toArray, List.set_cons_zero, List.set_cons_succ]
  refine AnyL.take2 (i := 1) (oi := { dst := some 30, op := Go.Op.move (Go.Operand.tmp 0), type := 43, pos := _, after := #[], guard := none }) (v := ?vv31015) (by kernel_rfl) (by kernel_rfl) rfl (by kernel_rfl) (by kernel_rfl) (by kernel_rfl) (fun _ _ _ h => h) (Or.inl ⟨by rfl, ?hy31015⟩) (by assumption) ?tk31015
  case hy31015 => (intro w hSw; (try dsimp only at hSw); go_simp; (try with_reducible rfl))
  try simp only [Act.put, List.setIfInBounds_toArray, List.set_cons_zero, List.set_cons_succ]
  refine AnyL.take2 (i := 2) (oi := { dst := some 31, op := Go.Op.move (Go.Operand.tmp 2), type := 183, pos := _, after := #[], guard := none }) (v := ?vv31016) (by kernel_rfl) (by kernel_rfl) rfl (by kernel_rfl) (by kernel_rfl) (by kernel_rfl) (fun _ _ _ h => h) (Or.inl ⟨by rfl, ?hy31016⟩) (by assumption) ?tk31016
  case hy31016 => (intro w hSw; (try dsimp only at hSw); go_simp; (try with_reducible rfl))
  try simp only [Act.put, List.setIfInBounds_toArray, List.set_cons_zero, List.set_cons_succ]
  refine AnyL.take2 (i := 3) (oi := { dst := some 32, op := Go.Op.nilCheck (Go.Operand.tmp 31), type := 0, pos := _, after := #[{ on := 2, ground := Go.Ground.data }], guard := none }) (v := ?vv31017) (by kernel_rfl) (by kernel_rfl) rfl (by kernel_rfl) (by kernel_rfl) (by kernel_rfl) (fun _ _ _ h => h) (Or.inl ⟨by rfl, ?hy31017⟩) (by assumption) ?tk31017
  case hy31017 => (intro w hSw; (try dsimp only at hSw); go_simp; (try with_reducible rfl))
  try simp only [Act.put, List.setIfInBounds_toArray, List.set_cons_zero, List.set_cons_succ]
  refine AnyL.take2 (i := 4) (oi := { dst := some 33, op := Go.Op.fieldAddr 102 (Go.Operand.tmp 32) 5, type := 0, pos := _, after := #[{ on := 3, ground := Go.Ground.data }], guard := none }) (v := ?vv31018) (by kernel_rfl) (by kernel_rfl) rfl (by kernel_rfl) (by kernel_rfl) (by kernel_rfl) (fun _ _ _ h => h) (Or.inl ⟨by rfl, ?hy31018⟩) (by assumption) ?tk31018
  case hy31018 => (intro w hSw; (try dsimp only at hSw); go_simp; (try with_reducible rfl))
  try simp only [Act.put, List.setIfInBounds_toArray, List.set_cons_zero, List.set_cons_succ]
  refine AnyL.take2 (i := 5) (oi := { dst := some 34, op := Go.Op.load 72 (Go.Operand.tmp 33), type := 72, pos := _, after := #[{ on := 4, ground := Go.Ground.data }], guard := none }) (v := ?vv31019) (by kernel_rfl) (by kernel_rfl) rfl (by kernel_rfl) (by kernel_rfl) (by kernel_rfl) (fun _ _ _ h => h) (Or.inl ⟨by rfl, ?hy31019⟩) (by assumption) ?tk31019
  case hy31019 => (intro w hSw; (try dsimp only at hSw); go_simp; (try with_reducible rfl))
  try simp only [Act.put, List.setIfInBounds_toArray, List.set_cons_zero, List.set_cons_succ]
  refine AnyL.take2 (i := 6) (oi := { dst := some 35, op := Go.Op.slice 72 (Go.Operand.tmp 34) none (some (Go.Operand.const (Go.Value.int Go.IntKind.i64 0))) none, type := 72, pos := _, after := #[{ on := 5, ground := Go.Ground.data }], guard := none }) (v := ?vv31020) (by kernel_rfl) (by kernel_rfl) rfl (by kernel_rfl) (by kernel_rfl) (by kernel_rfl) (fun _ _ _ h => h) (Or.inl ⟨by rfl, ?hy31020⟩) (by assumption) ?tk31020
  case hy31020 => (intro w hSw; (try dsimp only at hSw); go_simp; (try with_reducible rfl))
  try simp only [Act.put, List.setIfInBounds_toArray, List.set_cons_zero, List.set_cons_succ]
  refine AnyL.take2 (i := 7) (oi := { dst := some 36, op := Go.Op.move (Go.Operand.tmp 1), type := 182, pos := _, after := #[], guard := none }) (v := ?vv31021) (by kernel_rfl) (by kernel_rfl) rfl (by kernel_rfl) (by kernel_rfl) (by kernel_rfl) (fun _ _ _ h => h) (Or.inl ⟨by rfl, ?hy31021⟩) (by assumption) ?tk31021
  case hy31021 => (intro w hSw; (try dsimp only at hSw); go_simp; (try with_reducible rfl))
  try simp only [Act.put, List.setIfInBounds_toArray, List.set_cons_zero, List.set_cons_succ]
  refine AnyL.take2 (i := 8) (oi := { dst := some 37, op := Go.Op.nilCheck (Go.Operand.tmp 36), type := 0, pos := _, after := #[{ on := 7, ground := Go.Ground.data }], guard := none }) (v := ?vv31022) (by kernel_rfl) (by kernel_rfl) rfl (by kernel_rfl) (by kernel_rfl) (by kernel_rfl) (fun _ _ _ h => h) (Or.inl ⟨by rfl, ?hy31022⟩) (by assumption) ?tk31022
  case hy31022 => (intro w hSw; (try dsimp only at hSw); go_simp; (try with_reducible rfl))
  try simp only [Act.put, List.setIfInBounds_toArray, List.set_cons_zero, List.set_cons_succ]
  refine AnyL.take2 (i := 9) (oi := { dst := some 38, op := Go.Op.fieldAddr 173 (Go.Operand.tmp 37) 5, type := 0, pos := _, after := #[{ on := 8, ground := Go.Ground.data }], guard := none }) (v := ?vv31023) (by kernel_rfl) (by kernel_rfl) rfl (by kernel_rfl) (by kernel_rfl) (by kernel_rfl) (fun _ _ _ h => h) (Or.inl ⟨by rfl, ?hy31023⟩) (by assumption) ?tk31023
  case hy31023 => (intro w hSw; (try dsimp only at hSw); go_simp; (try with_reducible rfl))
  try simp only [Act.put, List.setIfInBounds_toArray, List.set_cons_zero, List.set_cons_succ]
  refine AnyL.take2 (i := 10) (oi := { dst := some 39, op := Go.Op.load 90 (Go.Operand.tmp 38), type := 90, pos := _, after := #[{ on := 9, ground := Go.Ground.data }], guard := none }) (v := ?vv31024) (by kernel_rfl) (by kernel_rfl) rfl (by kernel_rfl) (by kernel_rfl) (by kernel_rfl) (fun _ _ _ h => h) (Or.inl ⟨by rfl, ?hy31024⟩) (by assumption) ?tk31024
  case hy31024 => (intro w hSw; (try dsimp only at hSw); go_simp; (try with_reducible rfl))
  try simp only [Act.put, List.setIfInBounds_toArray, List.set_cons_zero, List.set_cons_succ]
  refine AnyL.one (i := 11) (o := { dst := some 40, op := Go.Op.call { callee := Go.Callee.value (Go.Operand.func 73), args := #[Go.Operand.tmp 30, Go.Operand.tmp 35, Go.Operand.tmp 39], argTypes := #[43, 72, 90] }, type := 72, pos := _, after := #[{ on := 1, ground := Go.Ground.data }, { on := 6, ground := Go.Ground.data }, { on := 10, ground := Go.Ground.data }], guard := none }) (by kernel_rfl) rfl rfl (fun K' hK' => ?_)
  go_simp
  go_at_call 73
  refine hga.mono ?_
  rintro e w5 ⟨v5, rfl, own5, hv0, b5⟩
  obtain ⟨p5, n5, rfl⟩ := own_shape own5
  have x5 : w5.cell? ⟨GC, k * 6 + 5, none⟩ = some (.slice none 0 0) := (World.cell?_of_block (a := ⟨GC, k * 6 + 5, none⟩) (b5.block GC hGl)).trans c5
  have x6 : w5.cell? ⟨gs, k * 8 + 5, none⟩ = some (.slice (some ⟨gq, 0, none⟩) 1 cq) := (World.cell?_of_block (a := ⟨gs, k * 8 + 5, none⟩) (b5.block gs hgl)).trans e5
  have xf : ∀ o, w5.frozen? ⟨GC, o, none⟩ = false := fun o => (World.frozen?_of_block (a := ⟨GC, o, none⟩) (b5.block GC hGl)).trans (ff o)
  have HX5 := hideIt (And.intro own5 (And.intro hv0 b5))
  clear own5 hv0 b5 hga
  clear hHeld
  refine hK'.out _ _ ⟨x5, x6⟩ (fun hHeld => ?_)
  clear hK' K'
  try simp only [Act.put, List.setIfInBounds_toArray, List.set_cons_zero, List.set_cons_succ]
  refine AnyL.take2 (i := 12) (oi := { dst := some 41, op := Go.Op.nilCheck (Go.Operand.tmp 29), type := 0, pos := _, after := #[{ on := 0, ground := Go.Ground.data }, { on := 0, ground := Go.Ground.phase }, { on := 1, ground := Go.Ground.phase }, { on := 2, ground := Go.Ground.phase }, { on := 3, ground := Go.Ground.phase }, { on := 4, ground := Go.Ground.phase }, { on := 5, ground := Go.Ground.phase }, { on := 6, ground := Go.Ground.phase }, { on := 7, ground := Go.Ground.phase }, { on := 8, ground := Go.Ground.phase }, { on := 9, ground := Go.Ground.phase }, { on := 10, ground := Go.Ground.phase }, { on := 11, ground := Go.Ground.phase }], guard := none }) (v := ?vv31025) (by kernel_rfl) (by kernel_rfl) rfl (by kernel_rfl) (by kernel_rfl) (by kernel_rfl) (fun _ _ _ h => h) (Or.inl ⟨by rfl, ?hy31025⟩) (by assumption) ?tk31025
  case hy31025 => (intro w hSw; (try dsimp only at hSw); go_simp; (try with_reducible rfl))
  try simp only [Act.put, List.setIfInBounds_toArray, List.set_cons_zero, List.set_cons_succ]
  refine AnyL.take2 (i := 13) (oi := { dst := some 42, op := Go.Op.fieldAddr 102 (Go.Operand.tmp 41) 5, type := 0, pos := _, after := #[{ on := 12, ground := Go.Ground.data }, { on := 0, ground := Go.Ground.phase }, { on := 1, ground := Go.Ground.phase }, { on := 2, ground := Go.Ground.phase }, { on := 3, ground := Go.Ground.phase }, { on := 4, ground := Go.Ground.phase }, { on := 5, ground := Go.Ground.phase }, { on := 6, ground := Go.Ground.phase }, { on := 7, ground := Go.Ground.phase }, { on := 8, ground := Go.Ground.phase }, { on := 9, ground := Go.Ground.phase }, { on := 10, ground := Go.Ground.phase }, { on := 11, ground := Go.Ground.phase }], guard := none }) (v := ?vv31026) (by kernel_rfl) (by kernel_rfl) rfl (by kernel_rfl) (by kernel_rfl) (by kernel_rfl) (fun _ _ _ h => h) (Or.inl ⟨by rfl, ?hy31026⟩) (by assumption) ?tk31026
  case hy31026 => (intro w hSw; (try dsimp only at hSw); go_simp; (try with_reducible rfl))
  try simp only [Act.put, List.setIfInBounds_toArray, List.set_cons_zero, List.set_cons_succ]
  refine AnyL.last (o := { dst := none, op := Go.Op.store 72 (Go.Operand.tmp 42) (Go.Operand.tmp 40), type := 0, pos := _, after := #[{ on := 13, ground := Go.Ground.data }, { on := 11, ground := Go.Ground.data }, { on := 11, ground := Go.Ground.chain }, { on := 0, ground := Go.Ground.phase }, { on := 1, ground := Go.Ground.phase }, { on := 2, ground := Go.Ground.phase }, { on := 3, ground := Go.Ground.phase }, { on := 4, ground := Go.Ground.phase }, { on := 5, ground := Go.Ground.phase }, { on := 6, ground := Go.Ground.phase }, { on := 7, ground := Go.Ground.phase }, { on := 8, ground := Go.Ground.phase }, { on := 9, ground := Go.Ground.phase }, { on := 10, ground := Go.Ground.phase }, { on := 11, ground := Go.Ground.phase }], guard := none }) (by kernel_rfl) rfl (by kernel_rfl) (fun K' hK' => ?_)
  go_simp
  clear hHeld
  refine hK'.out _ _ ?_
  clear hK' K'
  try simp only [Act.put, List.setIfInBounds_toArray, List.set_cons_zero, List.set_cons_succ]
  obtain ⟨own5, hv0, b5⟩ := HX5.out
  obtain ⟨C0, C1, C2, C4, CJ, WR, hsz⟩ := HY.out
  have eG := b5.block GC hGl
  have g0 : (w5.setCell ⟨GC, k * 6 + 5, none⟩ (.slice p5 1 n5)).cell? ⟨GC, k * 6, none⟩ = some (.int .i64 0) := (World.cell?_setCell_other _ _ _ _ (by simp <;> omega)).trans ((World.cell?_of_block (a := ⟨GC, k * 6, none⟩) eG).trans C0)
  have g1 : (w5.setCell ⟨GC, k * 6 + 5, none⟩ (.slice p5 1 n5)).cell? ⟨GC, k * 6 + 1, none⟩ = some (.int .i64 1) := (World.cell?_setCell_other _ _ _ _ (by simp <;> omega)).trans ((World.cell?_of_block (a := ⟨GC, k * 6 + 1, none⟩) eG).trans C1)
  have g2 : (w5.setCell ⟨GC, k * 6 + 5, none⟩ (.slice p5 1 n5)).cell? ⟨GC, k * 6 + 2, none⟩ = some (.int .i64 0) := (World.cell?_setCell_other _ _ _ _ (by simp <;> omega)).trans ((World.cell?_of_block (a := ⟨GC, k * 6 + 2, none⟩) eG).trans C2)
  have g4 : (w5.setCell ⟨GC, k * 6 + 5, none⟩ (.slice p5 1 n5)).cell? ⟨GC, k * 6 + 4, none⟩ = some (.int .i64 0) := (World.cell?_setCell_other _ _ _ _ (by simp <;> omega)).trans ((World.cell?_of_block (a := ⟨GC, k * 6 + 4, none⟩) eG).trans C4)
  have gj : ∀ j, j ≠ k → ∀ i, i < 6 → (w5.setCell ⟨GC, k * 6 + 5, none⟩ (.slice p5 1 n5)).cell? ⟨GC, j * 6 + i, none⟩ = w.cell? ⟨GC, j * 6 + i, none⟩ := fun j hj i hi => (World.cell?_setCell_other _ _ _ _ (by simp <;> omega)).trans ((World.cell?_of_block (a := ⟨GC, j * 6 + i, none⟩) eG).trans (CJ j hj i hi))
  have gf : ∀ o, (w5.setCell ⟨GC, k * 6 + 5, none⟩ (.slice p5 1 n5)).frozen? ⟨GC, o, none⟩ = false := fun o => (World.frozen?_setCell _ _ _ _).trans (xf o)
  have gw : Wr GC w (w5.setCell ⟨GC, k * 6 + 5, none⟩ (.slice p5 1 n5)) := (WR.trans ⟨b5.os, b5.tape, b5.output, b5.size, fun q z1 z2 => b5.block q z1⟩).set
  have q3 : (w5.setCell ⟨GC, k * 6 + 5, none⟩ (.slice p5 1 n5)).cell? ⟨gs, k * 8 + 3, none⟩ = some (.int .u8 2) := (World.cell?_of_block (a := ⟨gs, k * 8 + 3, none⟩) ((far_set (fun e => hne1 e.symm)).trans (b5.block gs hgl))).trans e3
  have g5 : (w5.setCell ⟨GC, k * 6 + 5, none⟩ (.slice p5 1 n5)).cell? ⟨GC, k * 6 + 5, none⟩ = some (.slice p5 1 n5) := World.cell?_setCell_same _ _ _ x5
  obtain ⟨HO, hro, hA, hd, hdG, hs, hsG, hf1⟩ := HQ2.out
  have H6 : RelAt (w5.setCell ⟨GC, k * 6 + 5, none⟩ (.slice p5 1 n5)) ρ.rb nm s := HHH.out.blk ((far_set (fun e => hne5 e.symm)).trans (b5.block ρ.rb HHH.out.lt))
  have Z6 : SymZ (w5.setCell ⟨GC, k * 6 + 5, none⟩ (.slice p5 1 n5)) (.slice p5 1 n5) 1 := SymZ.of_own (own_one own5 (fun q hq => far_set (fun e => by have h1 : w2.heap.size ≤ q := (own5.lt q hq).1; omega)))
  have hfi := find_hit H6 hro (hs.wr hsG gw) hf1 Z6 (by omega) hA (by rw [hA]; exact hd.wr hdG gw)
  clear HO hro hA hd hdG hs hsG hf1 H6 Z6
  clear own5 hv0 b5 C0 C1 C2 C4 CJ WR hsz eG HX5 HY x5 x6 xf c5 ff e5 e3
  generalize (w5.setCell ⟨GC, k * 6 + 5, none⟩ (.slice p5 1 n5)) = w6 at *
  have HZ := hideIt (And.intro gj gw)
  have G0 := hideIt (And.intro g1 g4)
  clear gj gw g1 g4
  go_wp2_with fail
  refine hfi.mono ?_
  rintro e w7 ⟨rfl, b7⟩
  clear hfi
  have hG6 : GC < w6.heap.size := World.block_lt_of_cell? _ _ g2
  have h2 := (World.cell?_of_block (a := ⟨GC, k * 6 + 2, none⟩) (b7.block GC hG6)).trans g2
  have h0 := (World.cell?_of_block (a := ⟨GC, k * 6, none⟩) (b7.block GC hG6)).trans g0
  have hf7 : ∀ o, w7.frozen? ⟨GC, o, none⟩ = false := fun o => (World.frozen?_of_block (a := ⟨GC, o, none⟩) (b7.block GC hG6)).trans (gf o)
  have HB7 := hideIt b7
  clear b7 g2 g0 gf g5 q3
  go_wp2
  go_end0
  obtain ⟨gj, gw⟩ := HZ.out
  obtain ⟨g1, g4⟩ := G0.out
  have b7 := HB7.out
  have eG := b7.block GC hG6
  rw [setCell_self h2]
  exact ⟨rfl, ⟨h0, (World.cell?_of_block (a := ⟨GC, k * 6 + 1, none⟩) eG).trans g1, h2, (World.cell?_of_block (a := ⟨GC, k * 6 + 4, none⟩) eG).trans g4⟩, fun j hj i hi => (World.cell?_of_block (a := ⟨GC, j * 6 + i, none⟩) eG).trans (gj j hj i hi), hf7, gw.below b7⟩
end Go.Proofs.Qxb6500880a
