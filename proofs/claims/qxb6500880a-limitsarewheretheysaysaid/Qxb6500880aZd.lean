import Derived.Deep.CutBlock
import Derived.OwnWalk
import Derived.Maps.AppendAt
import Derived.Maps.OwnSet
import Derived.Maps.OwnOps
import Derived.Laws.ResultCell
import Derived.Test.Qxb6500880aZc
import Derived.Test.Qxb6500880aYa
set_option linter.unusedVariables false
set_option linter.unusedSimpArgs false
namespace Go.Proofs.Qxb6500880a
open Go.RowKit

theorem own_blk {g n c q : Nat} (h : (Value.slice (some ⟨g, 0, none⟩) n c).ownBlock = some q) : g = q := by simpa [Value.ownBlock] using h
theorem some_eq {a b : Nat} (h : some a = some b) : a = b := by simpa using h
def ordL (k : Nat) : List Value := (List.range k).map (fun i : Nat => Value.int .i64 (i : Int))
theorem ordL_succ (k : Nat) : ordL (k + 1) = ordL k ++ [.int .i64 (k : Int)] := by
  unfold ordL
  rw [List.range_succ]
  simp
/-- What greedy holds in hand when k joins are taken. -/
structure GrAt (w : World) (TB TK OB OR FB FL PB : Nat) (ρ : Rl) (k : Nat) (tk b : Nat → Bool) : Prop where
  t : w.cell? ⟨TB, 0, none⟩ = some (.slice (some ⟨TK, 0, none⟩) ρ.m ρ.m)
  tb : BoolAt w TK ρ.m tk
  o : w.cell? ⟨OB, 0, none⟩ = some (.slice (some ⟨OR, 0, none⟩) k ρ.m)
  of : ∀ o, w.frozen? ⟨OB, o, none⟩ = false
  ow : w.ownsRow 0 3 1 (.slice (some ⟨OR, 0, none⟩) k ρ.m) k (ordL k)
  f : w.cell? ⟨FB, 0, none⟩ = some (.slice (some ⟨FL, 0, none⟩) ρ.R ρ.R)
  fb : BoolAt w FL ρ.R b
  p : w.cell? ⟨PB, 0, none⟩ = some (.pointer (some ⟨ρ.RB, 0, none⟩))
  ru : RuX w ρ
structure GrO (TB TK OB OR FB FL PB : Nat) (ρ : Rl) : Prop where
  o : PB < OR ∧ OR < OB ∧ OB < TK ∧ TK < TB ∧ TB < FL ∧ FL < FB
  h : ∀ q, ρ.has q → q < PB
theorem GrAt.keep {w w' : World} {TB TK OB OR FB FL PB : Nat} {ρ : Rl} {k : Nat} {tk b : Nat → Bool} (H : GrAt w TB TK OB OR FB FL PB ρ k tk b) (hk : ∀ q, q = TB ∨ q = TK ∨ q = OB ∨ q = OR ∨ q = FB ∨ q = FL ∨ q = PB ∨ ρ.has q → w'.heap[q]? = w.heap[q]?) : GrAt w' TB TK OB OR FB FL PB ρ k tk b :=
  ⟨(World.cell?_of_block (a := ⟨TB, 0, none⟩) (hk TB (by simp))).trans H.t, H.tb.blk (hk TK (by simp)), (World.cell?_of_block (a := ⟨OB, 0, none⟩) (hk OB (by simp))).trans H.o, fun o => (World.frozen?_of_block (a := ⟨OB, o, none⟩) (hk OB (by simp))).trans (H.of o), own_one H.ow (fun q hq => hk q (by rw [← own_blk hq]; simp)), (World.cell?_of_block (a := ⟨FB, 0, none⟩) (hk FB (by simp))).trans H.f, H.fb.blk (hk FL (by simp)), (World.cell?_of_block (a := ⟨PB, 0, none⟩) (hk PB (by simp))).trans H.p, H.ru.keep (fun q hq => hk q (by simp [hq]))⟩
set_option maxRecDepth 20000 in
set_option maxHeartbeats 8000000 in
theorem take_any {w : World} {TB TK OB OR FB FL PB : Nat} {ρ : Rl} {k : Nat} {tk b : Nat → Bool} (H : GrAt w TB TK OB OR FB FL PB ρ k tk b) (HO : GrO TB TK OB OR FB FL PB ρ) (hk : k < ρ.m) (hm : ρ.m ≤ 100) (hn : ρ.n ≤ 100) (hR : ρ.R ≤ 1000) :
    Calls Try.prog 81 #[.int .i64 (k : Int), .pointer (some ⟨TB, 0, none⟩), .pointer (some ⟨OB, 0, none⟩), .pointer (some ⟨FB, 0, none⟩), .pointer (some ⟨PB, 0, none⟩)] w fun e w' => e = .returned (.tuple #[]) ∧ GrAt w' TB TK OB OR FB FL PB ρ (k + 1) (onB tk k) (fillF b (ρ.F k) ρ.n) ∧ Ws (fun q => q = TK ∨ q = OB ∨ q = OR ∨ q = FL) w w' := by
  obtain ⟨i3, hi3, hz0, hz1, hz2⟩ := info_parts info3
  obtain ⟨⟨o1, o2, o3, o4, o5, o6⟩, oh⟩ := HO
  have hFB : FB < w.heap.size := World.block_lt_of_cell? _ _ H.f
  have k0 : (0 : Int) ≤ k := by omega
  have k1 : (k : Int) < (ρ.m : Int) := by omega
  have c1 := H.t
  have c2 := H.tb.c k hk
  have f2 := H.tb.fz
  have c3 := H.o
  have f3 := H.of
  have HQ := hideIt H
  have hne1 : ¬ (TK = OB) := by omega
  have hne2 : ¬ (OB = TK) := by omega
  clear H
  obtain ⟨tv, htv⟩ : ∃ tv, tk k = tv := ⟨_, rfl⟩
  rw [htv] at c2
  go_enter Try.func81, Try.ntmps81
  have own1 : (w.setCell ⟨TK, k, none⟩ (.bool true)).ownsRow 0 3 1 (.slice (some ⟨OR, 0, none⟩) k ρ.m) k (ordL k) := own_one HQ.out.ow (fun q hq => far_set (fun e => by have := own_blk hq; omega))
  have HO1 := hideIt own1
  clear own1
  have nw := cell_new1 (w.setCell ⟨TK, k, none⟩ (.bool true)) (.int .i64 (k : Int)) 3
  rw [show (w.setCell ⟨TK, k, none⟩ (.bool true)).heap.size = w.heap.size by simp] at nw
  go_wp2_with (first | (at_builtin; refine wpList_append_fits _ rfl (.tmp 9) (.tmp 11) 86 rfl 0 3 i3 1 Try.underlying86 hi3 hz1 OR k ρ.m (ordL k) rfl (HO1.out.alloc _) ⟨w.heap.size, 0, none⟩ 1 1 [.int .i64 (k : Int)] rfl rfl nw (by simp [Value.oneCell']) (by omega) ?_) | go_in)
  intro w3 hown3 hgrow3
  have e3 : ∀ q, q < w.heap.size → q ≠ OR → q ≠ TK → w3.heap[q]? = w.heap[q]? := fun q h1 h2 h3 => (hgrow3.block q (by simp; omega) (fun e => h2 (some_eq e))).trans (((one_alloc (w.setCell ⟨TK, k, none⟩ (.bool true)) _).block q (by simpa using h1)).trans (far_set h3))
  have eT : w3.heap[TK]? = (w.setCell ⟨TK, k, none⟩ (.bool true)).heap[TK]? := (hgrow3.block TK (by simp; omega) (fun e => by have := some_eq e; omega)).trans ((one_alloc (w.setCell ⟨TK, k, none⟩ (.bool true)) _).block TK (by simp; omega))
  have hs3 : w.heap.size ≤ w3.heap.size := by have := hgrow3.size; simp at this; omega
  have n3 := (World.cell?_of_block (a := ⟨OB, 0, none⟩) (e3 OB (by omega) (by omega) (by omega))).trans c3
  have nf3 : ∀ o, w3.frozen? ⟨OB, o, none⟩ = false := fun o => (World.frozen?_of_block (a := ⟨OB, o, none⟩) (e3 OB (by omega) (by omega) (by omega))).trans (f3 o)
  have os3 : w3.os = w.os := hgrow3.os
  have tp3 : w3.tape = w.tape := hgrow3.tape
  have ou3 : w3.output = w.output := hgrow3.output
  have HX := hideIt (And.intro hown3 (And.intro e3 eT))
  clear nw hown3 hgrow3 e3 eT c1 c2 f2 c3 f3
  go_upto_region 2 with fail
  obtain ⟨hown3, e3, eT⟩ := HX.out
  have H := HQ.out
  have eO : ∀ q, q < w.heap.size → q ≠ OR → q ≠ TK → q ≠ OB → (w3.setCell ⟨OB, 0, none⟩ (.slice (some ⟨OR, 0, none⟩) (k + 1) ρ.m)).heap[q]? = w.heap[q]? := fun q h1 h2 h3 h4 => (far_set h4).trans (e3 q h1 h2 h3)
  have G4 : GrAt (w3.setCell ⟨OB, 0, none⟩ (.slice (some ⟨OR, 0, none⟩) (k + 1) ρ.m)) TB TK OB OR FB FL PB ρ (k + 1) (onB tk k) b :=
    ⟨(World.cell?_of_block (a := ⟨TB, 0, none⟩) (eO TB (by omega) (by omega) (by omega) (by omega))).trans H.t, ((H.tb.put hk).blk eT).blk (far_set (by omega)), World.cell?_setCell_same _ _ _ n3, fun o => (World.frozen?_setCell _ _ _ _).trans (nf3 o),
      by rw [ordL_succ]; exact own_one hown3 (fun q hq => far_set (fun e => by have := own_blk hq; omega)),
      (World.cell?_of_block (a := ⟨FB, 0, none⟩) (eO FB (by omega) (by omega) (by omega) (by omega))).trans H.f, H.fb.blk (eO FL (by omega) (by omega) (by omega) (by omega)), (World.cell?_of_block (a := ⟨PB, 0, none⟩) (eO PB (by omega) (by omega) (by omega) (by omega))).trans H.p, H.ru.keep (fun q hq => by have := oh q hq; exact eO q (by omega) (by omega) (by omega) (by omega))⟩
  have W4 : Ws (fun q => q = TK ∨ q = OB ∨ q = OR ∨ q = FL) w (w3.setCell ⟨OB, 0, none⟩ (.slice (some ⟨OR, 0, none⟩) (k + 1) ρ.m)) := ⟨os3, tp3, ou3, by simpa using hs3, fun q h1 h2 => eO q h1 (fun e => h2 (by simp [e])) (fun e => h2 (by simp [e])) (fun e => h2 (by simp [e]))⟩
  clear eO hown3 e3 eT n3 nf3 os3 tp3 ou3 H HO1 HX HQ
  generalize w3.setCell ⟨OB, 0, none⟩ (.slice (some ⟨OR, 0, none⟩) (k + 1) ρ.m) = w4 at *
  have hs4 := W4.size
  have hfill := fill_any (w := w4.drew) (show BoolAt w4.drew FL ρ.R b from ⟨G4.fb.c, G4.fb.fz⟩) (show OpsAt w4.drew _ ρ.n (ρ.F k) from (G4.ru.ops hk).keep (fun _ _ _ => rfl)) (fun j hj => G4.ru.r k j hk hj) (fun e => by have := oh (ρ.ga k) (.inr (.inr ⟨k, hk, rfl⟩)); have := own_blk e; omega) (show FL < w4.heap.size by omega) hR (by omega)
  have z1 := G4.f
  have z2 := G4.p
  have z3 := G4.ru.c4
  have z4 := (G4.ru.j k hk).2.1
  have HG := hideIt (And.intro G4 W4)
  clear G4 W4
  refine wp_region_l (l := 9) (S := (fun w' => w'.cell? ⟨FB, 0, none⟩ = some (.slice (some ⟨FL, 0, none⟩) ρ.R ρ.R) ∧ w'.cell? ⟨PB, 0, none⟩ = some (.pointer (some ⟨ρ.RB, 0, none⟩)) ∧ w'.cell? ⟨ρ.RB, 4, none⟩ = some (.slice (some ⟨ρ.gj, 0, none⟩) ρ.m ρ.cj) ∧ w'.cell? ⟨ρ.gj, k * 3 + 1, none⟩ = some (.slice (some ⟨ρ.ga k, 0, none⟩) ρ.n (ρ.ca k)))) (by kernel_rfl) ⟨z1, z2, z3, z4⟩ (fun hHeld => ?_)
  refine AnyL.take2 (i := 0) (oi := { dst := some 13, op := Go.Op.load 122 (Go.Operand.tmp 3), type := 122, pos := _, after := #[], guard := none }) (v := ?vv25001) (by kernel_rfl) (by kernel_rfl) rfl (by kernel_rfl) (by kernel_rfl) (by kernel_rfl) (fun _ _ _ h => h) (Or.inl ⟨by rfl, ?hy25001⟩) (by assumption) ?tk25001
  case hy25001 => (intro w hSw; (try dsimp only at hSw); go_simp; (try with_reducible rfl))
  try simp only [Act.put, List.setIfInBounds_toArray, List.set_cons_zero, List.set_cons_succ]
  refine AnyL.take2 (i := 1) (oi := { dst := some 14, op := Go.Op.load 81 (Go.Operand.tmp 4), type := 81, pos := _, after := #[], guard := none }) (v := ?vv25002) (by kernel_rfl) (by kernel_rfl) rfl (by kernel_rfl) (by kernel_rfl) (by kernel_rfl) (fun _ _ _ h => h) (Or.inl ⟨by rfl, ?hy25002⟩) (by assumption) ?tk25002
  case hy25002 => (intro w hSw; (try dsimp only at hSw); go_simp; (try with_reducible rfl))
  try simp only [Act.put, List.setIfInBounds_toArray, List.set_cons_zero, List.set_cons_succ]
  refine AnyL.take2 (i := 2) (oi := { dst := some 15, op := Go.Op.nilCheck (Go.Operand.tmp 14), type := 0, pos := _, after := #[{ on := 1, ground := Go.Ground.data }], guard := none }) (v := ?vv25003) (by kernel_rfl) (by kernel_rfl) rfl (by kernel_rfl) (by kernel_rfl) (by kernel_rfl) (fun _ _ _ h => h) (Or.inl ⟨by rfl, ?hy25003⟩) (by assumption) ?tk25003
  case hy25003 => (intro w hSw; (try dsimp only at hSw); go_simp; (try with_reducible rfl))
  try simp only [Act.put, List.setIfInBounds_toArray, List.set_cons_zero, List.set_cons_succ]
  refine AnyL.take2 (i := 3) (oi := { dst := some 16, op := Go.Op.fieldAddr 96 (Go.Operand.tmp 15) 2, type := 0, pos := _, after := #[{ on := 2, ground := Go.Ground.data }], guard := none }) (v := ?vv25004) (by kernel_rfl) (by kernel_rfl) rfl (by kernel_rfl) (by kernel_rfl) (by kernel_rfl) (fun _ _ _ h => h) (Or.inl ⟨by rfl, ?hy25004⟩) (by assumption) ?tk25004
  case hy25004 => (intro w hSw; (try dsimp only at hSw); go_simp; (try with_reducible rfl))
  try simp only [Act.put, List.setIfInBounds_toArray, List.set_cons_zero, List.set_cons_succ]
  refine AnyL.take2 (i := 4) (oi := { dst := some 17, op := Go.Op.load 93 (Go.Operand.tmp 16), type := 93, pos := _, after := #[{ on := 3, ground := Go.Ground.data }], guard := none }) (v := ?vv25005) (by kernel_rfl) (by kernel_rfl) rfl (by kernel_rfl) (by kernel_rfl) (by kernel_rfl) (fun _ _ _ h => h) (Or.inl ⟨by rfl, ?hy25005⟩) (by assumption) ?tk25005
  case hy25005 => (intro w hSw; (try dsimp only at hSw); go_simp; (try with_reducible rfl))
  try simp only [Act.put, List.setIfInBounds_toArray, List.set_cons_zero, List.set_cons_succ]
  refine AnyL.take2 (i := 5) (oi := { dst := some 18, op := Go.Op.move (Go.Operand.tmp 0), type := 3, pos := _, after := #[], guard := none }) (v := ?vv25006) (by kernel_rfl) (by kernel_rfl) rfl (by kernel_rfl) (by kernel_rfl) (by kernel_rfl) (fun _ _ _ h => h) (Or.inl ⟨by rfl, ?hy25006⟩) (by assumption) ?tk25006
  case hy25006 => (intro w hSw; (try dsimp only at hSw); go_simp; (try with_reducible rfl))
  try simp only [Act.put, List.setIfInBounds_toArray, List.set_cons_zero, List.set_cons_succ]
  refine AnyL.take2 (i := 6) (oi := { dst := some 19, op := Go.Op.indexAddr 93 (Go.Operand.tmp 17) (Go.Operand.tmp 18), type := 0, pos := _, after := #[{ on := 4, ground := Go.Ground.data }, { on := 5, ground := Go.Ground.data }], guard := none }) (v := ?vv25007) (by kernel_rfl) (by kernel_rfl) rfl (by kernel_rfl) (by kernel_rfl) (by kernel_rfl) (fun _ _ _ h => h) (Or.inl ⟨by rfl, ?hy25007⟩) (by assumption) ?tk25007
  case hy25007 => (intro w hSw; (try dsimp only at hSw); go_simp; (try with_reducible rfl))
  try simp only [Act.put, List.setIfInBounds_toArray, List.set_cons_zero, List.set_cons_succ]
  refine AnyL.take2 (i := 7) (oi := { dst := some 20, op := Go.Op.fieldAddr 92 (Go.Operand.tmp 19) 1, type := 0, pos := _, after := #[{ on := 6, ground := Go.Ground.data }], guard := none }) (v := ?vv25008) (by kernel_rfl) (by kernel_rfl) rfl (by kernel_rfl) (by kernel_rfl) (by kernel_rfl) (fun _ _ _ h => h) (Or.inl ⟨by rfl, ?hy25008⟩) (by assumption) ?tk25008
  case hy25008 => (intro w hSw; (try dsimp only at hSw); go_simp; (try with_reducible rfl))
  try simp only [Act.put, List.setIfInBounds_toArray, List.set_cons_zero, List.set_cons_succ]
  refine AnyL.take2 (i := 8) (oi := { dst := some 21, op := Go.Op.load 90 (Go.Operand.tmp 20), type := 90, pos := _, after := #[{ on := 7, ground := Go.Ground.data }], guard := none }) (v := ?vv25009) (by kernel_rfl) (by kernel_rfl) rfl (by kernel_rfl) (by kernel_rfl) (by kernel_rfl) (fun _ _ _ h => h) (Or.inl ⟨by rfl, ?hy25009⟩) (by assumption) ?tk25009
  case hy25009 => (intro w hSw; (try dsimp only at hSw); go_simp; (try with_reducible rfl))
  try simp only [Act.put, List.setIfInBounds_toArray, List.set_cons_zero, List.set_cons_succ]
  refine AnyL.last (o := { dst := some 22, op := Go.Op.call { callee := Go.Callee.value (Go.Operand.func 37), args := #[Go.Operand.tmp 13, Go.Operand.tmp 21], argTypes := #[122, 90] }, type := 0, pos := _, after := #[{ on := 0, ground := Go.Ground.data }, { on := 8, ground := Go.Ground.data }], guard := none }) (by kernel_rfl) rfl (by kernel_rfl) (fun K' hK' => ?_)
  go_simp
  go_at_call 37
  refine hfill.mono ?_
  rintro e w5 ⟨rfl, B5, W5⟩
  have H5 := hideIt (And.intro B5 W5)
  clear B5 W5 hfill
  clear hHeld
  refine hK'.out _ _ ?_
  clear hK' K'
  try simp only [Act.put, List.setIfInBounds_toArray, List.set_cons_zero, List.set_cons_succ]
  go_wp2
  go_end0
  obtain ⟨B5, W5⟩ := H5.out
  obtain ⟨G4, W4⟩ := HG.out
  refine ⟨rfl, ?_, W4.drew.trans (Ws.of_wr W5 (by simp))⟩
  have e5 : ∀ q, q < w4.heap.size → q ≠ FL → w5.heap[q]? = w4.heap[q]? := fun q h1 h2 => W5.block q h1 h2
  exact ⟨(World.cell?_of_block (a := ⟨TB, 0, none⟩) (e5 TB (by omega) (by omega))).trans G4.t, G4.tb.blk (e5 TK (by omega) (by omega)), (World.cell?_of_block (a := ⟨OB, 0, none⟩) (e5 OB (by omega) (by omega))).trans G4.o, fun o => (World.frozen?_of_block (a := ⟨OB, o, none⟩) (e5 OB (by omega) (by omega))).trans (G4.of o),
    own_one G4.ow (fun q hq => by rw [← own_blk hq]; exact e5 OR (by omega) (by omega)), (World.cell?_of_block (a := ⟨FB, 0, none⟩) (e5 FB (by omega) (by omega))).trans G4.f, B5, (World.cell?_of_block (a := ⟨PB, 0, none⟩) (e5 PB (by omega) (by omega))).trans G4.p, G4.ru.keep (fun q hq => by have := oh q hq; exact e5 q (by omega) (by omega))⟩
end Go.Proofs.Qxb6500880a
