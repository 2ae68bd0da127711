import Derived.Deep.CutBlock
import Derived.OwnWalk
import Derived.Maps.AppendAt
import Derived.Maps.OwnSet
import Derived.Maps.OwnOps
import Derived.Test.Qxb6500880aGreatI
import Derived.Test.Qxb6500880aGreatE
set_option linter.unusedVariables false
set_option linter.unusedSimpArgs false
namespace Go.Proofs.Qxb6500880aGreat
open Go.RowKit

def idM (k : Nat) (id : Int) : Option Int := if 0 ≤ id ∧ id < k then some id else none
theorem idM_in {k x : Nat} (h : x < k) : idM k (x : Int) = some (x : Int) := if_pos (by omega)
theorem idM_out (k : Nat) : idM k (k : Int) = none := if_neg (by omega)
theorem idM_put (k : Nat) : (fun j => if j = (k : Int) then some (k : Int) else idM k j) = idM (k + 1) := by
  funext j
  unfold idM
  by_cases q : j = (k : Int)
  · subst q
    rw [if_pos rfl, if_pos (by omega)]
  · rw [if_neg q]
    by_cases z : 0 ≤ j ∧ j < k
    · rw [if_pos z, if_pos (by omega)]
    · rw [if_neg z, if_neg (by omega)]
/-- How many registers there are behind the first i variables. -/
def kA (k : Nat) (f : Nat → Nat) : Nat → Nat
  | 0 => k
  | i + 1 => if f i < kA k f i then kA k f i else kA k f i + 1
theorem kA_le (k : Nat) (f : Nat → Nat) : ∀ i, kA k f i ≤ k + i
  | 0 => Nat.le_refl _
  | i + 1 => by
    have := kA_le k f i
    unfold kA
    split <;> omega
/-- A row of n operands, the first i of them as told. -/
structure RowO (w : World) (g n i : Nat) (f : Nat → Nat) : Prop where
  ex : ∀ j, j < n * 2 → ∃ v, w.cell? ⟨g, j, none⟩ = some v
  fz : ∀ o, w.frozen? ⟨g, o, none⟩ = false
  pre : ∀ j, j < i → w.cell? ⟨g, j * 2, none⟩ = some (.int .i64 (f j : Int)) ∧ w.cell? ⟨g, j * 2 + 1, none⟩ = some (.int .u32 0)
theorem RowO.blk {w w' : World} {g n i : Nat} {f : Nat → Nat} (h : RowO w g n i f) (e : w'.heap[g]? = w.heap[g]?) : RowO w' g n i f :=
  ⟨fun j hj => by
    obtain ⟨v, hv⟩ := h.ex j hj
    exact ⟨v, (World.cell?_of_block (a := ⟨g, j, none⟩) e).trans hv⟩, fun o => (World.frozen?_of_block (a := ⟨g, o, none⟩) e).trans (h.fz o), fun j hj => ⟨(World.cell?_of_block (a := ⟨g, j * 2, none⟩) e).trans (h.pre j hj).1, (World.cell?_of_block (a := ⟨g, j * 2 + 1, none⟩) e).trans (h.pre j hj).2⟩⟩
theorem RowO.put {w : World} {g n i : Nat} {f : Nat → Nat} (h : RowO w g n i f) (hi : i < n) {x : Nat} (hx : f i = x) : RowO ((w.setCell ⟨g, i * 2, none⟩ (.int .i64 (x : Int))).setCell ⟨g, i * 2 + 1, none⟩ (.int .u32 0)) g n (i + 1) f := by
  have keep : ∀ (w : World) (a : Nat) (v : Value) (j : Nat), (∃ u, w.cell? ⟨g, j, none⟩ = some u) → ∃ u, (w.setCell ⟨g, a, none⟩ v).cell? ⟨g, j, none⟩ = some u := fun w a v j ⟨u, hu⟩ => by
    by_cases q : j = a
    · subst q; exact ⟨v, World.cell?_setCell_same _ _ _ hu⟩
    · exact ⟨u, by rw [World.cell?_setCell_other _ _ _ _ (by simp <;> omega)]; exact hu⟩
  refine ⟨fun j hj => keep _ _ _ _ (keep _ _ _ _ (h.ex j hj)), fun o => by rw [World.frozen?_setCell, World.frozen?_setCell]; exact h.fz o, fun j hj => ?_⟩
  by_cases q : j = i
  · subst q
    obtain ⟨u0, e0⟩ := h.ex (j * 2) (by omega)
    obtain ⟨u1, e1⟩ := h.ex (j * 2 + 1) (by omega)
    rw [hx]
    refine ⟨?_, ?_⟩
    · rw [World.cell?_setCell_other _ _ _ _ (by simp)]
      exact World.cell?_setCell_same _ _ _ e0
    · exact World.cell?_setCell_same _ _ _ (by rw [World.cell?_setCell_other _ _ _ _ (by simp)]; exact e1)
  · obtain ⟨e0, e1⟩ := h.pre j (by omega)
    refine ⟨?_, ?_⟩
    · rw [World.cell?_setCell_other _ _ _ _ (by simp <;> omega), World.cell?_setCell_other _ _ _ _ (by simp <;> omega)]
      exact e0
    · rw [World.cell?_setCell_other _ _ _ _ (by simp <;> omega), World.cell?_setCell_other _ _ _ _ (by simp <;> omega)]
      exact e1
theorem info136 : (Tryz.prog.info? 136).map (fun i => (i.zero, i.size, i.bytes)) = some (some (.agg #[.int .i64 0, .int .u32 0]), 2, 16) := by kernel_rfl
/-- The compiler: its engine, its map of registers. -/
structure CoAt (w : World) (CB E mb : Nat) : Prop where
  c0 : w.cell? ⟨CB, 0, none⟩ = some (.pointer (some ⟨E, 0, none⟩))
  c1 : w.cell? ⟨CB, 1, none⟩ = some (.map (some mb))
theorem CoAt.blk {w w' : World} {CB E mb : Nat} (h : CoAt w CB E mb) (e : w'.heap[CB]? = w.heap[CB]?) : CoAt w' CB E mb :=
  ⟨(World.cell?_of_block (a := ⟨CB, 0, none⟩) e).trans h.c0, (World.cell?_of_block (a := ⟨CB, 1, none⟩) e).trans h.c1⟩
theorem CoAt.lt {w : World} {CB E mb : Nat} (h : CoAt w CB E mb) : CB < w.heap.size := World.block_lt_of_cell? _ _ h.c0
set_option maxRecDepth 20000 in
set_option maxHeartbeats 8000000 in
theorem operands_any {w : World} {CB E mb k n : Nat} {v : Value} {f : Nat → Nat} (HC : CoAt w CB E mb) (HT : TermsAt w v n f) (HM : MapR w mb k (idM k)) (hf : ∀ j, j < n → f j ≤ kA k f j) (hCm : CB ≠ mb) (hvm : v.ownBlock ≠ some mb) (hn : n ≤ 100) (hk : k ≤ 1000) :
    Calls Tryz.prog 41 #[.pointer (some ⟨CB, 0, none⟩), v] w fun e w' => ∃ v', e = .returned v' ∧ OpsAt w' v' n f ∧ v'.ownBlock = some w.heap.size ∧ MapR w' mb (kA k f n) (idM (kA k f n)) ∧ Wr mb w w' := by
  obtain ⟨i0_, hi_, hz0, hz1, hz2⟩ := info_parts info136
  obtain ⟨p, c, rfl, hc, HT⟩ := HT
  have hml := HM.lt
  have hcl := HC.lt
  have HH := hideIt HT
  have HF := hideIt hf
  have HVM := hideIt hvm
  have HCC := hideIt HC
  have HMM := hideIt HM
  clear HT hf hvm HC HM
  go_enter Tryz.func41, Tryz.ntmps41
  go_wp2_with (first | (at_make; refine wpList_make_full _ rfl _ _ 100 rfl w.heap.size 136 i0_ _ 2 Tryz.underlying100 hi_ hz0 hz1 .i64 .i64 (n : Int) (n : Int) n rfl rfl rfl rfl (by rw [hz2]; omega) (by unfold maxLen; omega) (Nat.le_refl _) ?_) | go_in)
  intro w3 hown3 hgrow3
  have hb3 : Below w.heap.size w w3 := ⟨hgrow3.os, hgrow3.tape, hgrow3.output, hgrow3.size, fun k hk => hgrow3.block k hk (by simp)⟩
  have R3 : RowO w3 w.heap.size n 0 f := by
    refine ⟨fun j hj => ?_, fun o => hown3.frozenAt o, fun j hj => by omega⟩
    have e := hown3.cellAt j hj
    have hl := hown3.1
    exact ⟨_, e.trans (List.getElem?_eq_getElem (by omega))⟩
  have hg3 : w.heap.size < w3.heap.size := (hown3.lt w.heap.size rfl).2
  have HQ3 := hideIt (And.intro R3 (And.intro hb3 hg3))
  clear hown3 hgrow3 R3 hb3 hg3
  go_wp2_with fail
  go_loopg [15] n (fun gg v wr => ∃ i : Nat, i + gg = n ∧ v = .int .i64 (i : Int) ∧ RowO wr w.heap.size n i f ∧ MapR wr mb (kA k f i) (idM (kA k f i)) ∧ Wr mb w wr ∧ w.heap.size < wr.heap.size)
  case atStart =>
    obtain ⟨R3, hb3, hg3⟩ := HQ3.out
    exact ⟨0, by omega, rfl, R3, HMM.out.below hb3, Wr.of_below hb3, hg3⟩
  case round =>
    clear HQ3
    obtain ⟨i, hi, rfl, RO, HM, W, hgr⟩ := hrel
    by_cases hin : i < n
    · have i0 : (0 : Int) ≤ i := by omega
      have i1 : (i : Int) < (n : Int) := by omega
      obtain ⟨q, hqm, rfl, hq⟩ : ∃ q, q ≠ mb ∧ p = some ⟨q, 0, none⟩ ∧ ∀ j, j < n → w.cell? ⟨q, j * 4, none⟩ = some (.int .u8 0) ∧ w.cell? ⟨q, j * 4 + 1, none⟩ = some (.int .i64 (f j : Int)) ∧ w.cell? ⟨q, j * 4 + 2, none⟩ = some (.int .i64 0) ∧ w.cell? ⟨q, j * 4 + 3, none⟩ = some (.string ByteArray.empty) := by
        rcases HH.out with h | ⟨q, e, h⟩
        · omega
        · exact ⟨q, fun z => HVM.out (by rw [e, z]; rfl), e, h⟩
      obtain ⟨a0, a1, a2, a3⟩ := hq i hin
      have hql : q < w.heap.size := World.block_lt_of_cell? _ _ a0
      have eb := W.block q hql hqm
      have b0 := (World.cell?_of_block (a := ⟨q, i * 4, none⟩) eb).trans a0
      have b1 := (World.cell?_of_block (a := ⟨q, i * 4 + 1, none⟩) eb).trans a1
      have b2 := (World.cell?_of_block (a := ⟨q, i * 4 + 2, none⟩) eb).trans a2
      have b3 := (World.cell?_of_block (a := ⟨q, i * 4 + 3, none⟩) eb).trans a3
      have hfi := HF.out i hin
      have hkl := kA_le k f i
      have HKN : Hid (kA k f (i + 1) = if f i < kA k f i then kA k f i else kA k f i + 1) := hideIt rfl
      obtain ⟨x, HX⟩ : ∃ x, Hid (f i = x) := ⟨_, hideIt rfl⟩
      obtain ⟨y, HY⟩ : ∃ y, Hid (kA k f i = y) := ⟨_, hideIt rfl⟩
      rw [HX.out] at b1 hfi
      rw [HY.out] at hfi hkl HM
      rw [HX.out, HY.out] at HKN
      have HC := HCC.out.blk (W.block CB hcl hCm)
      have hcl' := Nat.lt_of_lt_of_le hcl W.size
      have hml' := Nat.lt_of_lt_of_le hml W.size
      clear a0 a1 a2 a3 hq
      go_upto_region 5 with fail
      have bT := one_alloc wr (.cells #[.int .u8 0, .int .i64 (x : Int), .int .i64 0, .string ByteArray.empty] 26)
      have d0 : (wr.alloc (.cells #[.int .u8 0, .int .i64 (x : Int), .int .i64 0, .string ByteArray.empty] 26)).cell? ⟨wr.heap.size, 0, none⟩ = some (.int .u8 0) := by simp
      have d1 : (wr.alloc (.cells #[.int .u8 0, .int .i64 (x : Int), .int .i64 0, .string ByteArray.empty] 26)).cell? ⟨wr.heap.size, 1, none⟩ = some (.int .i64 (x : Int)) := by simp
      have c1 := (HC.blk (bT.block CB hcl')).c1
      have HM1 := HM.below bT
      have R1 := RO.blk (bT.block _ hgr)
      have W1 := W.below bT
      have hgr1 : w.heap.size < (wr.alloc (.cells #[.int .u8 0, .int .i64 (x : Int), .int .i64 0, .string ByteArray.empty] 26)).heap.size := Nat.lt_of_lt_of_le hgr bT.size
      have hml1 := Nat.lt_of_lt_of_le hml' bT.size
      have hp7 : wr.heap.size < (wr.alloc (.cells #[.int .u8 0, .int .i64 (x : Int), .int .i64 0, .string ByteArray.empty] 26)).heap.size := by simp
      clear bT HC HM RO W hgr b0 b1 b2 b3 eb
      generalize World.alloc wr (.cells #[.int .u8 0, .int .i64 (x : Int), .int .i64 0, .string ByteArray.empty] 26) = wd at *
      generalize hp7e : wr.heap.size = p7 at *
      clear hp7e
      have HR1 := hideIt R1
      have HW1 := hideIt W1
      have x0 : -9223372036854775808 ≤ (x : Int) := by omega
      have x1 : (x : Int) < 9223372036854775808 := by omega
      have hlk : ∀ w', w'.heap[mb]? = wd.heap[mb]? → (Instr.lookup 88 (.map (some mb)) (.int .i64 (x : Int)) true).run Tryz.prog w' = .ok (.tuple #[.int .i64 ((idM y x).getD 0), .bool (idM y x).isSome]) w' := fun w' e => (HM1.blk e).look x0 x1
      obtain ⟨rg, HRG⟩ : ∃ rg, Hid ((idM y x).getD 0 = rg) := ⟨_, hideIt rfl⟩
      obtain ⟨kn, HKNO⟩ : ∃ kn, Hid ((idM y x).isSome = kn) := ⟨_, hideIt rfl⟩
      rw [HRG.out, HKNO.out] at hlk
      have HQ := hideIt (And.intro HM1 (And.intro R1 W1))
      clear HM1 R1 W1 HR1 HW1
      go_upto_region 7 with fail
      go_cut [8, 9] (fun a8 a9 wc => a8 = .int .i64 rg ∧ a9 = .bool kn ∧ wc.cell? ⟨CB, 1, none⟩ = some (.map (some mb)) ∧ wc.cell? ⟨p7, 1, none⟩ = some (.int .i64 (x : Int)) ∧ Hid (MapR wc mb y (idM y) ∧ RowO wc w.heap.size n i f ∧ Wr mb w wc) ∧ w.heap.size < wc.heap.size)
      case first =>
        refine wp_region_held_drew (S := (fun w' => w'.cell? ⟨CB, 1, none⟩ = some (.map (some mb)) ∧ w'.cell? ⟨p7, 1, none⟩ = some (.int .i64 (x : Int)) ∧ w'.heap[mb]? = wd.heap[mb]?)) (by kernel_rfl) ⟨c1, d1, rfl⟩ (fun hHeld => ?_)
        refine wpAnyH_take (i := 0) (oi := { dst := some 37, op := Go.Op.move (Go.Operand.tmp 0), type := 87, pos := _, after := #[], guard := none }) (v := ?vv7008) rfl (by kernel_rfl) (by kernel_rfl) (by kernel_rfl) (fun _ _ _ h => h) (Or.inl ⟨by rfl, ?hy7008⟩) (by assumption) ?tk7008
        case hy7008 => (intro w hSw; (try dsimp only at hSw); go_simp; (try with_reducible rfl))
        try simp only [Act.put, List.setIfInBounds_toArray, List.set_cons_zero, List.set_cons_succ]
        refine wpAnyH_take (i := 1) (oi := { dst := some 38, op := Go.Op.nilCheck (Go.Operand.tmp 37), type := 0, pos := _, after := #[{ on := 0, ground := Go.Ground.data }], guard := none }) (v := ?vv7009) rfl (by kernel_rfl) (by kernel_rfl) (by kernel_rfl) (fun _ _ _ h => h) (Or.inl ⟨by rfl, ?hy7009⟩) (by assumption) ?tk7009
        case hy7009 => (intro w hSw; (try dsimp only at hSw); go_simp; (try with_reducible rfl))
        try simp only [Act.put, List.setIfInBounds_toArray, List.set_cons_zero, List.set_cons_succ]
        refine wpAnyH_take (i := 2) (oi := { dst := some 39, op := Go.Op.fieldAddr 90 (Go.Operand.tmp 38) 1, type := 0, pos := _, after := #[{ on := 1, ground := Go.Ground.data }], guard := none }) (v := ?vv7010) rfl (by kernel_rfl) (by kernel_rfl) (by kernel_rfl) (fun _ _ _ h => h) (Or.inl ⟨by rfl, ?hy7010⟩) (by assumption) ?tk7010
        case hy7010 => (intro w hSw; (try dsimp only at hSw); go_simp; (try with_reducible rfl))
        try simp only [Act.put, List.setIfInBounds_toArray, List.set_cons_zero, List.set_cons_succ]
        refine wpAnyH_take (i := 3) (oi := { dst := some 40, op := Go.Op.load 88 (Go.Operand.tmp 39), type := 88, pos := _, after := #[{ on := 2, ground := Go.Ground.data }], guard := none }) (v := ?vv7011) rfl (by kernel_rfl) (by kernel_rfl) (by kernel_rfl) (fun _ _ _ h => h) (Or.inl ⟨by rfl, ?hy7011⟩) (by assumption) ?tk7011
        case hy7011 => (intro w hSw; (try dsimp only at hSw); go_simp; (try with_reducible rfl))
        try simp only [Act.put, List.setIfInBounds_toArray, List.set_cons_zero, List.set_cons_succ]
        refine wpAnyH_take (i := 4) (oi := { dst := some 41, op := Go.Op.fieldAddr 26 (Go.Operand.tmp 7) 1, type := 0, pos := _, after := #[], guard := none }) (v := ?vv7012) rfl (by kernel_rfl) (by kernel_rfl) (by kernel_rfl) (fun _ _ _ h => h) (Or.inl ⟨by rfl, ?hy7012⟩) (by assumption) ?tk7012
        case hy7012 => (intro w hSw; (try dsimp only at hSw); go_simp; (try with_reducible rfl))
        try simp only [Act.put, List.setIfInBounds_toArray, List.set_cons_zero, List.set_cons_succ]
        refine wpAnyH_take (i := 5) (oi := { dst := some 42, op := Go.Op.load 3 (Go.Operand.tmp 41), type := 3, pos := _, after := #[{ on := 4, ground := Go.Ground.data }], guard := none }) (v := ?vv7013) rfl (by kernel_rfl) (by kernel_rfl) (by kernel_rfl) (fun _ _ _ h => h) (Or.inl ⟨by rfl, ?hy7013⟩) (by assumption) ?tk7013
        case hy7013 => (intro w hSw; (try dsimp only at hSw); go_simp; (try with_reducible rfl))
        try simp only [Act.put, List.setIfInBounds_toArray, List.set_cons_zero, List.set_cons_succ]
        refine wpAnyH_take (i := 6) (oi := { dst := some 43, op := Go.Op.lookup 88 (Go.Operand.tmp 40) (Go.Operand.tmp 42) true, type := 119, pos := _, after := #[{ on := 3, ground := Go.Ground.data }, { on := 5, ground := Go.Ground.data }], guard := none }) (v := ?vv7014) rfl (by kernel_rfl) (by kernel_rfl) (by kernel_rfl) (fun _ _ _ h => h) (Or.inl ⟨by rfl, ?hy7014⟩) (by assumption) ?tk7014
        case hy7014 => (intro w hSw; have hl7 := hlk w hSw.2.2; (try dsimp only at hSw); go_simp; (try with_reducible rfl))
        try simp only [Act.put, List.setIfInBounds_toArray, List.set_cons_zero, List.set_cons_succ]
        refine wpAnyH_take (i := 7) (oi := { dst := some 36, op := Go.Op.move (Go.Operand.tmp 43), type := 119, pos := _, after := #[{ on := 6, ground := Go.Ground.data }], guard := none }) (v := ?vv7015) rfl (by kernel_rfl) (by kernel_rfl) (by kernel_rfl) (fun _ _ _ h => h) (Or.inl ⟨by rfl, ?hy7015⟩) (by assumption) ?tk7015
        case hy7015 => (intro w hSw; (try dsimp only at hSw); go_simp; (try with_reducible rfl))
        try simp only [Act.put, List.setIfInBounds_toArray, List.set_cons_zero, List.set_cons_succ]
        refine wpAnyH_take (i := 8) (oi := { dst := some 44, op := Go.Op.extract (Go.Operand.tmp 36) 0, type := 3, pos := _, after := #[{ on := 7, ground := Go.Ground.data }], guard := none }) (v := ?vv7016) rfl (by kernel_rfl) (by kernel_rfl) (by kernel_rfl) (fun _ _ _ h => h) (Or.inl ⟨by rfl, ?hy7016⟩) (by assumption) ?tk7016
        case hy7016 => (intro w hSw; (try dsimp only at hSw); go_simp; (try with_reducible rfl))
        try simp only [Act.put, List.setIfInBounds_toArray, List.set_cons_zero, List.set_cons_succ]
        refine wpAnyH_take (i := 9) (oi := { dst := some 45, op := Go.Op.extract (Go.Operand.tmp 36) 1, type := 4, pos := _, after := #[{ on := 7, ground := Go.Ground.data }, { on := 10, ground := Go.Ground.gcOnly Go.Departure.lateStores }], guard := none }) (v := ?vv7017) rfl (by kernel_rfl) (by kernel_rfl) (by kernel_rfl) (fun _ _ _ h => h) (Or.inl ⟨by rfl, ?hy7017⟩) (by assumption) ?tk7017
        case hy7017 => (intro w hSw; (try dsimp only at hSw); go_simp; (try with_reducible rfl))
        try simp only [Act.put, List.setIfInBounds_toArray, List.set_cons_zero, List.set_cons_succ]
        refine wpAnyH_take (i := 10) (oi := { dst := some 8, op := Go.Op.assign (Go.Operand.tmp 44), type := 3, pos := _, after := #[{ on := 8, ground := Go.Ground.data }, { on := 0, ground := Go.Ground.phase }, { on := 1, ground := Go.Ground.phase }, { on := 2, ground := Go.Ground.phase }, { on := 3, ground := Go.Ground.phase }, { on := 4, ground := Go.Ground.phase }, { on := 5, ground := Go.Ground.phase }, { on := 6, ground := Go.Ground.phase }, { on := 7, ground := Go.Ground.phase }, { on := 8, ground := Go.Ground.phase }, { on := 9, ground := Go.Ground.textOnly Go.Departure.lateStores }], guard := none }) (v := ?vv7018) rfl (by kernel_rfl) (by kernel_rfl) (by kernel_rfl) (fun _ _ _ h => h) (Or.inl ⟨by rfl, ?hy7018⟩) (by assumption) ?tk7018
        case hy7018 => (intro w hSw; (try dsimp only at hSw); go_simp; (try with_reducible rfl))
        try simp only [Act.put, List.setIfInBounds_toArray, List.set_cons_zero, List.set_cons_succ]
        refine wpAnyH_take (i := 11) (oi := { dst := some 9, op := Go.Op.assign (Go.Operand.tmp 45), type := 4, pos := _, after := #[{ on := 9, ground := Go.Ground.data }, { on := 10, ground := Go.Ground.chain }, { on := 0, ground := Go.Ground.phase }, { on := 1, ground := Go.Ground.phase }, { on := 2, ground := Go.Ground.phase }, { on := 3, ground := Go.Ground.phase }, { on := 4, ground := Go.Ground.phase }, { on := 5, ground := Go.Ground.phase }, { on := 6, ground := Go.Ground.phase }, { on := 7, ground := Go.Ground.phase }, { on := 8, ground := Go.Ground.phase }, { on := 9, ground := Go.Ground.phase }, { on := 10, ground := Go.Ground.phase }], guard := none }) (v := ?vv7019) rfl (by kernel_rfl) (by kernel_rfl) (by kernel_rfl) (fun _ _ _ h => h) (Or.inl ⟨by rfl, ?hy7019⟩) (by assumption) ?tk7019
        case hy7019 => (intro w hSw; (try dsimp only at hSw); go_simp; (try with_reducible rfl))
        try simp only [Act.put, List.setIfInBounds_toArray, List.set_cons_zero, List.set_cons_succ]
        refine wpAnyH_done (by kernel_rfl) ?_ _
        go_wp2
        go_meet
        case rel =>
          obtain ⟨HM1, R1, W1⟩ := HQ.out
          exact ⟨rfl, rfl, c1, d1, hideIt ⟨HM1.blk rfl, R1.blk rfl, W1.drew⟩, hgr1⟩
      case rest =>
      clear HQ hlk c1 d1 hgr1 hml1 hp7 d0
      obtain ⟨rfl, rfl, c1, d1, HQ, hgr1⟩ := hcut
      have fin : ∀ (wx : World) (r : Nat), r = x → MapR wx mb (kA k f (i + 1)) (idM (kA k f (i + 1))) → RowO wx w.heap.size n i f → Wr mb w wx → w.heap.size < wx.heap.size → RowO ((wx.setCell ⟨w.heap.size, i * 2, none⟩ (.int .i64 (r : Int))).setCell ⟨w.heap.size, i * 2 + 1, none⟩ (.int .u32 0)) w.heap.size n (i + 1) f ∧ MapR ((wx.setCell ⟨w.heap.size, i * 2, none⟩ (.int .i64 (r : Int))).setCell ⟨w.heap.size, i * 2 + 1, none⟩ (.int .u32 0)) mb (kA k f (i + 1)) (idM (kA k f (i + 1))) ∧ Wr mb w ((wx.setCell ⟨w.heap.size, i * 2, none⟩ (.int .i64 (r : Int))).setCell ⟨w.heap.size, i * 2 + 1, none⟩ (.int .u32 0)) ∧ w.heap.size < ((wx.setCell ⟨w.heap.size, i * 2, none⟩ (.int .i64 (r : Int))).setCell ⟨w.heap.size, i * 2 + 1, none⟩ (.int .u32 0)).heap.size := fun wx r hr hM hR hW hz => by
        subst hr
        exact ⟨hR.put hin HX.out, hM.blk ((far_set (by omega)).trans (far_set (by omega))), (hW.other (Nat.le_refl _)).other (Nat.le_refl _), by simpa using hz⟩
      have FIN := hideIt fin
      clear fin
      by_cases hxy : x < y
      · have e1 : rg = (x : Int) := by rw [← HRG.out, idM_in hxy]; rfl
        have e2 : kn = true := by rw [← HKNO.out, idM_in hxy]; rfl
        have HK2 : Hid (kA k f (i + 1) = y) := hideIt (by rw [HKN.out, if_pos hxy])
        subst e1 e2
        have fz := HQ.out.2.1.fz
        obtain ⟨v0, e0⟩ := HQ.out.2.1.ex (i * 2) (by omega)
        obtain ⟨v1, e1⟩ := HQ.out.2.1.ex (i * 2 + 1) (by omega)
        go_wp2
        go_roundg (n - (i + 1))
        case measure => omega
        case rel =>
          obtain ⟨HM1, R1, W1⟩ := HQ.out
          rw [← HK2.out] at HM1
          exact ⟨i + 1, by omega, by go_num, FIN.out wc x rfl HM1 R1 W1 hgr1⟩
      · have hxe : x = y := by omega
        subst hxe
        have e1 : rg = 0 := by rw [← HRG.out, idM_out]; rfl
        have e2 : kn = false := by rw [← HKNO.out, idM_out]; rfl
        have HK2 : Hid (kA k f (i + 1) = x + 1) := hideIt (by rw [HKN.out, if_neg hxy])
        subst e1 e2
        have hlen := fun ty => HQ.out.1.len ty
        obtain ⟨w5, hrun, HM5, W5⟩ := (HQ.out.1.blk (w' := World.drew wc) rfl).store (by omega) x0 x1 (v := (x : Int)) x0 x1 (idM_out x)
        rw [idM_put] at HM5
        have R5 := (HQ.out.2.1.blk (w' := World.drew wc) rfl).blk (W5.block w.heap.size hgr1 (by omega))
        have W5' : Wr mb w w5 := HQ.out.2.2.drew.trans W5
        have hgr5 : w.heap.size < w5.heap.size := Nat.lt_of_lt_of_le hgr1 W5.size
        have fz := R5.fz
        obtain ⟨v0, e0⟩ := R5.ex (i * 2) (by omega)
        obtain ⟨v1, e1⟩ := R5.ex (i * 2 + 1) (by omega)
        rw [← HK2.out] at HM5
        have HQ5 := hideIt (And.intro HM5 (And.intro R5 W5'))
        clear HM5 R5 W5' W5 HQ
        go_upto_region 10 with fail
        refine wp_region_l (l := 7) (S := (fun w' => w'.cell? ⟨CB, 1, none⟩ = some (.map (some mb)) ∧ w'.cell? ⟨p7, 1, none⟩ = some (.int .i64 (x : Int)))) (by kernel_rfl) ⟨c1, d1⟩ (fun hHeld => ?_)
        refine AnyL.take2 (i := 0) (oi := { dst := some 53, op := Go.Op.move (Go.Operand.tmp 0), type := 87, pos := _, after := #[], guard := none }) (v := ?vv7001) (by kernel_rfl) (by kernel_rfl) rfl (by kernel_rfl) (by kernel_rfl) (by kernel_rfl) (fun _ _ _ h => h) (Or.inl ⟨by rfl, ?hy7001⟩) (by assumption) ?tk7001
        case hy7001 => (intro w hSw; (try dsimp only at hSw); go_simp; (try with_reducible rfl))
        try simp only [Act.put, List.setIfInBounds_toArray, List.set_cons_zero, List.set_cons_succ]
        refine AnyL.take2 (i := 1) (oi := { dst := some 54, op := Go.Op.nilCheck (Go.Operand.tmp 53), type := 0, pos := _, after := #[{ on := 0, ground := Go.Ground.data }], guard := none }) (v := ?vv7002) (by kernel_rfl) (by kernel_rfl) rfl (by kernel_rfl) (by kernel_rfl) (by kernel_rfl) (fun _ _ _ h => h) (Or.inl ⟨by rfl, ?hy7002⟩) (by assumption) ?tk7002
        case hy7002 => (intro w hSw; (try dsimp only at hSw); go_simp; (try with_reducible rfl))
        try simp only [Act.put, List.setIfInBounds_toArray, List.set_cons_zero, List.set_cons_succ]
        refine AnyL.take2 (i := 2) (oi := { dst := some 55, op := Go.Op.fieldAddr 90 (Go.Operand.tmp 54) 1, type := 0, pos := _, after := #[{ on := 1, ground := Go.Ground.data }], guard := none }) (v := ?vv7003) (by kernel_rfl) (by kernel_rfl) rfl (by kernel_rfl) (by kernel_rfl) (by kernel_rfl) (fun _ _ _ h => h) (Or.inl ⟨by rfl, ?hy7003⟩) (by assumption) ?tk7003
        case hy7003 => (intro w hSw; (try dsimp only at hSw); go_simp; (try with_reducible rfl))
        try simp only [Act.put, List.setIfInBounds_toArray, List.set_cons_zero, List.set_cons_succ]
        refine AnyL.take2 (i := 3) (oi := { dst := some 56, op := Go.Op.load 88 (Go.Operand.tmp 55), type := 88, pos := _, after := #[{ on := 2, ground := Go.Ground.data }], guard := none }) (v := ?vv7004) (by kernel_rfl) (by kernel_rfl) rfl (by kernel_rfl) (by kernel_rfl) (by kernel_rfl) (fun _ _ _ h => h) (Or.inl ⟨by rfl, ?hy7004⟩) (by assumption) ?tk7004
        case hy7004 => (intro w hSw; (try dsimp only at hSw); go_simp; (try with_reducible rfl))
        try simp only [Act.put, List.setIfInBounds_toArray, List.set_cons_zero, List.set_cons_succ]
        refine AnyL.take2 (i := 4) (oi := { dst := some 57, op := Go.Op.fieldAddr 26 (Go.Operand.tmp 7) 1, type := 0, pos := _, after := #[], guard := none }) (v := ?vv7005) (by kernel_rfl) (by kernel_rfl) rfl (by kernel_rfl) (by kernel_rfl) (by kernel_rfl) (fun _ _ _ h => h) (Or.inl ⟨by rfl, ?hy7005⟩) (by assumption) ?tk7005
        case hy7005 => (intro w hSw; (try dsimp only at hSw); go_simp; (try with_reducible rfl))
        try simp only [Act.put, List.setIfInBounds_toArray, List.set_cons_zero, List.set_cons_succ]
        refine AnyL.take2 (i := 5) (oi := { dst := some 58, op := Go.Op.load 3 (Go.Operand.tmp 57), type := 3, pos := _, after := #[{ on := 4, ground := Go.Ground.data }], guard := none }) (v := ?vv7006) (by kernel_rfl) (by kernel_rfl) rfl (by kernel_rfl) (by kernel_rfl) (by kernel_rfl) (fun _ _ _ h => h) (Or.inl ⟨by rfl, ?hy7006⟩) (by assumption) ?tk7006
        case hy7006 => (intro w hSw; (try dsimp only at hSw); go_simp; (try with_reducible rfl))
        try simp only [Act.put, List.setIfInBounds_toArray, List.set_cons_zero, List.set_cons_succ]
        refine AnyL.take2 (i := 6) (oi := { dst := some 59, op := Go.Op.move (Go.Operand.tmp 8), type := 3, pos := _, after := #[], guard := none }) (v := ?vv7007) (by kernel_rfl) (by kernel_rfl) rfl (by kernel_rfl) (by kernel_rfl) (by kernel_rfl) (fun _ _ _ h => h) (Or.inl ⟨by rfl, ?hy7007⟩) (by assumption) ?tk7007
        case hy7007 => (intro w hSw; (try dsimp only at hSw); go_simp; (try with_reducible rfl))
        try simp only [Act.put, List.setIfInBounds_toArray, List.set_cons_zero, List.set_cons_succ]
        refine AnyL.last (o := { dst := none, op := Go.Op.mapUpdate 88 (Go.Operand.tmp 56) (Go.Operand.tmp 58) (Go.Operand.tmp 59), type := 0, pos := _, after := #[{ on := 3, ground := Go.Ground.data }, { on := 5, ground := Go.Ground.data }, { on := 6, ground := Go.Ground.data }, { on := 0, ground := Go.Ground.phase }, { on := 1, ground := Go.Ground.phase }, { on := 2, ground := Go.Ground.phase }, { on := 3, ground := Go.Ground.phase }, { on := 4, ground := Go.Ground.phase }, { on := 5, ground := Go.Ground.phase }, { on := 6, ground := Go.Ground.phase }], guard := none }) (by kernel_rfl) rfl (by kernel_rfl) (fun K' hK' => ?_)
        go_simp
        clear hHeld
        refine hK'.out _ _ ?_
        clear hK' K'
        try simp only [Act.put, List.setIfInBounds_toArray, List.set_cons_zero, List.set_cons_succ]
        go_wp2
        go_roundg (n - (i + 1))
        case measure => omega
        case rel =>
          obtain ⟨HM1, R1, W1⟩ := HQ5.out
          exact ⟨i + 1, by omega, by go_num, FIN.out w5 x rfl HM1 R1 W1 hgr5⟩
    · have e : i = n := by omega
      subst e
      go_wp2
      go_ret
      refine ⟨_, rfl, ⟨_, i, rfl, Nat.le_refl _, .inr ⟨w.heap.size, rfl, fun j hj => ⟨(RO.pre j hj).1, (RO.pre j hj).2, RO.fz⟩⟩⟩, rfl, HM, W⟩
end Go.Proofs.Qxb6500880aGreat
