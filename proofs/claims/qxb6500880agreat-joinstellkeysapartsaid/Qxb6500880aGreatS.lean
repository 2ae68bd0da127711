import Derived.Deep.CutBlock
import Derived.OwnWalk
import Derived.Maps.AppendAt
import Derived.Maps.OwnSet
import Derived.Maps.OwnOps
import Derived.Laws.ResultCell
import Derived.Test.Qxb6500880aGreatR
import Derived.Test.Qxb6500880aGreatF
set_option linter.unusedVariables false
set_option linter.unusedSimpArgs false
namespace Go.Proofs.Qxb6500880aGreat
open Go.RowKit

theorem new_cell {w : World} {b : Nat} (h : b = w.heap.size) (cs : Array Value) (ty : TypeId) (k : Nat) : (w.alloc (.cells cs ty)).cell? ⟨b, k, none⟩ = cs[k]? := by subst h; simp
theorem new_frz {w : World} {b : Nat} (h : b = w.heap.size) (cs : Array Value) (ty : TypeId) (k : Nat) : (w.alloc (.cells cs ty)).frozen? ⟨b, k, none⟩ = false := by subst h; simp
/-- The first k constants as they lie in memory. -/
def valL : Nat → List Value
  | 0 => []
  | k + 1 => valL k ++ [.int .u8 1, .int .i64 0, .int .i64 (k : Int), .string ByteArray.empty]
theorem valL_len : ∀ k, (valL k).length = k * 4
  | 0 => rfl
  | k + 1 => by
    unfold valL
    rw [List.length_append, valL_len k]
    simp
    omega
theorem valL_get : ∀ k i, i < k → (valL k)[i * 4]? = some (.int .u8 1) ∧ (valL k)[i * 4 + 1]? = some (.int .i64 0) ∧ (valL k)[i * 4 + 2]? = some (.int .i64 (i : Int)) ∧ (valL k)[i * 4 + 3]? = some (.string ByteArray.empty)
  | 0, i, h => by omega
  | k + 1, i, h => by
    have hl := valL_len k
    unfold valL
    by_cases q : i < k
    · obtain ⟨a, b, c, d⟩ := valL_get k i q
      rw [List.getElem?_append_left (by omega), List.getElem?_append_left (by omega), List.getElem?_append_left (by omega), List.getElem?_append_left (by omega)]
      exact ⟨a, b, c, d⟩
    · have e : i = k := by omega
      subst e
      rw [List.getElem?_append_right (by omega), List.getElem?_append_right (by omega), List.getElem?_append_right (by omega), List.getElem?_append_right (by omega), hl, show i * 4 - i * 4 = 0 by omega, show i * 4 + 1 - i * 4 = 1 by omega, show i * 4 + 2 - i * 4 = 2 by omega, show i * 4 + 3 - i * 4 = 3 by omega]
      exact ⟨rfl, rfl, rfl, rfl⟩
/-- The symbol table: the integers below k, each its own symbol. -/
structure SymsAt (w : World) (SB mi : Nat) (vals : Value) (k : Nat) : Prop where
  c0 : w.cell? ⟨SB, 0, none⟩ = some (.map (some mi))
  c2 : w.cell? ⟨SB, 2, none⟩ = some vals
  fz : ∀ o, w.frozen? ⟨SB, o, none⟩ = false
  m : MapS w mi k (idM k)
  own : w.ownsRow 0 26 4 vals k (valL k)
  d0 : SB ≠ mi
  d1 : vals.ownBlock ≠ some SB
  d2 : vals.ownBlock ≠ some mi
def fpS (SB mi : Nat) (vals : Value) (q : Nat) : Prop := q = SB ∨ q = mi ∨ vals.ownBlock = some q
theorem SymsAt.keep {w w' : World} {SB mi : Nat} {vals : Value} {k : Nat} (h : SymsAt w SB mi vals k) (hk : ∀ q, fpS SB mi vals q → q < w.heap.size → w'.heap[q]? = w.heap[q]?) : SymsAt w' SB mi vals k := by
  have e := hk SB (.inl rfl) (World.block_lt_of_cell? _ _ h.c0)
  exact ⟨(World.cell?_of_block (a := ⟨SB, 0, none⟩) e).trans h.c0, (World.cell?_of_block (a := ⟨SB, 2, none⟩) e).trans h.c2, fun o => (World.frozen?_of_block (a := ⟨SB, o, none⟩) e).trans (h.fz o), h.m.blk (hk mi (.inr (.inl rfl)) h.m.lt), own_keep h.own (fun q hq => hk q (.inr (.inr hq))), h.d0, h.d1, h.d2⟩
theorem SymsAt.lt {w : World} {SB mi : Nat} {vals : Value} {k : Nat} (h : SymsAt w SB mi vals k) : SB < w.heap.size ∧ mi < w.heap.size := ⟨World.block_lt_of_cell? _ _ h.c0, h.m.lt⟩
theorem SymsAt.fp_lt {w : World} {SB mi : Nat} {vals : Value} {k : Nat} (h : SymsAt w SB mi vals k) {q : Nat} (hq : fpS SB mi vals q) : q < w.heap.size := by
  rcases hq with rfl | rfl | hq
  · exact h.lt.1
  · exact h.lt.2
  · exact (h.own.lt q hq).2
theorem SymsAt.below {w w' : World} {SB mi : Nat} {vals : Value} {k : Nat} (h : SymsAt w SB mi vals k) (hb : Below w.heap.size w w') : SymsAt w' SB mi vals k := h.keep (fun q _ hl => hb.block q hl)
theorem idM_zero' : idM 0 = fun _ => none := by funext j; exact if_neg (by omega)
set_option maxRecDepth 20000 in
set_option maxHeartbeats 8000000 in
theorem newSymbols_any (w : World) : Calls Tryz.prog 11 #[] w fun e w' => ∃ SB, e = .returned (.pointer (some ⟨SB, 0, none⟩)) ∧ SymsAt w' SB w.heap.size (.slice none 0 0) 0 ∧ w.heap.size < SB ∧ Below w.heap.size w w' := by
  have hmm := @run_makeMap Tryz.prog
  go_enter Tryz.func11, Tryz.ntmps11
  go_wp2
  go_ret
  refine ⟨_, rfl, ?_, by omega, then_ (then_ (one_alloc _ _) (one_alloc _ _)) (one_alloc _ _)⟩
  refine ⟨new_cell (by simp) _ _ _, new_cell (by simp) _ _ _, fun o => new_frz (by simp) _ _ _, ?_, ⟨rfl, .inl ⟨rfl, rfl⟩⟩, by omega, by simp [Value.ownBlock], by simp [Value.ownBlock]⟩
  rw [idM_zero']
  exact ((MapS_new w).below (one_alloc _ _)).below (one_alloc _ _)
set_option maxRecDepth 20000 in
set_option maxHeartbeats 8000000 in
theorem lookup_any {w : World} {SB mi x k : Nat} {vals : Value} (H : SymsAt w SB mi vals k) (hx : x ≤ k) (hk : k ≤ 1000) : Calls Tryz.prog 21 #[.pointer (some ⟨SB, 0, none⟩), tInt x] w fun e w' => e = .returned (.tuple #[.int .u32 (if x < k then (x : Int) else 0), .bool (decide (x < k))]) ∧ Below w.heap.size w w' := by
  obtain ⟨hSB, hmi⟩ := H.lt
  have bX := one_alloc w (.cells #[.int .u8 1, .int .i64 0, .int .i64 (x : Int), .string ByteArray.empty] 26)
  have emi := bX.block mi hmi
  have c0 := cell_later bX H.c0
  have b2 : (w.alloc (.cells #[.int .u8 1, .int .i64 0, .int .i64 (x : Int), .string ByteArray.empty] 26)).cell? ⟨w.heap.size, 2, none⟩ = some (.int .i64 (x : Int)) := by simp
  have hlk : ∀ w', w'.heap[mi]? = w.heap[mi]? → (Instr.lookup 126 (.map (some mi)) (.int .i64 (x : Int)) true).run Tryz.prog w' = .ok (.tuple #[.int .u32 (if x < k then (x : Int) else 0), .bool (decide (x < k))]) w' := fun w' e => by
    have := (H.m.blk e).look (id := (x : Int)) (by omega) (by omega)
    rw [this]
    by_cases q : x < k
    · rw [idM_in q, if_pos q, decide_eq_true q]
      rfl
    · have e : x = k := by omega
      subst e
      rw [idM_out, if_neg q, decide_eq_false q]
      rfl
  obtain ⟨rx, HRX⟩ : ∃ rx : Int, Hid ((if x < k then (x : Int) else 0) = rx) := ⟨_, hideIt rfl⟩
  obtain ⟨rb, HRB⟩ : ∃ rb, Hid (decide (x < k) = rb) := ⟨_, hideIt rfl⟩
  rw [HRX.out, HRB.out] at hlk ⊢
  have HB := hideIt bX
  clear H bX
  unfold tInt
  go_enter Tryz.func21, Tryz.ntmps21
  go_upto_region 2 with fail
  refine wp_region_held_drew (S := (fun w' => w'.cell? ⟨SB, 0, none⟩ = some (.map (some mi)) ∧ w'.cell? ⟨w.heap.size, 2, none⟩ = some (.int .i64 (x : Int)) ∧ w'.heap[mi]? = w.heap[mi]?)) (by kernel_rfl) ⟨c0, b2, emi⟩ (fun hHeld => ?_)
  refine wpAnyH_take (i := 0) (oi := { dst := some 14, op := Go.Op.move (Go.Operand.tmp 0), type := 73, pos := _, after := #[], guard := none }) (v := ?vv14001) rfl (by kernel_rfl) (by kernel_rfl) (by kernel_rfl) (fun _ _ _ h => h) (Or.inl ⟨by rfl, ?hy14001⟩) (by assumption) ?tk14001
  case hy14001 => (intro w hSw; (try dsimp only at hSw); go_simp; (try with_reducible rfl))
  try simp only [Act.put, List.setIfInBounds_toArray, List.set_cons_zero, List.set_cons_succ]
  refine wpAnyH_take (i := 1) (oi := { dst := some 15, op := Go.Op.nilCheck (Go.Operand.tmp 14), type := 0, pos := _, after := #[{ on := 0, ground := Go.Ground.data }], guard := none }) (v := ?vv14002) rfl (by kernel_rfl) (by kernel_rfl) (by kernel_rfl) (fun _ _ _ h => h) (Or.inl ⟨by rfl, ?hy14002⟩) (by assumption) ?tk14002
  case hy14002 => (intro w hSw; (try dsimp only at hSw); go_simp; (try with_reducible rfl))
  try simp only [Act.put, List.setIfInBounds_toArray, List.set_cons_zero, List.set_cons_succ]
  refine wpAnyH_take (i := 2) (oi := { dst := some 16, op := Go.Op.fieldAddr 129 (Go.Operand.tmp 15) 0, type := 0, pos := _, after := #[{ on := 1, ground := Go.Ground.data }], guard := none }) (v := ?vv14003) rfl (by kernel_rfl) (by kernel_rfl) (by kernel_rfl) (fun _ _ _ h => h) (Or.inl ⟨by rfl, ?hy14003⟩) (by assumption) ?tk14003
  case hy14003 => (intro w hSw; (try dsimp only at hSw); go_simp; (try with_reducible rfl))
  try simp only [Act.put, List.setIfInBounds_toArray, List.set_cons_zero, List.set_cons_succ]
  refine wpAnyH_take (i := 3) (oi := { dst := some 17, op := Go.Op.load 126 (Go.Operand.tmp 16), type := 126, pos := _, after := #[{ on := 2, ground := Go.Ground.data }], guard := none }) (v := ?vv14004) rfl (by kernel_rfl) (by kernel_rfl) (by kernel_rfl) (fun _ _ _ h => h) (Or.inl ⟨by rfl, ?hy14004⟩) (by assumption) ?tk14004
  case hy14004 => (intro w hSw; (try dsimp only at hSw); go_simp; (try with_reducible rfl))
  try simp only [Act.put, List.setIfInBounds_toArray, List.set_cons_zero, List.set_cons_succ]
  refine wpAnyH_take (i := 4) (oi := { dst := some 18, op := Go.Op.fieldAddr 26 (Go.Operand.tmp 3) 2, type := 0, pos := _, after := #[], guard := none }) (v := ?vv14005) rfl (by kernel_rfl) (by kernel_rfl) (by kernel_rfl) (fun _ _ _ h => h) (Or.inl ⟨by rfl, ?hy14005⟩) (by assumption) ?tk14005
  case hy14005 => (intro w hSw; (try dsimp only at hSw); go_simp; (try with_reducible rfl))
  try simp only [Act.put, List.setIfInBounds_toArray, List.set_cons_zero, List.set_cons_succ]
  refine wpAnyH_take (i := 5) (oi := { dst := some 19, op := Go.Op.load 2 (Go.Operand.tmp 18), type := 2, pos := _, after := #[{ on := 4, ground := Go.Ground.data }], guard := none }) (v := ?vv14006) rfl (by kernel_rfl) (by kernel_rfl) (by kernel_rfl) (fun _ _ _ h => h) (Or.inl ⟨by rfl, ?hy14006⟩) (by assumption) ?tk14006
  case hy14006 => (intro w hSw; (try dsimp only at hSw); go_simp; (try with_reducible rfl))
  try simp only [Act.put, List.setIfInBounds_toArray, List.set_cons_zero, List.set_cons_succ]
  refine wpAnyH_take (i := 6) (oi := { dst := some 20, op := Go.Op.lookup 126 (Go.Operand.tmp 17) (Go.Operand.tmp 19) true, type := 122, pos := _, after := #[{ on := 3, ground := Go.Ground.data }, { on := 5, ground := Go.Ground.data }], guard := none }) (v := ?vv14007) rfl (by kernel_rfl) (by kernel_rfl) (by kernel_rfl) (fun _ _ _ h => h) (Or.inl ⟨by rfl, ?hy14007⟩) (by assumption) ?tk14007
  case hy14007 => (intro w hSw; have hl7 := hlk w hSw.2.2; (try dsimp only at hSw); go_simp; (try with_reducible rfl))
  try simp only [Act.put, List.setIfInBounds_toArray, List.set_cons_zero, List.set_cons_succ]
  refine wpAnyH_take (i := 7) (oi := { dst := some 13, op := Go.Op.move (Go.Operand.tmp 20), type := 122, pos := _, after := #[{ on := 6, ground := Go.Ground.data }], guard := none }) (v := ?vv14008) rfl (by kernel_rfl) (by kernel_rfl) (by kernel_rfl) (fun _ _ _ h => h) (Or.inl ⟨by rfl, ?hy14008⟩) (by assumption) ?tk14008
  case hy14008 => (intro w hSw; (try dsimp only at hSw); go_simp; (try with_reducible rfl))
  try simp only [Act.put, List.setIfInBounds_toArray, List.set_cons_zero, List.set_cons_succ]
  refine wpAnyH_take (i := 8) (oi := { dst := some 21, op := Go.Op.extract (Go.Operand.tmp 13) 0, type := 109, pos := _, after := #[{ on := 7, ground := Go.Ground.data }], guard := none }) (v := ?vv14009) rfl (by kernel_rfl) (by kernel_rfl) (by kernel_rfl) (fun _ _ _ h => h) (Or.inl ⟨by rfl, ?hy14009⟩) (by assumption) ?tk14009
  case hy14009 => (intro w hSw; (try dsimp only at hSw); go_simp; (try with_reducible rfl))
  try simp only [Act.put, List.setIfInBounds_toArray, List.set_cons_zero, List.set_cons_succ]
  refine wpAnyH_take (i := 9) (oi := { dst := some 22, op := Go.Op.extract (Go.Operand.tmp 13) 1, type := 4, pos := _, after := #[{ on := 7, ground := Go.Ground.data }, { on := 10, ground := Go.Ground.gcOnly Go.Departure.lateStores }], guard := none }) (v := ?vv14010) rfl (by kernel_rfl) (by kernel_rfl) (by kernel_rfl) (fun _ _ _ h => h) (Or.inl ⟨by rfl, ?hy14010⟩) (by assumption) ?tk14010
  case hy14010 => (intro w hSw; (try dsimp only at hSw); go_simp; (try with_reducible rfl))
  try simp only [Act.put, List.setIfInBounds_toArray, List.set_cons_zero, List.set_cons_succ]
  refine wpAnyH_take (i := 10) (oi := { dst := some 6, op := Go.Op.assign (Go.Operand.tmp 21), type := 109, pos := _, after := #[{ on := 8, ground := Go.Ground.data }, { on := 0, ground := Go.Ground.phase }, { on := 1, ground := Go.Ground.phase }, { on := 2, ground := Go.Ground.phase }, { on := 3, ground := Go.Ground.phase }, { on := 4, ground := Go.Ground.phase }, { on := 5, ground := Go.Ground.phase }, { on := 6, ground := Go.Ground.phase }, { on := 7, ground := Go.Ground.phase }, { on := 8, ground := Go.Ground.phase }, { on := 9, ground := Go.Ground.textOnly Go.Departure.lateStores }], guard := none }) (v := ?vv14011) rfl (by kernel_rfl) (by kernel_rfl) (by kernel_rfl) (fun _ _ _ h => h) (Or.inl ⟨by rfl, ?hy14011⟩) (by assumption) ?tk14011
  case hy14011 => (intro w hSw; (try dsimp only at hSw); go_simp; (try with_reducible rfl))
  try simp only [Act.put, List.setIfInBounds_toArray, List.set_cons_zero, List.set_cons_succ]
  refine wpAnyH_take (i := 11) (oi := { dst := some 7, op := Go.Op.assign (Go.Operand.tmp 22), type := 4, pos := _, after := #[{ on := 9, ground := Go.Ground.data }, { on := 10, ground := Go.Ground.chain }, { on := 0, ground := Go.Ground.phase }, { on := 1, ground := Go.Ground.phase }, { on := 2, ground := Go.Ground.phase }, { on := 3, ground := Go.Ground.phase }, { on := 4, ground := Go.Ground.phase }, { on := 5, ground := Go.Ground.phase }, { on := 6, ground := Go.Ground.phase }, { on := 7, ground := Go.Ground.phase }, { on := 8, ground := Go.Ground.phase }, { on := 9, ground := Go.Ground.phase }, { on := 10, ground := Go.Ground.phase }], guard := none }) (v := ?vv14012) rfl (by kernel_rfl) (by kernel_rfl) (by kernel_rfl) (fun _ _ _ h => h) (Or.inl ⟨by rfl, ?hy14012⟩) (by assumption) ?tk14012
  case hy14012 => (intro w hSw; (try dsimp only at hSw); go_simp; (try with_reducible rfl))
  try simp only [Act.put, List.setIfInBounds_toArray, List.set_cons_zero, List.set_cons_succ]
  refine wpAnyH_done (by kernel_rfl) ?_ _
  go_wp2
  go_ret2
  exact ⟨rfl, below_dr HB.out⟩
theorem cell_new4 (w : World) (x : Nat) : ∀ j u, ([.int .u8 1, .int .i64 0, .int .i64 (x : Int), .string ByteArray.empty] : List Value)[j]? = some u → (w.alloc (.cells #[.int .u8 1, .int .i64 0, .int .i64 (x : Int), .string ByteArray.empty] 26)).cell? ((⟨w.heap.size, 0, none⟩ : Addr).add j) = some u := by
  intro j u h
  match j, h with
  | 0, h => simp at h; subst h; simp [Addr.add]
  | 1, h => simp at h; subst h; simp [Addr.add]
  | 2, h => simp at h; subst h; simp [Addr.add]
  | 3, h => simp at h; subst h; simp [Addr.add]
  | j + 4, h => simp at h
set_option maxRecDepth 20000 in
set_option maxHeartbeats 8000000 in
theorem intern_again {w : World} {SB mi x k : Nat} {vals : Value} (H : SymsAt w SB mi vals k) (hx : x < k) (hk : k ≤ 1000) : Calls Tryz.prog 32 #[.pointer (some ⟨SB, 0, none⟩), tInt x] w fun e w' => e = .returned (.int .u32 (x : Int)) ∧ Below w.heap.size w w' := by
  have bX := one_alloc w (.cells #[.int .u8 1, .int .i64 0, .int .i64 (x : Int), .string ByteArray.empty] 26)
  have hlk := lookup_any (H.below bX) (Nat.le_of_lt hx) hk
  rw [if_pos hx, decide_eq_true hx] at hlk
  have HB := hideIt bX
  clear H bX
  unfold tInt at *
  go_enter Tryz.func32, Tryz.ntmps32
  go_wp2_with fail
  refine hlk.mono ?_
  rintro e w2 ⟨rfl, hb2⟩
  have HB2 := hideIt (then_ HB.out hb2)
  clear hb2 hlk
  go_wp2
  go_ret
  exact ⟨rfl, HB2.out⟩
set_option maxRecDepth 20000 in
set_option maxHeartbeats 8000000 in
theorem intern_first {w : World} {SB mi x : Nat} {vals : Value} (H : SymsAt w SB mi vals x) (hk : x ≤ 900) : Calls Tryz.prog 32 #[.pointer (some ⟨SB, 0, none⟩), tInt x] w fun e w' => e = .returned (.int .u32 (x : Int)) ∧ (∃ vals', SymsAt w' SB mi vals' (x + 1) ∧ ∀ q, vals'.ownBlock = some q → vals.ownBlock = some q ∨ w.heap.size ≤ q) ∧ Ws (fpS SB mi vals) w w' := by
  obtain ⟨i9, hi9, hx0, hx1, hx2⟩ := info_parts info26
  obtain ⟨hSB, hmi⟩ := H.lt
  have bX := one_alloc w (.cells #[.int .u8 1, .int .i64 0, .int .i64 (x : Int), .string ByteArray.empty] 26)
  have hsX : (w.alloc (.cells #[.int .u8 1, .int .i64 0, .int .i64 (x : Int), .string ByteArray.empty] 26)).heap.size = w.heap.size + 1 := by simp
  have a0 : (w.alloc (.cells #[.int .u8 1, .int .i64 0, .int .i64 (x : Int), .string ByteArray.empty] 26)).cell? ⟨w.heap.size, 0, none⟩ = some (.int .u8 1) := by simp
  have a1 : (w.alloc (.cells #[.int .u8 1, .int .i64 0, .int .i64 (x : Int), .string ByteArray.empty] 26)).cell? ⟨w.heap.size, 1, none⟩ = some (.int .i64 0) := by simp
  have a2 : (w.alloc (.cells #[.int .u8 1, .int .i64 0, .int .i64 (x : Int), .string ByteArray.empty] 26)).cell? ⟨w.heap.size, 2, none⟩ = some (.int .i64 (x : Int)) := by simp
  have a3 : (w.alloc (.cells #[.int .u8 1, .int .i64 0, .int .i64 (x : Int), .string ByteArray.empty] 26)).cell? ⟨w.heap.size, 3, none⟩ = some (.string ByteArray.empty) := by simp
  have hlk := lookup_any (H.below bX) (Nat.le_refl _) (by omega)
  rw [if_neg (Nat.lt_irrefl x), decide_eq_false (Nat.lt_irrefl x)] at hlk
  obtain ⟨pv, cv, hv⟩ := own_shape H.own
  subst hv
  have hrSB : some SB ≠ (Value.slice pv x cv).ownBlock := fun e => H.d1 e.symm
  have hrX : some w.heap.size ≠ (Value.slice pv x cv).ownBlock := fun e => by have := (H.own.lt _ e.symm).2; omega
  have hwx : IntKind.u32.wrap (x : Int) = x := by rw [IntKind.wrap_u32]; omega
  have HX := hideIt (And.intro H bX)
  clear H bX
  unfold tInt at *
  go_enter Tryz.func32, Tryz.ntmps32
  go_wp2_with fail
  refine hlk.mono ?_
  rintro e w2 ⟨rfl, hb2⟩
  have H2 := (HX.out.1.below HX.out.2).below hb2
  have hs2 := hb2.size
  have hSB2 : SB < w2.heap.size := by omega
  have b0 := cell_later hb2 a0
  have b1 := cell_later hb2 a1
  have b2 := cell_later hb2 a2
  have b3 := cell_later hb2 a3
  have c2 := H2.c2
  have fz := H2.fz
  have HOWN := hideIt H2.own
  have HB2 := hideIt (And.intro (then_ HX.out.2 hb2) H2)
  have H0 := hideIt HX.out.1
  clear hb2 hlk H2 a0 a1 a2 a3 HX
  go_upto_region 5 with fail
  go_cut [] (fun wd => ∃ vals', wd.cell? ⟨SB, 0, none⟩ = some (.map (some mi)) ∧ wd.cell? ⟨SB, 2, none⟩ = some vals' ∧ (∀ o, wd.frozen? ⟨SB, o, none⟩ = false) ∧ MapS wd mi x (idM x) ∧ wd.ownsRow 0 26 4 vals' (x + 1) (valL (x + 1)) ∧ (vals'.ownBlock = (Value.slice pv x cv).ownBlock ∨ ∀ q, vals'.ownBlock = some q → w2.heap.size ≤ q) ∧ wd.cell? ⟨w.heap.size, 0, none⟩ = some (.int .u8 1) ∧ wd.cell? ⟨w.heap.size, 2, none⟩ = some (.int .i64 (x : Int)) ∧ Hid (Ws (fpS SB mi (.slice pv x cv)) w wd ∧ w2.heap.size ≤ wd.heap.size))
  case first =>
    refine wp_region_l (l := 10) (S := (fun w' => w'.cell? ⟨SB, 2, none⟩ = some (.slice pv x cv) ∧ w'.cell? ⟨w.heap.size, 0, none⟩ = some (.int .u8 1) ∧ w'.cell? ⟨w.heap.size, 1, none⟩ = some (.int .i64 0) ∧ w'.cell? ⟨w.heap.size, 2, none⟩ = some (.int .i64 (x : Int)) ∧ w'.cell? ⟨w.heap.size, 3, none⟩ = some (.string ByteArray.empty))) (by kernel_rfl) ⟨c2, b0, b1, b2, b3⟩ (fun hHeld => ?_)
    refine AnyL.take2 (i := 0) (oi := { dst := some 22, op := Go.Op.move (Go.Operand.tmp 0), type := 73, pos := _, after := #[], guard := none }) (v := ?vv14013) (by kernel_rfl) (by kernel_rfl) rfl (by kernel_rfl) (by kernel_rfl) (by kernel_rfl) (fun _ _ _ h => h) (Or.inl ⟨by rfl, ?hy14013⟩) (by assumption) ?tk14013
    case hy14013 => (intro w hSw; (try dsimp only at hSw); go_simp; (try with_reducible rfl))
    try simp only [Act.put, List.setIfInBounds_toArray, List.set_cons_zero, List.set_cons_succ]
    refine AnyL.take2 (i := 1) (oi := { dst := some 23, op := Go.Op.move (Go.Operand.tmp 0), type := 73, pos := _, after := #[], guard := none }) (v := ?vv14014) (by kernel_rfl) (by kernel_rfl) rfl (by kernel_rfl) (by kernel_rfl) (by kernel_rfl) (fun _ _ _ h => h) (Or.inl ⟨by rfl, ?hy14014⟩) (by assumption) ?tk14014
    case hy14014 => (intro w hSw; (try dsimp only at hSw); go_simp; (try with_reducible rfl))
    try simp only [Act.put, List.setIfInBounds_toArray, List.set_cons_zero, List.set_cons_succ]
    refine AnyL.take2 (i := 2) (oi := { dst := some 24, op := Go.Op.nilCheck (Go.Operand.tmp 23), type := 0, pos := _, after := #[{ on := 1, ground := Go.Ground.data }], guard := none }) (v := ?vv14015) (by kernel_rfl) (by kernel_rfl) rfl (by kernel_rfl) (by kernel_rfl) (by kernel_rfl) (fun _ _ _ h => h) (Or.inl ⟨by rfl, ?hy14015⟩) (by assumption) ?tk14015
    case hy14015 => (intro w hSw; (try dsimp only at hSw); go_simp; (try with_reducible rfl))
    try simp only [Act.put, List.setIfInBounds_toArray, List.set_cons_zero, List.set_cons_succ]
    refine AnyL.take2 (i := 3) (oi := { dst := some 25, op := Go.Op.fieldAddr 129 (Go.Operand.tmp 24) 2, type := 0, pos := _, after := #[{ on := 2, ground := Go.Ground.data }], guard := none }) (v := ?vv14016) (by kernel_rfl) (by kernel_rfl) rfl (by kernel_rfl) (by kernel_rfl) (by kernel_rfl) (fun _ _ _ h => h) (Or.inl ⟨by rfl, ?hy14016⟩) (by assumption) ?tk14016
    case hy14016 => (intro w hSw; (try dsimp only at hSw); go_simp; (try with_reducible rfl))
    try simp only [Act.put, List.setIfInBounds_toArray, List.set_cons_zero, List.set_cons_succ]
    refine AnyL.take2 (i := 4) (oi := { dst := some 26, op := Go.Op.load 30 (Go.Operand.tmp 25), type := 30, pos := _, after := #[{ on := 3, ground := Go.Ground.data }], guard := none }) (v := ?vv14017) (by kernel_rfl) (by kernel_rfl) rfl (by kernel_rfl) (by kernel_rfl) (by kernel_rfl) (fun _ _ _ h => h) (Or.inl ⟨by rfl, ?hy14017⟩) (by assumption) ?tk14017
    case hy14017 => (intro w hSw; (try dsimp only at hSw); go_simp; (try with_reducible rfl))
    try simp only [Act.put, List.setIfInBounds_toArray, List.set_cons_zero, List.set_cons_succ]
    refine AnyL.take2 (i := 5) (oi := { dst := some 27, op := Go.Op.load 26 (Go.Operand.tmp 3), type := 26, pos := _, after := #[], guard := none }) (v := ?vv14018) (by kernel_rfl) (by kernel_rfl) rfl (by kernel_rfl) (by kernel_rfl) (by kernel_rfl) (fun _ _ _ h => h) (Or.inl ⟨by rfl, ?hy14018⟩) (by assumption) ?tk14018
    case hy14018 => (intro w hSw; (try dsimp only at hSw); go_simp; (try with_reducible rfl))
    try simp only [Act.put, List.setIfInBounds_toArray, List.set_cons_zero, List.set_cons_succ]
    refine AnyL.one (i := 6) (o := { dst := some 28, op := Go.Op.buildSlice 30 1 #[(0, Go.Operand.tmp 27)], type := 30, pos := _, after := #[{ on := 5, ground := Go.Ground.data }], guard := none }) (by kernel_rfl) rfl rfl (fun K' hK' => ?_)
    go_simp
    clear hHeld
    refine hK'.out _ _ ⟨cell_later (below_dr (one_alloc _ _)) c2, cell_later (below_dr (one_alloc _ _)) b0, cell_later (below_dr (one_alloc _ _)) b1, cell_later (below_dr (one_alloc _ _)) b2, cell_later (below_dr (one_alloc _ _)) b3⟩ (fun hHeld => ?_)
    clear hK' K'
    try simp only [Act.put, List.setIfInBounds_toArray, List.set_cons_zero, List.set_cons_succ]
    refine AnyL.one (i := 7) (o := { dst := some 29, op := Go.Op.call { callee := Go.Callee.builtin Go.Builtin.append, args := #[Go.Operand.tmp 26, Go.Operand.tmp 28], argTypes := #[30, 30] }, type := 30, pos := _, after := #[{ on := 4, ground := Go.Ground.data }, { on := 6, ground := Go.Ground.data }], guard := none }) (by kernel_rfl) rfl rfl (fun K' hK' => ?_)
    refine ite_take (by rfl) ?_
    refine wp_append_own_at (.tmp 26) (.tmp 28) 30 rfl 0 26 i9 (.agg #[.int .u8 0, .int .i64 0, .int .i64 0, .string ByteArray.empty]) 4 40 Tryz.underlying30 hi9 hx0 hx1 hx2 rfl (by decide) (.slice pv x cv) x (valL x) rfl (HOWN.out.alloc _) ⟨w2.heap.size, 0, none⟩ 1 1 [.int .u8 1, .int .i64 0, .int .i64 (x : Int), .string ByteArray.empty] rfl rfl (cell_new4 _ x) (by simp [Value.oneCell']) (by unfold maxLen; omega) (by omega) (by simp <;> omega) ?_
    intro v' w3 hown' hgrow hblk
    obtain ⟨p', c', rfl⟩ := own_shape hown'
    have kk0 := hgrow.cell (a := ⟨SB, 2, none⟩) (hHeld.1) hrSB
    have kk1 := hgrow.cell (a := ⟨w.heap.size, 0, none⟩) (hHeld.2.1) hrX
    have kk2 := hgrow.cell (a := ⟨w.heap.size, 1, none⟩) (hHeld.2.2.1) hrX
    have kk3 := hgrow.cell (a := ⟨w.heap.size, 2, none⟩) (hHeld.2.2.2.1) hrX
    have kk4 := hgrow.cell (a := ⟨w.heap.size, 3, none⟩) (hHeld.2.2.2.2) hrX
    have fz3 : ∀ o, w3.frozen? ⟨SB, o, none⟩ = false := fun o => ((World.frozen?_of_block (a := ⟨SB, o, none⟩) (hgrow.block SB (by simp; omega) hrSB)).trans (World.frozen?_of_block (a := ⟨SB, o, none⟩) ((one_alloc w2 _).block SB hSB2))).trans (fz o)
    have HG := hideIt (And.intro hown' (And.intro hgrow hblk))
    clear hown' hgrow hblk
    clear hHeld
    refine hK'.out _ _ ⟨kk0, kk1, kk2, kk3, kk4⟩ (fun hHeld => ?_)
    clear hK' K'
    try simp only [Act.put, List.setIfInBounds_toArray, List.set_cons_zero, List.set_cons_succ]
    refine AnyL.take2 (i := 8) (oi := { dst := some 30, op := Go.Op.nilCheck (Go.Operand.tmp 22), type := 0, pos := _, after := #[{ on := 0, ground := Go.Ground.data }, { on := 0, ground := Go.Ground.phase }, { on := 1, ground := Go.Ground.phase }, { on := 2, ground := Go.Ground.phase }, { on := 3, ground := Go.Ground.phase }, { on := 4, ground := Go.Ground.phase }, { on := 5, ground := Go.Ground.phase }, { on := 6, ground := Go.Ground.phase }, { on := 7, ground := Go.Ground.phase }], guard := none }) (v := ?vv14019) (by kernel_rfl) (by kernel_rfl) rfl (by kernel_rfl) (by kernel_rfl) (by kernel_rfl) (fun _ _ _ h => h) (Or.inl ⟨by rfl, ?hy14019⟩) (by assumption) ?tk14019
    case hy14019 => (intro w hSw; (try dsimp only at hSw); go_simp; (try with_reducible rfl))
    try simp only [Act.put, List.setIfInBounds_toArray, List.set_cons_zero, List.set_cons_succ]
    refine AnyL.take2 (i := 9) (oi := { dst := some 31, op := Go.Op.fieldAddr 129 (Go.Operand.tmp 30) 2, type := 0, pos := _, after := #[{ on := 8, ground := Go.Ground.data }, { on := 0, ground := Go.Ground.phase }, { on := 1, ground := Go.Ground.phase }, { on := 2, ground := Go.Ground.phase }, { on := 3, ground := Go.Ground.phase }, { on := 4, ground := Go.Ground.phase }, { on := 5, ground := Go.Ground.phase }, { on := 6, ground := Go.Ground.phase }, { on := 7, ground := Go.Ground.phase }], guard := none }) (v := ?vv14020) (by kernel_rfl) (by kernel_rfl) rfl (by kernel_rfl) (by kernel_rfl) (by kernel_rfl) (fun _ _ _ h => h) (Or.inl ⟨by rfl, ?hy14020⟩) (by assumption) ?tk14020
    case hy14020 => (intro w hSw; (try dsimp only at hSw); go_simp; (try with_reducible rfl))
    try simp only [Act.put, List.setIfInBounds_toArray, List.set_cons_zero, List.set_cons_succ]
    refine AnyL.last (o := { dst := none, op := Go.Op.store 30 (Go.Operand.tmp 31) (Go.Operand.tmp 29), type := 0, pos := _, after := #[{ on := 9, ground := Go.Ground.data }, { on := 7, ground := Go.Ground.data }, { on := 7, ground := Go.Ground.chain }, { on := 0, ground := Go.Ground.phase }, { on := 1, ground := Go.Ground.phase }, { on := 2, ground := Go.Ground.phase }, { on := 3, ground := Go.Ground.phase }, { on := 4, ground := Go.Ground.phase }, { on := 5, ground := Go.Ground.phase }, { on := 6, ground := Go.Ground.phase }, { on := 7, ground := Go.Ground.phase }], guard := none }) (by kernel_rfl) rfl (by kernel_rfl) (fun K' hK' => ?_)
    go_simp
    clear hHeld
    refine hK'.out _ _ ?_
    clear hK' K'
    try simp only [Act.put, List.setIfInBounds_toArray, List.set_cons_zero, List.set_cons_succ]
    go_wp2
    go_meet
    case rel =>
      obtain ⟨hb2, H2⟩ := HB2.out
      obtain ⟨hown', hgrow, hblk⟩ := HG.out
      have bA := below_dr (one_alloc w2 (.cells #[.int .u8 1, .int .i64 0, .int .i64 (x : Int), .string ByteArray.empty] 26))
      have hsA := bA.size
      have hgs := hgrow.size
      have e3 : w3.heap[SB]? = w2.heap[SB]? := (hgrow.block SB (by omega) hrSB).trans (bA.block SB hSB2)
      have hmi2 := H2.lt.2
      have hrm : some mi ≠ (Value.slice pv x cv).ownBlock := fun e => H2.d2 e.symm
      have hnb : (Value.slice p' (x + 1) c').ownBlock ≠ some SB := fun e => by
        rcases hblk with z | z
        · exact hrSB (e ▸ z)
        · rw [z] at e; have := Option.some.inj e; omega
      have e4 : (w3.setCell ⟨SB, 2, none⟩ (.slice p' (x + 1) c')).heap[mi]? = w2.heap[mi]? := (far_set (fun e => H2.d0 e.symm)).trans ((hgrow.block mi (by omega) hrm).trans (bA.block mi hmi2))
      refine ⟨_, ?_, World.cell?_setCell_same _ _ _ kk0, fun o => (World.frozen?_setCell _ _ _ _).trans (fz3 o), H2.m.blk e4, own_one hown' (fun q hq => far_set (fun (e : q = SB) => hnb (e ▸ hq))), ?_, ?_, ?_, hideIt ⟨?_, ?_⟩⟩
      · exact (World.cell?_setCell_other _ _ _ _ (by simp)).trans ((World.cell?_of_block (a := ⟨SB, 0, none⟩) e3).trans H2.c0)
      · rcases hblk with z | z
        · exact .inl z
        · refine .inr (fun q hq => ?_)
          rw [z] at hq
          have := Option.some.inj hq
          omega
      · exact (World.cell?_setCell_other _ _ _ _ (by simp <;> omega)).trans kk1
      · exact (World.cell?_setCell_other _ _ _ _ (by simp <;> omega)).trans kk3
      · exact (((Ws.of_below hb2).below bA).grow hgrow (fun q hq => .inl (.inr (.inr hq)))).set (.inl (.inl rfl))
      · simp
        omega
  case rest =>
  clear fz b0 b1 b2 b3 c2
  obtain ⟨vals', c0, c2, fz, HM, hown, hvb, g0, g2, HW⟩ := hcut
  obtain ⟨hb2, H2⟩ := HB2.out
  obtain ⟨W3, hs3⟩ := HW.out
  obtain ⟨w5, hrun, HM5, W5⟩ := (HM.blk (w' := World.drew wc) rfl).store (by omega) (id := (x : Int)) (v := (x : Int)) (by omega) (by omega) (by omega) (by omega) (idM_out x)
  rw [idM_put] at HM5
  have hmi3 := HM.lt
  have hd1 : vals'.ownBlock ≠ some SB := fun e => by
    rcases hvb with z | z
    · exact hrSB (z ▸ e).symm
    · have := z SB e; omega
  have hd2 : vals'.ownBlock ≠ some mi := fun e => by
    rcases hvb with z | z
    · exact H2.d2 (z ▸ e)
    · have := z mi e; have := H2.lt; omega
  have hd0 : SB ≠ mi := H2.d0
  have e5 : w5.heap[SB]? = wc.heap[SB]? := W5.block SB (by show SB < wc.heap.size; omega) hd0
  have H5 : SymsAt w5 SB mi vals' (x + 1) := ⟨(World.cell?_of_block (a := ⟨SB, 0, none⟩) e5).trans c0, (World.cell?_of_block (a := ⟨SB, 2, none⟩) e5).trans c2, fun o => (World.frozen?_of_block (a := ⟨SB, o, none⟩) e5).trans (fz o), HM5, own_keep hown (fun q hq hl => W5.block q hl (fun e => hd2 (e ▸ hq))), hd0, hd1, hd2⟩
  have WS5 : Ws (fpS SB mi (.slice pv x cv)) w w5 := W3.trans (Ws.of_wr ((Wr.refl mi wc).drew.trans W5) (.inr (.inl rfl)))
  have hvv : ∀ q, vals'.ownBlock = some q → (Value.slice pv x cv).ownBlock = some q ∨ w.heap.size ≤ q := fun q hq => by
    rcases hvb with z | z
    · exact .inl (z ▸ hq)
    · exact .inr (by have := z q hq; omega)
  have HX := hideIt (And.intro H5 (And.intro WS5 hvv))
  clear H5 WS5 e5 W5 HM5 HM hown hvb W3 HW hb2 H2 HB2 hvv hd1 hd2 hd0 fz c2 H0 HOWN
  go_upto_region 7 with fail
  refine wp_region_l (l := 7) (S := (fun w' => w'.cell? ⟨SB, 0, none⟩ = some (.map (some mi)) ∧ w'.cell? ⟨w.heap.size, 2, none⟩ = some (.int .i64 (x : Int)))) (by kernel_rfl) ⟨c0, g2⟩ (fun hHeld => ?_)
  refine AnyL.take2 (i := 0) (oi := { dst := some 35, op := Go.Op.move (Go.Operand.tmp 0), type := 73, pos := _, after := #[], guard := none }) (v := ?vv14021) (by kernel_rfl) (by kernel_rfl) rfl (by kernel_rfl) (by kernel_rfl) (by kernel_rfl) (fun _ _ _ h => h) (Or.inl ⟨by rfl, ?hy14021⟩) (by assumption) ?tk14021
  case hy14021 => (intro w hSw; (try dsimp only at hSw); go_simp; (try with_reducible rfl))
  try simp only [Act.put, List.setIfInBounds_toArray, List.set_cons_zero, List.set_cons_succ]
  refine AnyL.take2 (i := 1) (oi := { dst := some 36, op := Go.Op.nilCheck (Go.Operand.tmp 35), type := 0, pos := _, after := #[{ on := 0, ground := Go.Ground.data }], guard := none }) (v := ?vv14022) (by kernel_rfl) (by kernel_rfl) rfl (by kernel_rfl) (by kernel_rfl) (by kernel_rfl) (fun _ _ _ h => h) (Or.inl ⟨by rfl, ?hy14022⟩) (by assumption) ?tk14022
  case hy14022 => (intro w hSw; (try dsimp only at hSw); go_simp; (try with_reducible rfl))
  try simp only [Act.put, List.setIfInBounds_toArray, List.set_cons_zero, List.set_cons_succ]
  refine AnyL.take2 (i := 2) (oi := { dst := some 37, op := Go.Op.fieldAddr 129 (Go.Operand.tmp 36) 0, type := 0, pos := _, after := #[{ on := 1, ground := Go.Ground.data }], guard := none }) (v := ?vv14023) (by kernel_rfl) (by kernel_rfl) rfl (by kernel_rfl) (by kernel_rfl) (by kernel_rfl) (fun _ _ _ h => h) (Or.inl ⟨by rfl, ?hy14023⟩) (by assumption) ?tk14023
  case hy14023 => (intro w hSw; (try dsimp only at hSw); go_simp; (try with_reducible rfl))
  try simp only [Act.put, List.setIfInBounds_toArray, List.set_cons_zero, List.set_cons_succ]
  refine AnyL.take2 (i := 3) (oi := { dst := some 38, op := Go.Op.load 126 (Go.Operand.tmp 37), type := 126, pos := _, after := #[{ on := 2, ground := Go.Ground.data }], guard := none }) (v := ?vv14024) (by kernel_rfl) (by kernel_rfl) rfl (by kernel_rfl) (by kernel_rfl) (by kernel_rfl) (fun _ _ _ h => h) (Or.inl ⟨by rfl, ?hy14024⟩) (by assumption) ?tk14024
  case hy14024 => (intro w hSw; (try dsimp only at hSw); go_simp; (try with_reducible rfl))
  try simp only [Act.put, List.setIfInBounds_toArray, List.set_cons_zero, List.set_cons_succ]
  refine AnyL.take2 (i := 4) (oi := { dst := some 39, op := Go.Op.fieldAddr 26 (Go.Operand.tmp 3) 2, type := 0, pos := _, after := #[], guard := none }) (v := ?vv14025) (by kernel_rfl) (by kernel_rfl) rfl (by kernel_rfl) (by kernel_rfl) (by kernel_rfl) (fun _ _ _ h => h) (Or.inl ⟨by rfl, ?hy14025⟩) (by assumption) ?tk14025
  case hy14025 => (intro w hSw; (try dsimp only at hSw); go_simp; (try with_reducible rfl))
  try simp only [Act.put, List.setIfInBounds_toArray, List.set_cons_zero, List.set_cons_succ]
  refine AnyL.take2 (i := 5) (oi := { dst := some 40, op := Go.Op.load 2 (Go.Operand.tmp 39), type := 2, pos := _, after := #[{ on := 4, ground := Go.Ground.data }], guard := none }) (v := ?vv14026) (by kernel_rfl) (by kernel_rfl) rfl (by kernel_rfl) (by kernel_rfl) (by kernel_rfl) (fun _ _ _ h => h) (Or.inl ⟨by rfl, ?hy14026⟩) (by assumption) ?tk14026
  case hy14026 => (intro w hSw; (try dsimp only at hSw); go_simp; (try with_reducible rfl))
  try simp only [Act.put, List.setIfInBounds_toArray, List.set_cons_zero, List.set_cons_succ]
  refine AnyL.take2 (i := 6) (oi := { dst := some 41, op := Go.Op.move (Go.Operand.tmp 7), type := 109, pos := _, after := #[], guard := none }) (v := ?vv14027) (by kernel_rfl) (by kernel_rfl) rfl (by kernel_rfl) (by kernel_rfl) (by kernel_rfl) (fun _ _ _ h => h) (Or.inl ⟨by rfl, ?hy14027⟩) (by assumption) ?tk14027
  case hy14027 => (intro w hSw; (try dsimp only at hSw); go_simp; (try with_reducible rfl))
  try simp only [Act.put, List.setIfInBounds_toArray, List.set_cons_zero, List.set_cons_succ]
  refine AnyL.last (o := { dst := none, op := Go.Op.mapUpdate 126 (Go.Operand.tmp 38) (Go.Operand.tmp 40) (Go.Operand.tmp 41), type := 0, pos := _, after := #[{ on := 3, ground := Go.Ground.data }, { on := 5, ground := Go.Ground.data }, { on := 6, ground := Go.Ground.data }, { on := 0, ground := Go.Ground.phase }, { on := 1, ground := Go.Ground.phase }, { on := 2, ground := Go.Ground.phase }, { on := 3, ground := Go.Ground.phase }, { on := 4, ground := Go.Ground.phase }, { on := 5, ground := Go.Ground.phase }, { on := 6, ground := Go.Ground.phase }], guard := none }) (by kernel_rfl) rfl (by kernel_rfl) (fun K' hK' => ?_)
  go_simp
  clear hHeld
  refine hK'.out _ _ ?_
  clear hK' K'
  try simp only [Act.put, List.setIfInBounds_toArray, List.set_cons_zero, List.set_cons_succ]
  go_wp2
  go_ret
  exact ⟨rfl, ⟨_, HX.out.1, HX.out.2.2⟩, HX.out.2.1⟩
theorem intern_any {w : World} {SB mi x k : Nat} {vals : Value} (H : SymsAt w SB mi vals k) (hx : x ≤ k) (hk : k ≤ 900) : Calls Tryz.prog 32 #[.pointer (some ⟨SB, 0, none⟩), tInt x] w fun e w' => e = .returned (.int .u32 (x : Int)) ∧ (∃ vals', SymsAt w' SB mi vals' (max k (x + 1)) ∧ ∀ q, vals'.ownBlock = some q → vals.ownBlock = some q ∨ w.heap.size ≤ q) ∧ Ws (fpS SB mi vals) w w' := by
  by_cases q : x < k
  · refine (intern_again H q (by omega)).mono ?_
    rintro e w' ⟨rfl, hb⟩
    rw [Nat.max_eq_left (by omega)]
    exact ⟨rfl, ⟨vals, H.below hb, fun q hq => .inl hq⟩, Ws.of_below hb⟩
  · have e : x = k := by omega
    subst e
    rw [Nat.max_eq_right (by omega)]
    exact intern_first H hk
end Go.Proofs.Qxb6500880aGreat
