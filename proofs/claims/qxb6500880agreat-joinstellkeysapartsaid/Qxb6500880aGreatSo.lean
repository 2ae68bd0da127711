import Derived.Deep.CutBlock
import Derived.OwnWalk
import Derived.Maps.AppendAt
import Derived.Maps.OwnSet
import Derived.Maps.OwnOps
import Derived.Laws.ResultCell
import Derived.Laws.AppendOwnNone
import Derived.Test.Qxb6500880aGreatSn
set_option linter.unusedVariables false
set_option linter.unusedSimpArgs false
namespace Go.Proofs.Qxb6500880aGreat
open Go.RowKit

theorem MapR.look1 {w : World} {mb n : Nat} {f : Int → Option Int} (h : MapR w mb n f) {id : Int} (h0 : (-9223372036854775808) ≤ id) (h1 : id < 9223372036854775808) :
    (Instr.lookup 88 (.map (some mb)) (.int .i64 id) false).run Tryz.prog w = .ok (.int .i64 ((f id).getD 0)) w := by
  obtain ⟨D, h, r, _⟩ := h
  obtain ⟨v, ps, hrun, hv⟩ := World.ownsMap.lookup h MapRlaw Tryz.underlying88 (MapRzero w) (zd := .lit (.int .i64 0)) (zp := []) (plainElem_int Tryz.underlying3 (by decide)) (MapRkey h0 h1)
  obtain ⟨c, rfl, hc, _⟩ := plainElem_int_inv Tryz.underlying3 hv
  obtain ⟨r1, r2⟩ := r id h0 h1
  rw [hrun]
  have : D.atKey (.int .i64 id) (.lit (.int .i64 0)) = .lit (.int .i64 c) := congrArg Prod.fst hc
  rw [r2] at this
  have e := (Lit.int.inj (DataW.lit.inj this)).2
  subst e
  rfl
theorem MapR.congr {w : World} {mb n : Nat} {f f' : Int → Option Int} (h : MapR w mb n f) (e : ∀ x, f x = f' x) : MapR w mb n f' := by
  have : f = f' := funext e
  rw [← this]
  exact h
/-- The first i numbers, each at itself. -/
def idU (i : Nat) : Int → Option Int := fun j => if 0 ≤ j ∧ j < (i : Int) then some j else none
theorem info121 : (Tryz.prog.info? 121).map (fun i => (i.zero, i.size, i.bytes)) = some (some (.agg #[.bool false, .int .u32 0, .int .i64 0]), 3, 16) := by kernel_rfl
/-- What Query reads. -/
structure QIn (w : World) (E nb SB mi k b ga ca nk : Nat) (fn : Fin 4 → Option Nat) (vals : Value) (nm : ByteArray) (s : RelS) (d : Nat → Nat) : Prop where
  e9 : w.cell? ⟨E, 9, none⟩ = some (.int .u8 0)
  e6 : w.cell? ⟨E, 6, none⟩ = some (.map (some nb))
  e4 : w.cell? ⟨E, 4, none⟩ = some (.pointer (some ⟨SB, 0, none⟩))
  N : MapN w nb nk fn
  H : SymsAt w SB mi vals k
  R : RelAt w b nm s
  hd : SymR w s.data (s.rows * s.A) d
  T : TermsAt w (.slice (some ⟨ga, 0, none⟩) 3 ca) 3 (fun t => t)
theorem QIn.below {w w' : World} {E nb SB mi k b ga ca nk : Nat} {fn : Fin 4 → Option Nat} {vals : Value} {nm : ByteArray} {s : RelS} {d : Nat → Nat} (h : QIn w E nb SB mi k b ga ca nk fn vals nm s d) (hb : Below w.heap.size w w') : QIn w' E nb SB mi k b ga ca nk fn vals nm s d :=
  ⟨cell_later hb h.e9, cell_later hb h.e6, cell_later hb h.e4, h.N.blk (hb.block _ h.N.lt), h.H.keep (fun q _ hl => hb.block q hl), h.R.below hb, h.hd.below hb, h.T.keep (fun q _ hl => hb.block q hl)⟩
set_option maxRecDepth 20000 in
set_option maxHeartbeats 8000000 in
theorem query_any {w : World} {E nb SB mi k b ga ca nk : Nat} {fn : Fin 4 → Option Nat} {vals : Value} {nm : ByteArray} {s : RelS} {d : Nat → Nat} (Q : QIn w E nb SB mi k b ga ca nk fn vals nm s d) (hf : fn 2 = some b) (hA : s.A = 3) (hv : ∀ j, j < s.rows * s.A → d j < k) (hR : s.rows < 20) (hk : k ≤ 1000) :
    Calls Tryz.prog 10 #[.pointer (some ⟨E, 0, none⟩), .agg #[.string (nmS 2), .slice (some ⟨ga, 0, none⟩) 3 ca]] w fun e w' => ∃ g, e = .returned (.tuple #[.slice (some ⟨g, 0, none⟩) s.rows s.rows, .bool true]) ∧ TupV w' g s.rows s d ∧ Below w.heap.size w w' := by
  have bA := one_alloc w (.cells #[.string (nmS 2), .slice (some ⟨ga, 0, none⟩) 3 ca] 34)
  have q0 : (w.alloc (.cells #[.string (nmS 2), .slice (some ⟨ga, 0, none⟩) 3 ca] 34)).cell? ⟨w.heap.size, 0, none⟩ = some (.string (nmS 2)) := by simp
  have q1 : (w.alloc (.cells #[.string (nmS 2), .slice (some ⟨ga, 0, none⟩) 3 ca] 34)).cell? ⟨w.heap.size, 1, none⟩ = some (.slice (some ⟨ga, 0, none⟩) 3 ca) := by simp
  have Q1 := Q.below bA
  have e9 := Q1.e9
  have htf := termsFine_any Q1.T (by omega)
  have hstr : ¬ ((nmS 2).toList = []) := fun e => by have := nm_full 2; rw [e] at this; simp at this
  have hfull : (nmS 2).toList.isEmpty = false := nm_full 2
  have HQ := hideIt (And.intro Q1 (And.intro bA (And.intro hf (And.intro hA hv))))
  clear Q Q1 bA hf hA hv
  go_enter Tryz.func10, Tryz.ntmps10
  go_wp2_with fail
  refine htf.mono ?_
  rintro e w2 ⟨rfl, b2⟩
  obtain ⟨Q1, bA, hf, hA, hv⟩ := HQ.out
  have Q2 := Q1.below b2
  have e6 := Q2.e6
  have hlk : ∀ w', w'.heap[nb]? = w2.heap[nb]? → (Instr.lookup 75 (.map (some nb)) (.string (nmS 2)) true).run Tryz.prog w' = .ok (.tuple #[.pointer (some ⟨b, 0, none⟩), .bool true]) w' := fun w' e => by
    have := (Q2.N.blk e).look 2
    rw [hf] at this
    exact this
  have q0 := cell_later b2 q0
  have q1 := cell_later b2 q1
  have ar := Q2.R.ar
  rw [hA] at ar
  have ar : w2.cell? ⟨b, 1, none⟩ = some (.int .i64 3) := ar
  have H2 := hideIt (And.intro Q2 (then_ bA b2))
  have HH := hideIt (And.intro hA hv)
  clear Q1 bA hf hA hv Q2 htf HQ b2 e9
  go_upto_region 3 with fail
  refine wp_region_held_drew (S := (fun w' => w'.cell? ⟨E, 6, none⟩ = some (.map (some nb)) ∧ w'.cell? ⟨w.heap.size, 0, none⟩ = some (.string (nmS 2)) ∧ w'.heap[nb]? = w2.heap[nb]?)) (by kernel_rfl) ⟨e6, q0, rfl⟩ (fun hHeld => ?_)
  refine wpAnyH_take (i := 0) (oi := { dst := some 40, op := Go.Op.move (Go.Operand.tmp 0), type := 58, pos := _, after := #[], guard := none }) (v := ?vv46201) rfl (by kernel_rfl) (by kernel_rfl) (by kernel_rfl) (fun _ _ _ h => h) (Or.inl ⟨by rfl, ?hy46201⟩) (by assumption) ?tk46201
  case hy46201 => (intro w hSw; (try dsimp only at hSw); go_simp; (try with_reducible rfl))
  try simp only [Act.put, List.setIfInBounds_toArray, List.set_cons_zero, List.set_cons_succ]
  refine wpAnyH_take (i := 1) (oi := { dst := some 41, op := Go.Op.nilCheck (Go.Operand.tmp 40), type := 0, pos := _, after := #[{ on := 0, ground := Go.Ground.data }], guard := none }) (v := ?vv46202) rfl (by kernel_rfl) (by kernel_rfl) (by kernel_rfl) (fun _ _ _ h => h) (Or.inl ⟨by rfl, ?hy46202⟩) (by assumption) ?tk46202
  case hy46202 => (intro w hSw; (try dsimp only at hSw); go_simp; (try with_reducible rfl))
  try simp only [Act.put, List.setIfInBounds_toArray, List.set_cons_zero, List.set_cons_succ]
  refine wpAnyH_take (i := 2) (oi := { dst := some 42, op := Go.Op.fieldAddr 86 (Go.Operand.tmp 41) 3, type := 0, pos := _, after := #[{ on := 1, ground := Go.Ground.data }], guard := none }) (v := ?vv46203) rfl (by kernel_rfl) (by kernel_rfl) (by kernel_rfl) (fun _ _ _ h => h) (Or.inl ⟨by rfl, ?hy46203⟩) (by assumption) ?tk46203
  case hy46203 => (intro w hSw; (try dsimp only at hSw); go_simp; (try with_reducible rfl))
  try simp only [Act.put, List.setIfInBounds_toArray, List.set_cons_zero, List.set_cons_succ]
  refine wpAnyH_take (i := 3) (oi := { dst := some 43, op := Go.Op.load 75 (Go.Operand.tmp 42), type := 75, pos := _, after := #[{ on := 2, ground := Go.Ground.data }], guard := none }) (v := ?vv46204) rfl (by kernel_rfl) (by kernel_rfl) (by kernel_rfl) (fun _ _ _ h => h) (Or.inl ⟨by rfl, ?hy46204⟩) (by assumption) ?tk46204
  case hy46204 => (intro w hSw; (try dsimp only at hSw); go_simp; (try with_reducible rfl))
  try simp only [Act.put, List.setIfInBounds_toArray, List.set_cons_zero, List.set_cons_succ]
  refine wpAnyH_take (i := 4) (oi := { dst := some 44, op := Go.Op.fieldAddr 34 (Go.Operand.tmp 3) 0, type := 0, pos := _, after := #[], guard := none }) (v := ?vv46205) rfl (by kernel_rfl) (by kernel_rfl) (by kernel_rfl) (fun _ _ _ h => h) (Or.inl ⟨by rfl, ?hy46205⟩) (by assumption) ?tk46205
  case hy46205 => (intro w hSw; (try dsimp only at hSw); go_simp; (try with_reducible rfl))
  try simp only [Act.put, List.setIfInBounds_toArray, List.set_cons_zero, List.set_cons_succ]
  refine wpAnyH_take (i := 5) (oi := { dst := some 45, op := Go.Op.load 9 (Go.Operand.tmp 44), type := 9, pos := _, after := #[{ on := 4, ground := Go.Ground.data }], guard := none }) (v := ?vv46206) rfl (by kernel_rfl) (by kernel_rfl) (by kernel_rfl) (fun _ _ _ h => h) (Or.inl ⟨by rfl, ?hy46206⟩) (by assumption) ?tk46206
  case hy46206 => (intro w hSw; (try dsimp only at hSw); go_simp; (try with_reducible rfl))
  try simp only [Act.put, List.setIfInBounds_toArray, List.set_cons_zero, List.set_cons_succ]
  refine wpAnyH_take (i := 6) (oi := { dst := some 46, op := Go.Op.lookup 75 (Go.Operand.tmp 43) (Go.Operand.tmp 45) true, type := 117, pos := _, after := #[{ on := 3, ground := Go.Ground.data }, { on := 5, ground := Go.Ground.data }], guard := none }) (v := ?vv46207) rfl (by kernel_rfl) (by kernel_rfl) (by kernel_rfl) (fun _ _ _ h => h) (Or.inl ⟨by rfl, ?hy46207⟩) (by assumption) ?tk46207
  case hy46207 => (intro w hSw; have hl7 := hlk w hSw.2.2; (try dsimp only at hSw); go_simp; (try with_reducible rfl))
  try simp only [Act.put, List.setIfInBounds_toArray, List.set_cons_zero, List.set_cons_succ]
  refine wpAnyH_take (i := 7) (oi := { dst := some 39, op := Go.Op.move (Go.Operand.tmp 46), type := 117, pos := _, after := #[{ on := 6, ground := Go.Ground.data }], guard := none }) (v := ?vv46208) rfl (by kernel_rfl) (by kernel_rfl) (by kernel_rfl) (fun _ _ _ h => h) (Or.inl ⟨by rfl, ?hy46208⟩) (by assumption) ?tk46208
  case hy46208 => (intro w hSw; (try dsimp only at hSw); go_simp; (try with_reducible rfl))
  try simp only [Act.put, List.setIfInBounds_toArray, List.set_cons_zero, List.set_cons_succ]
  refine wpAnyH_take (i := 8) (oi := { dst := some 47, op := Go.Op.extract (Go.Operand.tmp 39) 0, type := 99, pos := _, after := #[{ on := 7, ground := Go.Ground.data }], guard := none }) (v := ?vv46209) rfl (by kernel_rfl) (by kernel_rfl) (by kernel_rfl) (fun _ _ _ h => h) (Or.inl ⟨by rfl, ?hy46209⟩) (by assumption) ?tk46209
  case hy46209 => (intro w hSw; (try dsimp only at hSw); go_simp; (try with_reducible rfl))
  try simp only [Act.put, List.setIfInBounds_toArray, List.set_cons_zero, List.set_cons_succ]
  refine wpAnyH_take (i := 9) (oi := { dst := some 48, op := Go.Op.extract (Go.Operand.tmp 39) 1, type := 4, pos := _, after := #[{ on := 7, ground := Go.Ground.data }, { on := 10, ground := Go.Ground.gcOnly Go.Departure.lateStores }], guard := none }) (v := ?vv46210) rfl (by kernel_rfl) (by kernel_rfl) (by kernel_rfl) (fun _ _ _ h => h) (Or.inl ⟨by rfl, ?hy46210⟩) (by assumption) ?tk46210
  case hy46210 => (intro w hSw; (try dsimp only at hSw); go_simp; (try with_reducible rfl))
  try simp only [Act.put, List.setIfInBounds_toArray, List.set_cons_zero, List.set_cons_succ]
  refine wpAnyH_take (i := 10) (oi := { dst := some 6, op := Go.Op.assign (Go.Operand.tmp 47), type := 99, pos := _, after := #[{ on := 8, ground := Go.Ground.data }, { on := 0, ground := Go.Ground.phase }, { on := 1, ground := Go.Ground.phase }, { on := 2, ground := Go.Ground.phase }, { on := 3, ground := Go.Ground.phase }, { on := 4, ground := Go.Ground.phase }, { on := 5, ground := Go.Ground.phase }, { on := 6, ground := Go.Ground.phase }, { on := 7, ground := Go.Ground.phase }, { on := 8, ground := Go.Ground.phase }, { on := 9, ground := Go.Ground.textOnly Go.Departure.lateStores }], guard := none }) (v := ?vv46211) rfl (by kernel_rfl) (by kernel_rfl) (by kernel_rfl) (fun _ _ _ h => h) (Or.inl ⟨by rfl, ?hy46211⟩) (by assumption) ?tk46211
  case hy46211 => (intro w hSw; (try dsimp only at hSw); go_simp; (try with_reducible rfl))
  try simp only [Act.put, List.setIfInBounds_toArray, List.set_cons_zero, List.set_cons_succ]
  refine wpAnyH_take (i := 11) (oi := { dst := some 7, op := Go.Op.assign (Go.Operand.tmp 48), type := 4, pos := _, after := #[{ on := 9, ground := Go.Ground.data }, { on := 10, ground := Go.Ground.chain }, { on := 0, ground := Go.Ground.phase }, { on := 1, ground := Go.Ground.phase }, { on := 2, ground := Go.Ground.phase }, { on := 3, ground := Go.Ground.phase }, { on := 4, ground := Go.Ground.phase }, { on := 5, ground := Go.Ground.phase }, { on := 6, ground := Go.Ground.phase }, { on := 7, ground := Go.Ground.phase }, { on := 8, ground := Go.Ground.phase }, { on := 9, ground := Go.Ground.phase }, { on := 10, ground := Go.Ground.phase }], guard := none }) (v := ?vv46212) rfl (by kernel_rfl) (by kernel_rfl) (by kernel_rfl) (fun _ _ _ h => h) (Or.inl ⟨by rfl, ?hy46212⟩) (by assumption) ?tk46212
  case hy46212 => (intro w hSw; (try dsimp only at hSw); go_simp; (try with_reducible rfl))
  try simp only [Act.put, List.setIfInBounds_toArray, List.set_cons_zero, List.set_cons_succ]
  refine wpAnyH_done (by kernel_rfl) ?_ _
  clear hHeld hlk
  have q1 : w2.drew.cell? ⟨w.heap.size, 1, none⟩ = some (.slice (some ⟨ga, 0, none⟩) 3 ca) := q1
  have ar : w2.drew.cell? ⟨b, 1, none⟩ = some (.int .i64 3) := ar
  go_upto_region 6 with fail
  refine wp_region_held_drew (S := (fun w' => w'.cell? ⟨w.heap.size, 1, none⟩ = some (.slice (some ⟨ga, 0, none⟩) 3 ca) ∧ w'.cell? ⟨b, 1, none⟩ = some (.int .i64 3))) (by kernel_rfl) ⟨q1, ar⟩ (fun hHeld => ?_)
  refine wpAnyH_take (i := 0) (oi := { dst := some 51, op := Go.Op.fieldAddr 34 (Go.Operand.tmp 3) 1, type := 0, pos := _, after := #[], guard := none }) (v := ?vv46241) rfl (by kernel_rfl) (by kernel_rfl) (by kernel_rfl) (fun _ _ _ h => h) (Or.inl ⟨by rfl, ?hy46241⟩) (by assumption) ?tk46241
  case hy46241 => (intro w hSw; (try dsimp only at hSw); go_simp; (try with_reducible rfl))
  try simp only [Act.put, List.setIfInBounds_toArray, List.set_cons_zero, List.set_cons_succ]
  refine wpAnyH_take (i := 1) (oi := { dst := some 52, op := Go.Op.load 30 (Go.Operand.tmp 51), type := 30, pos := _, after := #[{ on := 0, ground := Go.Ground.data }], guard := none }) (v := ?vv46242) rfl (by kernel_rfl) (by kernel_rfl) (by kernel_rfl) (fun _ _ _ h => h) (Or.inl ⟨by rfl, ?hy46242⟩) (by assumption) ?tk46242
  case hy46242 => (intro w hSw; (try dsimp only at hSw); go_simp; (try with_reducible rfl))
  try simp only [Act.put, List.setIfInBounds_toArray, List.set_cons_zero, List.set_cons_succ]
  refine wpAnyH_take (i := 2) (oi := { dst := some 53, op := Go.Op.call { callee := Go.Callee.builtin Go.Builtin.len, args := #[Go.Operand.tmp 52], argTypes := #[30] }, type := 3, pos := _, after := #[{ on := 1, ground := Go.Ground.data }], guard := none }) (v := ?vv46243) rfl (by kernel_rfl) (by kernel_rfl) (by kernel_rfl) (fun _ _ _ h => h) (Or.inl ⟨by rfl, ?hy46243⟩) (by assumption) ?tk46243
  case hy46243 => (intro w hSw; (try dsimp only at hSw); go_simp; (try with_reducible rfl))
  try simp only [Act.put, List.setIfInBounds_toArray, List.set_cons_zero, List.set_cons_succ]
  refine wpAnyH_take (i := 3) (oi := { dst := some 54, op := Go.Op.move (Go.Operand.tmp 6), type := 99, pos := _, after := #[], guard := none }) (v := ?vv46244) rfl (by kernel_rfl) (by kernel_rfl) (by kernel_rfl) (fun _ _ _ h => h) (Or.inl ⟨by rfl, ?hy46244⟩) (by assumption) ?tk46244
  case hy46244 => (intro w hSw; (try dsimp only at hSw); go_simp; (try with_reducible rfl))
  try simp only [Act.put, List.setIfInBounds_toArray, List.set_cons_zero, List.set_cons_succ]
  refine wpAnyH_take (i := 4) (oi := { dst := some 55, op := Go.Op.nilCheck (Go.Operand.tmp 54), type := 0, pos := _, after := #[{ on := 3, ground := Go.Ground.data }], guard := none }) (v := ?vv46245) rfl (by kernel_rfl) (by kernel_rfl) (by kernel_rfl) (fun _ _ _ h => h) (Or.inl ⟨by rfl, ?hy46245⟩) (by assumption) ?tk46245
  case hy46245 => (intro w hSw; (try dsimp only at hSw); go_simp; (try with_reducible rfl))
  try simp only [Act.put, List.setIfInBounds_toArray, List.set_cons_zero, List.set_cons_succ]
  refine wpAnyH_take (i := 5) (oi := { dst := some 56, op := Go.Op.fieldAddr 98 (Go.Operand.tmp 55) 1, type := 0, pos := _, after := #[{ on := 4, ground := Go.Ground.data }], guard := none }) (v := ?vv46246) rfl (by kernel_rfl) (by kernel_rfl) (by kernel_rfl) (fun _ _ _ h => h) (Or.inl ⟨by rfl, ?hy46246⟩) (by assumption) ?tk46246
  case hy46246 => (intro w hSw; (try dsimp only at hSw); go_simp; (try with_reducible rfl))
  try simp only [Act.put, List.setIfInBounds_toArray, List.set_cons_zero, List.set_cons_succ]
  refine wpAnyH_take (i := 6) (oi := { dst := some 57, op := Go.Op.load 3 (Go.Operand.tmp 56), type := 3, pos := _, after := #[{ on := 5, ground := Go.Ground.data }], guard := none }) (v := ?vv46247) rfl (by kernel_rfl) (by kernel_rfl) (by kernel_rfl) (fun _ _ _ h => h) (Or.inl ⟨by rfl, ?hy46247⟩) (by assumption) ?tk46247
  case hy46247 => (intro w hSw; (try dsimp only at hSw); go_simp; (try with_reducible rfl))
  try simp only [Act.put, List.setIfInBounds_toArray, List.set_cons_zero, List.set_cons_succ]
  refine wpAnyH_take (i := 7) (oi := { dst := some 58, op := Go.Op.binOp Go.BinOp.neq 3 (Go.Operand.tmp 53) (Go.Operand.tmp 57) 3, type := 4, pos := _, after := #[{ on := 2, ground := Go.Ground.data }, { on := 6, ground := Go.Ground.data }], guard := none }) (v := ?vv46248) rfl (by kernel_rfl) (by kernel_rfl) (by kernel_rfl) (fun _ _ _ h => h) (Or.inl ⟨by rfl, ?hy46248⟩) (by assumption) ?tk46248
  case hy46248 => (intro w hSw; (try dsimp only at hSw); go_simp; (try with_reducible rfl))
  try simp only [Act.put, List.setIfInBounds_toArray, List.set_cons_zero, List.set_cons_succ]
  refine wpAnyH_done (by kernel_rfl) ?_ _
  clear hHeld
  have Q3 := H2.out.1.below (below_dr (below_dr (Below.refl w2.heap.size w2)))
  have b3 := then_ H2.out.2 (below_dr (below_dr (Below.refl w2.heap.size w2)))
  have q1 : w2.drew.drew.cell? ⟨w.heap.size, 1, none⟩ = some (.slice (some ⟨ga, 0, none⟩) 3 ca) := q1
  have ar : w2.drew.drew.cell? ⟨b, 1, none⟩ = some (.int .i64 3) := ar
  have H3 := hideIt (And.intro Q3 b3)
  clear Q3 b3 H2 q0 e6
  generalize w2.drew.drew = w3 at *
  obtain ⟨i9, hi9, hx0, hx1, hx2⟩ := info_parts info121
  go_wp2_with (first | (at_make; refine wpList_make_full _ rfl _ _ 118 rfl w3.heap.size 121 i9 _ 3 Tryz.underlying118 hi9 hx0 hx1 .i64 .i64 3 3 3 rfl rfl rfl rfl (by rw [hx2]; omega) (by unfold maxLen; omega) (Nat.le_refl _) ?_) | go_in)
  intro w4 own4 grow4
  have b4 : Below w3.heap.size w3 w4 := ⟨grow4.os, grow4.tape, grow4.output, grow4.size, fun k hk => grow4.block k hk (by simp)⟩
  have ex4 : ∀ j, j < 9 → ∃ u, w4.cell? ⟨w3.heap.size, j, none⟩ = some u := fun j hj => by
    obtain ⟨g, cc, ev, hcc, hg, hgl, hcl, hfz⟩ := own_full own4 (by omega)
    have eg : w3.heap.size = g := by simp only [Value.slice.injEq, Option.some.injEq, Addr.mk.injEq] at ev; exact ev.1.1
    rw [eg, hcl j (by omega)]
    have hl := own4.1
    exact ⟨_, List.getElem?_eq_getElem (by omega)⟩
  have fz4 : ∀ o, w4.frozen? ⟨w3.heap.size, o, none⟩ = false := fun o => own4.frozenAt o
  have hF4 : w3.heap.size < w4.heap.size := (own4.lt _ rfl).2
  have bM := one_alloc w4 (.map #[] 0)
  have M0 := MapR_new w4
  have hmm := @run_makeMap Tryz.prog
  have hsM : (w4.alloc (.map #[] 0)).heap.size = w4.heap.size + 1 := by simp
  have HM := hideIt (And.intro M0 (And.intro bM (And.intro b4 (And.intro ex4 (And.intro fz4 hsM)))))
  have q5 : (w4.alloc (.map #[] 0)).cell? ⟨w.heap.size, 1, none⟩ = some (.slice (some ⟨ga, 0, none⟩) 3 ca) := cell_later bM (cell_later b4 q1)
  clear own4 grow4 ex4 fz4 bM M0 hsM b4 q1 ar q0
  go_upto_region 10 with fail
  generalize w4.alloc (.map #[] 0) = w5 at *
  generalize hM : w4.heap.size = M at *
  generalize hF : w3.heap.size = F at *
  clear hmm
  go_wp2_with fail
  go_loopg [68] 3 (fun gg v wr => ∃ i : Nat, i + gg = 3 ∧ v = .int .i64 (i : Int) ∧ (∀ j, j < 9 → ∃ u, wr.cell? ⟨F, j, none⟩ = some u) ∧ (∀ o, wr.frozen? ⟨F, o, none⟩ = false) ∧ (∀ t, t < i → wr.cell? ⟨F, t * 3, none⟩ = some (.bool false) ∧ wr.cell? ⟨F, t * 3 + 1, none⟩ = some (.int .u32 0) ∧ wr.cell? ⟨F, t * 3 + 2, none⟩ = some (.int .i64 (t : Int))) ∧ MapR wr M i (idU i) ∧ Below F w3 wr)
  case atStart =>
    obtain ⟨M0, bM, b4, ex4, fz4, hsM⟩ := HM.out
    have hF4' : F < M := hF4
    refine ⟨0, by omega, rfl, fun j hj => ?_, fun o => ?_, fun t ht => by omega, M0.congr (fun x => ?_), b4.trans (bM.mono (by omega))⟩
    · obtain ⟨u, hu⟩ := ex4 j hj
      exact ⟨u, (World.cell?_of_block (a := ⟨F, j, none⟩) (bM.block F (by omega))).trans hu⟩
    · exact (World.frozen?_of_block (a := ⟨F, o, none⟩) (bM.block F (by omega))).trans (fz4 o)
    · unfold idU
      rw [if_neg (by omega)]
  case round =>
  obtain ⟨i, hi, rfl, ex, fz, hc, hMp, bw⟩ := hrel
  by_cases hin : i < 3
  · have i0 : (0 : Int) ≤ i := by omega
    have i1 : (i : Int) < 3 := by omega
    obtain ⟨Q3, b3⟩ := H3.out
    have bw' : Below w3.heap.size w3 wr := by rw [hF]; exact bw
    obtain ⟨pt, ct, et, hct, zt⟩ := (Q3.below bw').T
    obtain ⟨t0, t1, t2, t3⟩ : wr.cell? ⟨ga, i * 4, none⟩ = some (.int .u8 0) ∧ wr.cell? ⟨ga, i * 4 + 1, none⟩ = some (.int .i64 (i : Int)) ∧ wr.cell? ⟨ga, i * 4 + 2, none⟩ = some (.int .i64 0) ∧ wr.cell? ⟨ga, i * 4 + 3, none⟩ = some (.string ByteArray.empty) := by
      rcases zt with z | ⟨g, e, z⟩
      · omega
      · simp only [Value.slice.injEq] at et
        rw [e, Option.some.injEq, Addr.mk.injEq] at et
        rw [et.1.1]
        exact z i hin
    have hMl := hMp.lt
    have bA := one_alloc wr (.cells #[.int .u8 0, .int .i64 (i : Int), .int .i64 0, .string ByteArray.empty] 26)
    have MA := hMp.below bA
    have hlk := MA.look (id := (i : Int)) (by omega) (by omega)
    have eN : idU i (i : Int) = none := by unfold idU; rw [if_neg (by omega)]
    rw [eN] at hlk
    simp only [Option.getD_none, Option.isSome_none] at hlk
    obtain ⟨w6, hup, M6, W6⟩ := MA.store (by omega) (id := (i : Int)) (v := (i : Int)) (by omega) (by omega) (by omega) (by omega) eN
    have M6' : MapR w6 M (i + 1) (idU (i + 1)) := M6.congr (fun x => by
      unfold idU
      by_cases q : x = (i : Int)
      · rw [if_pos q, if_pos (by omega), q]
      · rw [if_neg q]
        by_cases q2 : 0 ≤ x ∧ x < (i : Int)
        · rw [if_pos q2, if_pos (by omega)]
        · rw [if_neg q2, if_neg (by omega)])
    have hlk2 := M6'.look1 (id := (i : Int)) (by omega) (by omega)
    have eS : (idU (i + 1) (i : Int)).getD 0 = (i : Int) := by unfold idU; rw [if_pos (by omega)]; rfl
    rw [eS] at hlk2
    have p1 : (wr.alloc (.cells #[.int .u8 0, .int .i64 (i : Int), .int .i64 0, .string ByteArray.empty] 26)).cell? ⟨wr.heap.size, 1, none⟩ = some (.int .i64 (i : Int)) := by simp
    have hbl : wr.heap.size ≠ M := by omega
    have hFM : F ≠ M := by omega
    have hFl : F < wr.heap.size := by omega
    have p1' := (World.cell?_of_block (a := ⟨wr.heap.size, 1, none⟩) (W6.block wr.heap.size (by simp) hbl)).trans p1
    have eF : w6.heap[F]? = wr.heap[F]? := (W6.block F (by simp; omega) hFM).trans (bA.block F hFl)
    obtain ⟨u0, k0⟩ := ex (i * 3) (by omega)
    obtain ⟨u1, k1⟩ := ex (i * 3 + 1) (by omega)
    obtain ⟨u2, k2⟩ := ex (i * 3 + 2) (by omega)
    have k0 := (World.cell?_of_block (a := ⟨F, i * 3, none⟩) eF).trans k0
    have k1 := (World.cell?_of_block (a := ⟨F, i * 3 + 1, none⟩) eF).trans k1
    have k2 := (World.cell?_of_block (a := ⟨F, i * 3 + 2, none⟩) eF).trans k2
    have f6 : ∀ o, w6.frozen? ⟨F, o, none⟩ = false := fun o => (World.frozen?_of_block (a := ⟨F, o, none⟩) eF).trans (fz o)
    have b6 : Below F w3 w6 := ⟨W6.os.trans (bA.os.trans bw.os), W6.tape.trans (bA.tape.trans bw.tape), W6.output.trans (bA.output.trans bw.output), Nat.le_trans bw.size (Nat.le_trans bA.size W6.size), fun q hq => (W6.block q (by have := bA.size; omega) (by omega)).trans ((bA.block q (by omega)).trans (bw.block q hq))⟩
    have HX := hideIt (And.intro ex (And.intro hc (And.intro M6' (And.intro eF b6))))
    clear ex fz hc hMp bw Q3 b3 bw' et hct zt MA eN M6 W6 M6' eS eF b6 bA p1
    go_wp2
    obtain ⟨ex, hc, M6', eF, b6⟩ := HX.out
    go_roundg (3 - (i + 1))
    case measure => omega
    case rel =>
      refine ⟨i + 1, by omega, by go_num, fun j hj => ?_, fun o => ?_, fun t ht => ?_, ?_, ?_⟩
      · obtain ⟨u, hu⟩ := ex j hj
        exact ex_set (ex_set (ex_set ⟨u, (World.cell?_of_block (a := ⟨F, j, none⟩) eF).trans hu⟩))
      · rw [World.frozen?_setCell, World.frozen?_setCell, World.frozen?_setCell]; exact f6 o
      · by_cases q : t = i
        · subst q
          refine ⟨?_, ?_, ?_⟩
          · exact (World.cell?_setCell_other _ _ _ _ (by simp <;> omega)).trans ((World.cell?_setCell_other _ _ _ _ (by simp <;> omega)).trans (World.cell?_setCell_same _ _ _ k0))
          · exact (World.cell?_setCell_other _ _ _ _ (by simp <;> omega)).trans (World.cell?_setCell_same _ _ _ ((World.cell?_setCell_other _ _ _ _ (by simp <;> omega)).trans k1))
          · exact World.cell?_setCell_same _ _ _ ((World.cell?_setCell_other _ _ _ _ (by simp <;> omega)).trans ((World.cell?_setCell_other _ _ _ _ (by simp <;> omega)).trans k2))
        · have oth : ∀ x, x < 3 → ((((w6.setCell ⟨F, i * 3, none⟩ (.bool false)).setCell ⟨F, i * 3 + 1, none⟩ (.int .u32 0)).setCell ⟨F, i * 3 + 2, none⟩ (.int .i64 (i : Int)))).cell? ⟨F, t * 3 + x, none⟩ = wr.cell? ⟨F, t * 3 + x, none⟩ := fun x hx => (World.cell?_setCell_other _ _ _ _ (by simp <;> omega)).trans ((World.cell?_setCell_other _ _ _ _ (by simp <;> omega)).trans ((World.cell?_setCell_other _ _ _ _ (by simp <;> omega)).trans (World.cell?_of_block (a := ⟨F, t * 3 + x, none⟩) eF)))
          obtain ⟨z0, z1, z2⟩ := hc t (by omega)
          exact ⟨(oth 0 (by omega)).trans z0, (oth 1 (by omega)).trans z1, (oth 2 (by omega)).trans z2⟩
      · exact M6'.blk ((far_set hFM.symm).trans ((far_set hFM.symm).trans (far_set hFM.symm)))
      · exact below_cell (below_cell (below_cell b6 (Nat.le_refl _) _) (Nat.le_refl _) _) (Nat.le_refl _) _
  have i1 : ¬ ((i : Int) < 3) := by omega
  have ei : i = 3 := by omega
  subst ei
  obtain ⟨Q3, b3⟩ := H3.out
  have bw' : Below w3.heap.size w3 wr := by rw [hF]; exact bw
  have Q4 := Q3.below bw'
  have b4 := then_ b3 bw'
  have cr4 := Q4.R.ro
  have hFr : F < wr.heap.size := World.block_lt_of_cell? _ _ (hc 0 (by omega)).1
  obtain ⟨hA, hv⟩ := HH.out
  obtain ⟨w5, hw5⟩ : ∃ w5, w5 = wr := ⟨_, rfl⟩
  subst hw5
  obtain ⟨n, hn⟩ : ∃ n, n = s.rows := ⟨_, rfl⟩
  rw [← hn] at cr4 hR
  have H5 := hideIt (And.intro Q4 (And.intro b4 (And.intro hc (And.intro hFr (And.intro hn (And.intro hA hv))))))
  clear Q3 b3 bw' Q4 b4 hc hFr hn hA hv ex fz hMp bw H3 HH HM hi
  obtain ⟨i3, hi3, hz0, hz1, hz2⟩ := info_parts info3
  go_wp2_with fail
  go_loopg [118, 16] n (fun gg v v16 wr => ∃ (i : Nat) (p : Option Addr) (cc : Nat), i + gg = n ∧ v = .int .i64 (i : Int) ∧ v16 = .slice p i cc ∧ wr.ownsRow w5.heap.size 3 1 (.slice p i cc) i (intF (fun j => j) i) ∧ (i = 0 → p = none) ∧ Below w5.heap.size w5 wr)
  case atStart => exact ⟨0, none, 0, by omega, rfl, rfl, own_nil _ _ _ _, fun _ => rfl, Below.refl _ _⟩
  case round =>
  obtain ⟨i, p, cc, hi, rfl, rfl, own, hp0, bw⟩ := hrel
  obtain ⟨Q4, b4, hc, hFr, hn, hA, hv⟩ := H5.out
  have Q5 := Q4.below bw
  by_cases hin : i < n
  · have i0 : (0 : Int) ≤ i := by omega
    have i2 : (i : Int) < (n : Int) := by omega
    have hrw := row_any Q5.R Q5.hd (by omega) (by omega) (by omega) (i := i) (by omega)
    rw [hA] at hrw
    have HX := hideIt (And.intro own (And.intro bw Q5))
    clear Q4 b4 hc hn hA hv own bw Q5
    go_wp2_with fail
    refine hrw.mono ?_
    rintro e w6 ⟨v, rfl, sy, hvb, ew⟩
    obtain ⟨p2, c2, rfl, hc2, z2⟩ := sy
    obtain ⟨own, bw, Q5⟩ := HX.out
    obtain ⟨gr, off, rfl, cr⟩ : ∃ g off, p2 = some ⟨g, off, none⟩ ∧ ∀ j, j < 3 → w6.cell? ⟨g, off + j, none⟩ = some (.int .u32 (d (i * 3 + j) : Int)) := by
      rcases z2 with z | z
      · omega
      · exact z
    have b6 : Below w5.heap.size w5 w6 := by rw [ew]; exact below_dr bw
    have own6 : w6.ownsRow w5.heap.size 3 1 (.slice p i cc) i (intF (fun j => j) i) := by rw [ew]; exact own_keep own (fun q _ _ => rfl)
    have H6 := hideIt (And.intro b6 (And.intro own6 cr))
    clear z2 own bw Q5 cr b6 own6 ew hvb hrw HX
    go_wp2_with fail
    go_loopg [126, 19] 3 (fun gg v v19 wr => ∃ t : Nat, t + gg = 3 ∧ v = .int .i64 (t : Int) ∧ v19 = .bool true ∧ Below w6.heap.size w6 wr)
    case atStart => exact ⟨0, by omega, rfl, rfl, Below.refl _ _⟩
    case round =>
    obtain ⟨t, ht, rfl, rfl, bt⟩ := hrel
    obtain ⟨b6, own6, cr⟩ := H6.out
    by_cases htn : t < 3
    · have t0 : (0 : Int) ≤ t := by omega
      have t1 : (t : Int) < 3 := by omega
      obtain ⟨Q4, b4, hc, hFr, hn, hA, hv⟩ := H5.out
      obtain ⟨z0, z1, z2⟩ := hc t htn
      have z0 := cell_later bt (cell_later b6 z0)
      have z1 := cell_later bt (cell_later b6 z1)
      have z2 := cell_later bt (cell_later b6 z2)
      have bA := one_alloc wr (.cells #[.bool false, .int .u32 0, .int .i64 (t : Int)] 121)
      have g0 : (wr.alloc (.cells #[.bool false, .int .u32 0, .int .i64 (t : Int)] 121)).cell? ⟨wr.heap.size, 0, none⟩ = some (.bool false) := by simp
      have g2 : (wr.alloc (.cells #[.bool false, .int .u32 0, .int .i64 (t : Int)] 121)).cell? ⟨wr.heap.size, 2, none⟩ = some (.int .i64 (t : Int)) := by simp
      have ct := cell_later bA (cell_later bt (cr t htn))
      have HB := hideIt (then_ bt bA)
      clear Q4 b4 hc hn hA hv b6 own6 cr bA bt
      go_upto_region 32 with fail
      generalize hwx : wr.heap.size = x at *
      generalize wr.alloc (.cells #[.bool false, .int .u32 0, .int .i64 (t : Int)] 121) = w7 at *
      refine wp_region_held_drew (S := (fun w' => w'.cell? ⟨x, 0, none⟩ = some (.bool false) ∧ w'.cell? ⟨x, 2, none⟩ = some (.int .i64 (t : Int)) ∧ w'.cell? ⟨gr, off + t, none⟩ = some (.int .u32 (d (i * 3 + t) : Int)))) (by kernel_rfl) ⟨g0, g2, ct⟩ (fun hHeld => ?_)
      refine wpAnyH_take (i := 0) (oi := { dst := some 131, op := Go.Op.fieldAddr 121 (Go.Operand.tmp 21) 0, type := 0, pos := _, after := #[], guard := none }) (v := ?vv46213) rfl (by kernel_rfl) (by kernel_rfl) (by kernel_rfl) (fun _ _ _ h => h) (Or.inl ⟨by rfl, ?hy46213⟩) (by assumption) ?tk46213
      case hy46213 => (intro w hSw; (try dsimp only at hSw); go_simp; (try with_reducible rfl))
      try simp only [Act.put, List.setIfInBounds_toArray, List.set_cons_zero, List.set_cons_succ]
      refine wpAnyH_take (i := 1) (oi := { dst := some 132, op := Go.Op.load 4 (Go.Operand.tmp 131), type := 4, pos := _, after := #[{ on := 0, ground := Go.Ground.data }], guard := none }) (v := ?vv46214) rfl (by kernel_rfl) (by kernel_rfl) (by kernel_rfl) (fun _ _ _ h => h) (Or.inl ⟨by rfl, ?hy46214⟩) (by assumption) ?tk46214
      case hy46214 => (intro w hSw; (try dsimp only at hSw); go_simp; (try with_reducible rfl))
      try simp only [Act.put, List.setIfInBounds_toArray, List.set_cons_zero, List.set_cons_succ]
      refine wpAnyH_take (i := 2) (oi := { dst := some 133, op := Go.Op.move (Go.Operand.tmp 132), type := 4, pos := _, after := #[{ on := 1, ground := Go.Ground.data }], guard := none }) (v := ?vv46215) rfl (by kernel_rfl) (by kernel_rfl) (by kernel_rfl) (fun _ _ _ h => h) (Or.inl ⟨by rfl, ?hy46215⟩) (by assumption) ?tk46215
      case hy46215 => (intro w hSw; (try dsimp only at hSw); go_simp; (try with_reducible rfl))
      try simp only [Act.put, List.setIfInBounds_toArray, List.set_cons_zero, List.set_cons_succ]
      refine wpAnyH_take (i := 3) (oi := { dst := some 134, op := Go.Op.move (Go.Operand.tmp 18), type := 83, pos := _, after := #[{ on := 2, ground := Go.Ground.guard }], guard := some (2, true) }) (v := undef) rfl (by kernel_rfl) (by kernel_rfl) (by kernel_rfl) (fun _ _ _ h => h) (Or.inr ⟨by rfl, rfl⟩) (by assumption) ?tk46216
      try simp only [Act.put, List.setIfInBounds_toArray, List.set_cons_zero, List.set_cons_succ]
      refine wpAnyH_take (i := 4) (oi := { dst := some 135, op := Go.Op.move (Go.Operand.tmp 20), type := 3, pos := _, after := #[{ on := 2, ground := Go.Ground.guard }], guard := some (2, true) }) (v := undef) rfl (by kernel_rfl) (by kernel_rfl) (by kernel_rfl) (fun _ _ _ h => h) (Or.inr ⟨by rfl, rfl⟩) (by assumption) ?tk46217
      try simp only [Act.put, List.setIfInBounds_toArray, List.set_cons_zero, List.set_cons_succ]
      refine wpAnyH_take (i := 5) (oi := { dst := some 136, op := Go.Op.indexAddr 83 (Go.Operand.tmp 134) (Go.Operand.tmp 135), type := 0, pos := _, after := #[{ on := 3, ground := Go.Ground.data }, { on := 4, ground := Go.Ground.data }, { on := 2, ground := Go.Ground.guard }], guard := some (2, true) }) (v := undef) rfl (by kernel_rfl) (by kernel_rfl) (by kernel_rfl) (fun _ _ _ h => h) (Or.inr ⟨by rfl, rfl⟩) (by assumption) ?tk46218
      try simp only [Act.put, List.setIfInBounds_toArray, List.set_cons_zero, List.set_cons_succ]
      refine wpAnyH_take (i := 6) (oi := { dst := some 137, op := Go.Op.load 109 (Go.Operand.tmp 136), type := 109, pos := _, after := #[{ on := 5, ground := Go.Ground.data }, { on := 2, ground := Go.Ground.guard }], guard := some (2, true) }) (v := undef) rfl (by kernel_rfl) (by kernel_rfl) (by kernel_rfl) (fun _ _ _ h => h) (Or.inr ⟨by rfl, rfl⟩) (by assumption) ?tk46219
      try simp only [Act.put, List.setIfInBounds_toArray, List.set_cons_zero, List.set_cons_succ]
      refine wpAnyH_take (i := 7) (oi := { dst := some 138, op := Go.Op.fieldAddr 121 (Go.Operand.tmp 21) 1, type := 0, pos := _, after := #[{ on := 2, ground := Go.Ground.guard }], guard := some (2, true) }) (v := undef) rfl (by kernel_rfl) (by kernel_rfl) (by kernel_rfl) (fun _ _ _ h => h) (Or.inr ⟨by rfl, rfl⟩) (by assumption) ?tk46220
      try simp only [Act.put, List.setIfInBounds_toArray, List.set_cons_zero, List.set_cons_succ]
      refine wpAnyH_take (i := 8) (oi := { dst := some 139, op := Go.Op.load 109 (Go.Operand.tmp 138), type := 109, pos := _, after := #[{ on := 7, ground := Go.Ground.data }, { on := 2, ground := Go.Ground.guard }], guard := some (2, true) }) (v := undef) rfl (by kernel_rfl) (by kernel_rfl) (by kernel_rfl) (fun _ _ _ h => h) (Or.inr ⟨by rfl, rfl⟩) (by assumption) ?tk46221
      try simp only [Act.put, List.setIfInBounds_toArray, List.set_cons_zero, List.set_cons_succ]
      refine wpAnyH_take (i := 9) (oi := { dst := some 140, op := Go.Op.binOp Go.BinOp.neq 109 (Go.Operand.tmp 137) (Go.Operand.tmp 139) 109, type := 4, pos := _, after := #[{ on := 6, ground := Go.Ground.data }, { on := 8, ground := Go.Ground.data }, { on := 2, ground := Go.Ground.guard }], guard := some (2, true) }) (v := undef) rfl (by kernel_rfl) (by kernel_rfl) (by kernel_rfl) (fun _ _ _ h => h) (Or.inr ⟨by rfl, rfl⟩) (by assumption) ?tk46222
      try simp only [Act.put, List.setIfInBounds_toArray, List.set_cons_zero, List.set_cons_succ]
      refine wpAnyH_take (i := 10) (oi := { dst := some 141, op := Go.Op.pick (Go.Operand.tmp 133) (Go.Operand.tmp 140) (Go.Operand.const (Go.Value.bool false)), type := 4, pos := _, after := #[{ on := 2, ground := Go.Ground.data }, { on := 9, ground := Go.Ground.data }], guard := none }) (v := ?vv46223) rfl (by kernel_rfl) (by kernel_rfl) (by kernel_rfl) (fun _ _ _ h => h) (Or.inl ⟨by rfl, ?hy46223⟩) (by assumption) ?tk46223
      case hy46223 => (intro w hSw; (try dsimp only at hSw); go_simp; (try with_reducible rfl))
      try simp only [Act.put, List.setIfInBounds_toArray, List.set_cons_zero, List.set_cons_succ]
      refine wpAnyH_take (i := 11) (oi := { dst := some 142, op := Go.Op.move (Go.Operand.tmp 141), type := 4, pos := _, after := #[{ on := 10, ground := Go.Ground.data }, { on := 2, ground := Go.Ground.chain }], guard := none }) (v := ?vv46224) rfl (by kernel_rfl) (by kernel_rfl) (by kernel_rfl) (fun _ _ _ h => h) (Or.inl ⟨by rfl, ?hy46224⟩) (by assumption) ?tk46224
      case hy46224 => (intro w hSw; (try dsimp only at hSw); go_simp; (try with_reducible rfl))
      try simp only [Act.put, List.setIfInBounds_toArray, List.set_cons_zero, List.set_cons_succ]
      refine wpAnyH_take (i := 12) (oi := { dst := some 143, op := Go.Op.fieldAddr 121 (Go.Operand.tmp 21) 0, type := 0, pos := _, after := #[{ on := 11, ground := Go.Ground.guard }], guard := some (11, false) }) (v := ?vv46225) rfl (by kernel_rfl) (by kernel_rfl) (by kernel_rfl) (fun _ _ _ h => h) (Or.inl ⟨by rfl, ?hy46225⟩) (by assumption) ?tk46225
      case hy46225 => (intro w hSw; (try dsimp only at hSw); go_simp; (try with_reducible rfl))
      try simp only [Act.put, List.setIfInBounds_toArray, List.set_cons_zero, List.set_cons_succ]
      refine wpAnyH_take (i := 13) (oi := { dst := some 144, op := Go.Op.load 4 (Go.Operand.tmp 143), type := 4, pos := _, after := #[{ on := 12, ground := Go.Ground.data }, { on := 11, ground := Go.Ground.guard }], guard := some (11, false) }) (v := ?vv46226) rfl (by kernel_rfl) (by kernel_rfl) (by kernel_rfl) (fun _ _ _ h => h) (Or.inl ⟨by rfl, ?hy46226⟩) (by assumption) ?tk46226
      case hy46226 => (intro w hSw; (try dsimp only at hSw); go_simp; (try with_reducible rfl))
      try simp only [Act.put, List.setIfInBounds_toArray, List.set_cons_zero, List.set_cons_succ]
      refine wpAnyH_take (i := 14) (oi := { dst := some 145, op := Go.Op.unOp Go.UnOp.not 4 (Go.Operand.tmp 144), type := 4, pos := _, after := #[{ on := 13, ground := Go.Ground.data }, { on := 11, ground := Go.Ground.guard }], guard := some (11, false) }) (v := ?vv46227) rfl (by kernel_rfl) (by kernel_rfl) (by kernel_rfl) (fun _ _ _ h => h) (Or.inl ⟨by rfl, ?hy46227⟩) (by assumption) ?tk46227
      case hy46227 => (intro w hSw; (try dsimp only at hSw); go_simp; (try with_reducible rfl))
      try simp only [Act.put, List.setIfInBounds_toArray, List.set_cons_zero, List.set_cons_succ]
      refine wpAnyH_take (i := 15) (oi := { dst := some 146, op := Go.Op.move (Go.Operand.tmp 145), type := 4, pos := _, after := #[{ on := 14, ground := Go.Ground.data }, { on := 11, ground := Go.Ground.chain }, { on := 11, ground := Go.Ground.guard }], guard := some (11, false) }) (v := ?vv46228) rfl (by kernel_rfl) (by kernel_rfl) (by kernel_rfl) (fun _ _ _ h => h) (Or.inl ⟨by rfl, ?hy46228⟩) (by assumption) ?tk46228
      case hy46228 => (intro w hSw; (try dsimp only at hSw); go_simp; (try with_reducible rfl))
      try simp only [Act.put, List.setIfInBounds_toArray, List.set_cons_zero, List.set_cons_succ]
      refine wpAnyH_take (i := 16) (oi := { dst := some 147, op := Go.Op.move (Go.Operand.tmp 18), type := 83, pos := _, after := #[{ on := 15, ground := Go.Ground.guard }], guard := some (15, true) }) (v := ?vv46229) rfl (by kernel_rfl) (by kernel_rfl) (by kernel_rfl) (fun _ _ _ h => h) (Or.inl ⟨by rfl, ?hy46229⟩) (by assumption) ?tk46229
      case hy46229 => (intro w hSw; (try dsimp only at hSw); go_simp; (try with_reducible rfl))
      try simp only [Act.put, List.setIfInBounds_toArray, List.set_cons_zero, List.set_cons_succ]
      refine wpAnyH_take (i := 17) (oi := { dst := some 148, op := Go.Op.move (Go.Operand.tmp 20), type := 3, pos := _, after := #[{ on := 15, ground := Go.Ground.guard }], guard := some (15, true) }) (v := ?vv46230) rfl (by kernel_rfl) (by kernel_rfl) (by kernel_rfl) (fun _ _ _ h => h) (Or.inl ⟨by rfl, ?hy46230⟩) (by assumption) ?tk46230
      case hy46230 => (intro w hSw; (try dsimp only at hSw); go_simp; (try with_reducible rfl))
      try simp only [Act.put, List.setIfInBounds_toArray, List.set_cons_zero, List.set_cons_succ]
      refine wpAnyH_take (i := 18) (oi := { dst := some 149, op := Go.Op.indexAddr 83 (Go.Operand.tmp 147) (Go.Operand.tmp 148), type := 0, pos := _, after := #[{ on := 16, ground := Go.Ground.data }, { on := 17, ground := Go.Ground.data }, { on := 15, ground := Go.Ground.guard }], guard := some (15, true) }) (v := ?vv46231) rfl (by kernel_rfl) (by kernel_rfl) (by kernel_rfl) (fun _ _ _ h => h) (Or.inl ⟨by rfl, ?hy46231⟩) (by assumption) ?tk46231
      case hy46231 => (intro w hSw; (try dsimp only at hSw); go_simp; (try with_reducible rfl))
      try simp only [Act.put, List.setIfInBounds_toArray, List.set_cons_zero, List.set_cons_succ]
      refine wpAnyH_take (i := 19) (oi := { dst := some 150, op := Go.Op.load 109 (Go.Operand.tmp 149), type := 109, pos := _, after := #[{ on := 18, ground := Go.Ground.data }, { on := 15, ground := Go.Ground.guard }], guard := some (15, true) }) (v := ?vv46232) rfl (by kernel_rfl) (by kernel_rfl) (by kernel_rfl) (fun _ _ _ h => h) (Or.inl ⟨by rfl, ?hy46232⟩) (by assumption) ?tk46232
      case hy46232 => (intro w hSw; (try dsimp only at hSw); go_simp; (try with_reducible rfl))
      try simp only [Act.put, List.setIfInBounds_toArray, List.set_cons_zero, List.set_cons_succ]
      refine wpAnyH_take (i := 20) (oi := { dst := some 151, op := Go.Op.move (Go.Operand.tmp 18), type := 83, pos := _, after := #[{ on := 15, ground := Go.Ground.guard }], guard := some (15, true) }) (v := ?vv46233) rfl (by kernel_rfl) (by kernel_rfl) (by kernel_rfl) (fun _ _ _ h => h) (Or.inl ⟨by rfl, ?hy46233⟩) (by assumption) ?tk46233
      case hy46233 => (intro w hSw; (try dsimp only at hSw); go_simp; (try with_reducible rfl))
      try simp only [Act.put, List.setIfInBounds_toArray, List.set_cons_zero, List.set_cons_succ]
      refine wpAnyH_take (i := 21) (oi := { dst := some 152, op := Go.Op.fieldAddr 121 (Go.Operand.tmp 21) 2, type := 0, pos := _, after := #[{ on := 15, ground := Go.Ground.guard }], guard := some (15, true) }) (v := ?vv46234) rfl (by kernel_rfl) (by kernel_rfl) (by kernel_rfl) (fun _ _ _ h => h) (Or.inl ⟨by rfl, ?hy46234⟩) (by assumption) ?tk46234
      case hy46234 => (intro w hSw; (try dsimp only at hSw); go_simp; (try with_reducible rfl))
      try simp only [Act.put, List.setIfInBounds_toArray, List.set_cons_zero, List.set_cons_succ]
      refine wpAnyH_take (i := 22) (oi := { dst := some 153, op := Go.Op.load 3 (Go.Operand.tmp 152), type := 3, pos := _, after := #[{ on := 21, ground := Go.Ground.data }, { on := 15, ground := Go.Ground.guard }], guard := some (15, true) }) (v := ?vv46235) rfl (by kernel_rfl) (by kernel_rfl) (by kernel_rfl) (fun _ _ _ h => h) (Or.inl ⟨by rfl, ?hy46235⟩) (by assumption) ?tk46235
      case hy46235 => (intro w hSw; (try dsimp only at hSw); go_simp; (try with_reducible rfl))
      try simp only [Act.put, List.setIfInBounds_toArray, List.set_cons_zero, List.set_cons_succ]
      refine wpAnyH_take (i := 23) (oi := { dst := some 154, op := Go.Op.indexAddr 83 (Go.Operand.tmp 151) (Go.Operand.tmp 153), type := 0, pos := _, after := #[{ on := 20, ground := Go.Ground.data }, { on := 22, ground := Go.Ground.data }, { on := 15, ground := Go.Ground.guard }], guard := some (15, true) }) (v := ?vv46236) rfl (by kernel_rfl) (by kernel_rfl) (by kernel_rfl) (fun _ _ _ h => h) (Or.inl ⟨by rfl, ?hy46236⟩) (by assumption) ?tk46236
      case hy46236 => (intro w hSw; (try dsimp only at hSw); go_simp; (try with_reducible rfl))
      try simp only [Act.put, List.setIfInBounds_toArray, List.set_cons_zero, List.set_cons_succ]
      refine wpAnyH_take (i := 24) (oi := { dst := some 155, op := Go.Op.load 109 (Go.Operand.tmp 154), type := 109, pos := _, after := #[{ on := 23, ground := Go.Ground.data }, { on := 15, ground := Go.Ground.guard }], guard := some (15, true) }) (v := ?vv46237) rfl (by kernel_rfl) (by kernel_rfl) (by kernel_rfl) (fun _ _ _ h => h) (Or.inl ⟨by rfl, ?hy46237⟩) (by assumption) ?tk46237
      case hy46237 => (intro w hSw; (try dsimp only at hSw); go_simp; (try with_reducible rfl))
      try simp only [Act.put, List.setIfInBounds_toArray, List.set_cons_zero, List.set_cons_succ]
      refine wpAnyH_take (i := 25) (oi := { dst := some 156, op := Go.Op.binOp Go.BinOp.neq 109 (Go.Operand.tmp 150) (Go.Operand.tmp 155) 109, type := 4, pos := _, after := #[{ on := 19, ground := Go.Ground.data }, { on := 24, ground := Go.Ground.data }, { on := 15, ground := Go.Ground.guard }], guard := some (15, true) }) (v := ?vv46238) rfl (by kernel_rfl) (by kernel_rfl) (by kernel_rfl) (fun _ _ _ h => h) (Or.inl ⟨by rfl, ?hy46238⟩) (by assumption) ?tk46238
      case hy46238 => (intro w hSw; (try dsimp only at hSw); go_simp; (try with_reducible rfl))
      try simp only [Act.put, List.setIfInBounds_toArray, List.set_cons_zero, List.set_cons_succ]
      refine wpAnyH_take (i := 26) (oi := { dst := some 157, op := Go.Op.pick (Go.Operand.tmp 146) (Go.Operand.tmp 156) (Go.Operand.const (Go.Value.bool false)), type := 4, pos := _, after := #[{ on := 15, ground := Go.Ground.data }, { on := 25, ground := Go.Ground.data }, { on := 11, ground := Go.Ground.guard }], guard := some (11, false) }) (v := ?vv46239) rfl (by kernel_rfl) (by kernel_rfl) (by kernel_rfl) (fun _ _ _ h => h) (Or.inl ⟨by rfl, ?hy46239⟩) (by assumption) ?tk46239
      case hy46239 => (intro w hSw; (try dsimp only at hSw); go_simp; (try with_reducible rfl))
      try simp only [Act.put, List.setIfInBounds_toArray, List.set_cons_zero, List.set_cons_succ]
      refine wpAnyH_take (i := 27) (oi := { dst := some 158, op := Go.Op.pick (Go.Operand.tmp 142) (Go.Operand.const (Go.Value.bool true)) (Go.Operand.tmp 157), type := 4, pos := _, after := #[{ on := 11, ground := Go.Ground.data }, { on := 26, ground := Go.Ground.data }], guard := none }) (v := ?vv46240) rfl (by kernel_rfl) (by kernel_rfl) (by kernel_rfl) (fun _ _ _ h => h) (Or.inl ⟨by rfl, ?hy46240⟩) (by assumption) ?tk46240
      case hy46240 => (intro w hSw; (try dsimp only at hSw); go_simp; (try with_reducible rfl))
      try simp only [Act.put, List.setIfInBounds_toArray, List.set_cons_zero, List.set_cons_succ]
      refine wpAnyH_done (by kernel_rfl) ?_ _
      clear hHeld
      go_wp2
      go_roundg (3 - (t + 1))
      case measure => omega
      case rel => exact ⟨t + 1, by omega, by go_num, rfl, below_dr HB.out⟩
    · have t1 : ¬ ((t : Int) < 3) := by omega
      have own7 := own_keep own6 (w' := wr) (fun q _ hl => bt.block q hl)
      have hsz : w5.heap.size ≤ wr.heap.size := Nat.le_trans b6.size bt.size
      have HO := hideIt own7
      have HB := hideIt (then_ b6 bt)
      clear b6 own6 cr bt own7 H6
      go_wp2_with (first | (at_builtin; refine wpList_append_own_at _ rfl (.tmp 161) (.tmp 163) 41 rfl w5.heap.size 3 i3 (.int .i64 0) 1 8 Tryz.underlying41 hi3 hz0 hz1 hz2 rfl (by decide) (.slice p i cc) i (intF (fun j => j) i) rfl (HO.out.alloc _) ⟨wr.heap.size, 0, none⟩ 1 1 [.int .i64 (i : Int)] rfl rfl (cell_new1 _ _ _) (by simp [Value.oneCell']) (by unfold maxLen; omega) (by omega) (by simp <;> omega) ?_) | go_in)
      intro v' w7 hown' hgrow hiff hblk
      obtain ⟨p', c', rfl⟩ := own_shape hown'
      have HX := hideIt (And.intro hown' hgrow)
      clear hown' hgrow hiff hblk
      go_wp2
      go_roundg (n - (i + 1))
      case measure => omega
      case rel =>
        obtain ⟨hown', hgrow⟩ := HX.out
        have bb := HB.out
        have bN := one_alloc wr (.cells #[.int .i64 (i : Int)] 3)
        refine ⟨i + 1, p', c', by omega, by go_num, rfl, by rw [intF_succ]; exact hown', fun h => by omega, ⟨hgrow.os.trans (bN.os.trans bb.os), hgrow.tape.trans (bN.tape.trans bb.tape), hgrow.output.trans (bN.output.trans bb.output), Nat.le_trans bb.size (Nat.le_trans bN.size hgrow.size), fun q hq => (hgrow.block q (by have := bN.size; omega) (fun e => ?_)).trans ((bN.block q (by omega)).trans (bb.block q hq))⟩⟩
        have := (HO.out.lt q e.symm).1
        omega
  · have i2 : ¬ ((i : Int) < (n : Int)) := by omega
    have ein : i = n := by omega
    subst ein
    have hgp : ∀ g, p = some ⟨g, 0, none⟩ → w5.heap.size ≤ g ∧ g < wr.heap.size := fun g hg => own.lt g (by rw [hg]; rfl)
    have KV : RowV wr p i cc s.rows := by
      by_cases q : i = 0
      · exact .inl q
      · obtain ⟨g, c9, ev, hcc, hg, hgl, hcl, hfz⟩ := own_full own (by omega)
        simp only [Value.slice.injEq] at ev
        exact .inr ⟨g, ev.1, hgl, ⟨fun t ht => ⟨t, by omega, (hcl t (by omega)).trans (intF_get ht)⟩, hfz⟩⟩
    have hne : ∀ g, p = some ⟨g, 0, none⟩ → g < wr.heap.size ∧ E ≠ g ∧ (∀ q, fpS SB mi vals q → q ≠ g) ∧ b ≠ g ∧ s.data.ownBlock ≠ some g := fun g hg => by
      have h1 := hgp g hg
      have h2 : E < w5.heap.size := World.block_lt_of_cell? _ _ Q4.e4
      have h3 := Q4.R.lt
      refine ⟨h1.2, by omega, fun q hq e => ?_, by omega, fun e => ?_⟩
      · have := Q4.H.fp_lt hq; omega
      · obtain ⟨pd, cd, ed, hcd, zd⟩ := Q4.hd
        rcases zd with z | ⟨gd, od, e2, z⟩
        · have e0 : i = 0 := by
            rw [← hn, hA] at z
            omega
          rw [hp0 e0] at hg
          cases hg
        · rw [ed, e2] at e
          have e3 : gd = g := Option.some.inj e
          have : 0 < s.rows * s.A := by
            rcases Nat.eq_zero_or_pos (s.rows * s.A) with y | y
            · rw [← hn, hA] at y
              have e0 : i = 0 := by omega
              rw [hp0 e0] at hg
              cases hg
            · exact y
          have := World.block_lt_of_cell? _ _ (z 0 this)
          have : gd < w5.heap.size := this
          omega
    have hex := export_any Q5.e4 Q5.H Q5.R Q5.hd hv (by omega) (by omega) (by omega) hk KV hne hR
    have HX := hideIt (And.intro bw (And.intro b4 (And.intro hn hgp)))
    clear Q4 b4 hc hFr hn hA hv own bw Q5 KV hne hgp hp0
    go_wp2_with fail
    refine hex.mono ?_
    rintro e w9 ⟨g, rfl, hT, W9⟩
    have HY := hideIt (And.intro hT W9)
    clear hT W9 hex
    go_wp2
    go_ret2
    obtain ⟨bw, b4, hn, hgp⟩ := HX.out
    obtain ⟨hT, W9⟩ := HY.out
    refine ⟨g, by rw [← hn]; rfl, by rw [← hn]; exact hT, then_ b4 ?_⟩
    exact bw.trans (W9.keep (by have := bw.size; omega) (fun q hq e => by have := hgp q e; omega))
end Go.Proofs.Qxb6500880aGreat
