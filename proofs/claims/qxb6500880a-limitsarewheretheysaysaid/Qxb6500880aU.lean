import Derived.Deep.CutBlock
import Derived.OwnWalk
import Derived.Maps.AppendAt
import Derived.Maps.OwnSet
import Derived.Maps.OwnOps
import Derived.Laws.ResultCell
import Derived.Test.Qxb6500880aT
set_option linter.unusedVariables false
set_option linter.unusedSimpArgs false
namespace Go.Proofs.Qxb6500880a
open Go.RowKit

theorem results_one_cell {fn : Func} {p : Tmp} {ty : TypeId} (h : fn.results = #[.cell p ty]) (tmps : Array Value) (P : Program) (w : World) :
    (results fn tmps).run P w = ((asAddr (tmps.getD p undef)).run P w).andThen fun a w₁ => (loadVar ty a).run P w₁ := by
  simp only [results, h]
  simp [Sem.run_bind, Result.andThen]
/-- The predicate table's two rows: h of arity 0, p of arity A. -/
structure PredsAt (w : World) (g A : Nat) : Prop where
  c : ∀ i, i < 2 → w.cell? ⟨g, i * 3, none⟩ = some (.string (nmS (decide (i = 1)))) ∧ w.cell? ⟨g, i * 3 + 1, none⟩ = some (.int .i64 ((if i = 1 then A else 0 : Nat) : Int)) ∧ w.cell? ⟨g, i * 3 + 2, none⟩ = some (.int .i64 0)
def xsF (hb rb : Nat) : Nat → List Value
  | 0 => []
  | 1 => [.pointer (some ⟨hb, 0, none⟩)]
  | _ => [.pointer (some ⟨hb, 0, none⟩), .pointer (some ⟨rb, 0, none⟩)]
def fnF (hb rb : Nat) : Nat → Bool → Option Nat
  | 0 => fun _ => none
  | 1 => fun j => if j = false then some hb else none
  | _ => fun j => if j = true then some rb else if j = false then some hb else none
/-- The engine's relations, i of them entered. -/
structure Tab (w : World) (E nb base hb rb A i : Nat) (c : Nat → Value) : Prop where
  e : EngAt w E c
  c6 : c 6 = .map (some nb)
  own : w.ownsRow base 89 1 (c 5) i (xsF hb rb i)
  m : MapN w nb i (fnF hb rb i)
  h : 0 < i → RelAt w hb (nmS false) (rel0 0) ∧ base ≤ hb ∧ (c 5).ownBlock ≠ some hb
  p : 1 < i → RelAt w rb (nmS true) (rel0 A) ∧ base ≤ rb ∧ (c 5).ownBlock ≠ some rb ∧ hb ≠ rb
theorem Tab.keep {w w' : World} {E nb base hb rb A i : Nat} {c : Nat → Value} (h : Tab w E nb base hb rb A i c) (hk : ∀ q, (q = E ∨ q = nb ∨ base ≤ q) → q < w.heap.size → w'.heap[q]? = w.heap[q]?) : Tab w' E nb base hb rb A i c :=
  ⟨h.e.blk (hk E (.inl rfl) h.e.lt), h.c6, own_one h.own (fun q hq => hk q (.inr (.inr (h.own.lt q hq).1)) (h.own.lt q hq).2), h.m.blk (hk nb (.inr (.inl rfl)) h.m.lt), fun hi => ⟨(h.h hi).1.blk (hk hb (.inr (.inr (h.h hi).2.1)) (h.h hi).1.lt), (h.h hi).2⟩, fun hi => ⟨(h.p hi).1.blk (hk rb (.inr (.inr (h.p hi).2.1)) (h.p hi).1.lt), (h.p hi).2⟩⟩
theorem Tab.below {w w' : World} {E nb base hb rb A i : Nat} {c : Nat → Value} (h : Tab w E nb base hb rb A i c) (hb' : Below w.heap.size w w') : Tab w' E nb base hb rb A i c := h.keep (fun q _ hl => hb'.block q hl)
theorem Tab.next {w w5 : World} {E nb base hb rb A i ai : Nat} {c : Nat → Value} {v5 : Value} (T : Tab w E nb base hb rb A i c) (hi : i < 2) (hbs : base ≤ w.heap.size) (hE : E < base) (hnb : nb < base) (hai : ai = if i = 1 then A else 0) (HR : RelAt w5 w.heap.size (nmS (decide (i = 1))) (rel0 ai)) (HE : EngAt w5 E (updV c 5 v5)) (own : w5.ownsRow base 89 1 v5 (i + 1) (xsF hb rb i ++ [.pointer (some ⟨w.heap.size, 0, none⟩)])) (hv : v5.ownBlock ≠ some w.heap.size) (HN : MapN w5 nb (i + 1) (fun j => if j = decide (i = 1) then some w.heap.size else fnF hb rb i j)) (W : Ws (fun q => q = E ∨ q = nb ∨ (c 5).ownBlock = some q) w w5) (hvs : v5.ownBlock = (c 5).ownBlock ∨ ∀ q, v5.ownBlock = some q → w.heap.size ≤ q) :
    ∃ hb' rb', Tab w5 E nb base hb' rb' A (i + 1) (updV c 5 v5) := by
  have h5 : updV c 5 v5 5 = v5 := if_pos rfl
  have h6 : updV c 5 v5 6 = .map (some nb) := (if_neg (by omega)).trans T.c6
  match i, hi with
  | 0, _ =>
    refine ⟨w.heap.size, rb, HE, h6, ?_, ?_, fun _ => ⟨?_, hbs, by rw [h5]; exact hv⟩, fun h => by omega⟩
    · rw [h5]; exact own
    · exact HN
    · have : ai = 0 := hai
      rw [this] at HR
      exact HR
  | 1, _ =>
    obtain ⟨HH, b1, b2⟩ := T.h (by omega)
    refine ⟨hb, w.heap.size, HE, h6, ?_, ?_, fun _ => ⟨HH.blk (W.block hb HH.lt (fun e => ?_)), b1, ?_⟩, fun _ => ⟨?_, hbs, by rw [h5]; exact hv, by have := HH.lt; omega⟩⟩
    · rw [h5]; exact own
    · exact HN
    · rcases e with e | e | e
      · omega
      · omega
      · exact b2 e
    · rw [h5]
      intro e
      rcases hvs with z | z
      · exact b2 (z ▸ e)
      · have := z hb e
        have := HH.lt
        omega
    · have : ai = A := hai
      rw [this] at HR
      exact HR
set_option maxRecDepth 20000 in
set_option maxHeartbeats 8000000 in
theorem table_any {w : World} {CB E nb g A rn rc : Nat} {rp : Option Addr} {c : Nat → Value} (HE : EngAt w E c) (h5 : c 5 = .slice none 0 0) (h6 : c 6 = .map (some nb)) (HN : MapN w nb 0 (fun _ => none)) (HC : w.cell? ⟨CB, 0, none⟩ = some (.pointer (some ⟨E, 0, none⟩))) (HP : PredsAt w g A) (hg : g ≠ E ∧ g ≠ nb ∧ CB ≠ E ∧ CB ≠ nb ∧ E ≠ nb) (hA : A ≤ 1000) :
    Calls Try.prog 12 #[.pointer (some ⟨CB, 0, none⟩), .agg #[.slice (some ⟨g, 0, none⟩) 2 2, .slice rp rn rc, .int .i64 1]] w fun e w' => (32 < A → e = .returned (.agg #[.int .u8 2, .int .i64 1, .int .i64 0])) ∧ (A ≤ 32 → e = .returned (.agg #[.int .u8 0, .int .i64 0, .int .i64 0]) ∧ ∃ hb rb c', Tab w' E nb (w.heap.size + 2) hb rb A 2 c' ∧ ∀ k, k ≠ 5 → c' k = c k) ∧ Ws (fun q => q = E ∨ q = nb) w w' := by
  obtain ⟨hg1, hg2, hg3, hg4, hg5⟩ := hg
  have hEl := HE.lt
  have hnl := HN.lt
  have hCl : CB < w.heap.size := World.block_lt_of_cell? _ _ HC
  have hgl : g < w.heap.size := World.block_lt_of_cell? _ _ (HP.c 0 (by omega)).1
  have bA : Below w.heap.size w ((w.alloc (.cells #[.slice (some ⟨g, 0, none⟩) 2 2, .slice rp rn rc, .int .i64 1] 42)).alloc (.cells #[.int .u8 0, .int .i64 0, .int .i64 0] 45)) := then_ (one_alloc _ _) (one_alloc _ _)
  have hsA : ((w.alloc (.cells #[.slice (some ⟨g, 0, none⟩) 2 2, .slice rp rn rc, .int .i64 1] 42)).alloc (.cells #[.int .u8 0, .int .i64 0, .int .i64 0] 45)).heap.size = w.heap.size + 1 + 1 := by simp
  have p0 : ((w.alloc (.cells #[.slice (some ⟨g, 0, none⟩) 2 2, .slice rp rn rc, .int .i64 1] 42)).alloc (.cells #[.int .u8 0, .int .i64 0, .int .i64 0] 45)).cell? ⟨w.heap.size, 0, none⟩ = some (.slice (some ⟨g, 0, none⟩) 2 2) := cell_later (one_alloc _ _) (by simp)
  have p2 : ((w.alloc (.cells #[.slice (some ⟨g, 0, none⟩) 2 2, .slice rp rn rc, .int .i64 1] 42)).alloc (.cells #[.int .u8 0, .int .i64 0, .int .i64 0] 45)).cell? ⟨w.heap.size, 2, none⟩ = some (.int .i64 1) := cell_later (one_alloc _ _) (by simp)
  have z0 : ((w.alloc (.cells #[.slice (some ⟨g, 0, none⟩) 2 2, .slice rp rn rc, .int .i64 1] 42)).alloc (.cells #[.int .u8 0, .int .i64 0, .int .i64 0] 45)).cell? ⟨w.heap.size + 1, 0, none⟩ = some (.int .u8 0) := new_cell (by simp) _ _ _
  have z1 : ((w.alloc (.cells #[.slice (some ⟨g, 0, none⟩) 2 2, .slice rp rn rc, .int .i64 1] 42)).alloc (.cells #[.int .u8 0, .int .i64 0, .int .i64 0] 45)).cell? ⟨w.heap.size + 1, 1, none⟩ = some (.int .i64 0) := new_cell (by simp) _ _ _
  have z2 : ((w.alloc (.cells #[.slice (some ⟨g, 0, none⟩) 2 2, .slice rp rn rc, .int .i64 1] 42)).alloc (.cells #[.int .u8 0, .int .i64 0, .int .i64 0] 45)).cell? ⟨w.heap.size + 1, 2, none⟩ = some (.int .i64 0) := new_cell (by simp) _ _ _
  have zf : ∀ o, ((w.alloc (.cells #[.slice (some ⟨g, 0, none⟩) 2 2, .slice rp rn rc, .int .i64 1] 42)).alloc (.cells #[.int .u8 0, .int .i64 0, .int .i64 0] 45)).frozen? ⟨w.heap.size + 1, o, none⟩ = false := fun o => new_frz (by simp) _ _ _
  have T0 : Tab ((w.alloc (.cells #[.slice (some ⟨g, 0, none⟩) 2 2, .slice rp rn rc, .int .i64 1] 42)).alloc (.cells #[.int .u8 0, .int .i64 0, .int .i64 0] 45)) E nb (w.heap.size + 2) 0 0 A 0 c := ⟨HE.below bA, h6, ⟨rfl, .inl ⟨h5, rfl⟩⟩, HN.below bA, fun h => by omega, fun h => by omega⟩
  have HQ := hideIt (And.intro bA (And.intro T0 (And.intro HC (And.intro HP (And.intro p0 (And.intro p2 (And.intro z0 (And.intro z1 (And.intro z2 zf)))))))))
  have HSA := hideIt hsA
  have HB0 := hideIt bA
  clear HE h5 h6 HN HC HP bA T0 p2 z0 z1 z2 zf hsA
  go_enter Try.func12, Try.ntmps12
  go_wp2_with fail
  go_loopg [12] 2 (fun gg v wr => ∃ i : Nat, i + gg = 2 ∧ v = .int .i64 (i : Int) ∧ (∃ hb rb c', Tab wr E nb (w.heap.size + 2) hb rb A i c' ∧ ∀ k, k ≠ 5 → c' k = c k) ∧ Ws (fun q => q = E ∨ q = nb ∨ w.heap.size + 2 ≤ q) ((w.alloc (.cells #[.slice (some ⟨g, 0, none⟩) 2 2, .slice rp rn rc, .int .i64 1] 42)).alloc (.cells #[.int .u8 0, .int .i64 0, .int .i64 0] 45)) wr ∧ w.heap.size + 2 ≤ wr.heap.size ∧ (1 < i → A ≤ 32))
  case atStart => exact ⟨0, by omega, rfl, ⟨0, 0, c, HQ.out.2.1, fun _ _ => rfl⟩, Ws.refl _ _, by have := HSA.out; omega, fun h => by omega⟩
  case round =>
    obtain ⟨i, hi, rfl, ⟨hb, rb, c', T, hc'⟩, WS, hsr, hA32⟩ := hrel
    by_cases him : i < 2
    · obtain ⟨bA, T0, HC, HP, p0', p2, z0, z1, z2, zf⟩ := HQ.out
      have hsA := HSA.out
      have i0 : (0 : Int) ≤ i := by omega
      have i1 : (i : Int) < 2 := by omega
      have kpr : ∀ q, q < w.heap.size + 2 → q ≠ E → q ≠ nb → wr.heap[q]? = ((w.alloc (.cells #[.slice (some ⟨g, 0, none⟩) 2 2, .slice rp rn rc, .int .i64 1] 42)).alloc (.cells #[.int .u8 0, .int .i64 0, .int .i64 0] 45)).heap[q]? := fun q h1 h2 h3 => WS.block q (by omega) (fun e => by omega)
      have kpw : ∀ q, q < w.heap.size → q ≠ E → q ≠ nb → wr.heap[q]? = w.heap[q]? := fun q h1 h2 h3 => (kpr q (by omega) h2 h3).trans (bA.block q h1)
      obtain ⟨d0, d1, d2⟩ := HP.c i him
      have eg := kpw g hgl hg1 hg2
      have d0 := (World.cell?_of_block (a := ⟨g, i * 3, none⟩) eg).trans d0
      have d1 := (World.cell?_of_block (a := ⟨g, i * 3 + 1, none⟩) eg).trans d1
      have d2 := (World.cell?_of_block (a := ⟨g, i * 3 + 2, none⟩) eg).trans d2
      obtain ⟨ai, hai⟩ : ∃ ai, ai = (if i = 1 then A else 0) := ⟨_, rfl⟩
      rw [← hai] at d1
      have hai9 : ai ≤ 1000 := by rw [hai]; split <;> omega
      obtain ⟨key, hkey⟩ : ∃ key, decide (i = 1) = key := ⟨_, rfl⟩
      rw [hkey] at d0
      have hnf := nm_full key
      obtain ⟨nm, hnm⟩ : ∃ nm, nmS key = nm := ⟨_, rfl⟩
      rw [hnm] at hnf d0
      have bP := one_alloc wr (.cells #[.string nm, .int .i64 (ai : Int), .int .i64 0] 38)
      have hfk : fnF hb rb i key = none := by
        match i, him with
        | 0, _ => rfl
        | 1, _ => rw [← hkey]; rfl
      have hlk : ∀ w', w'.heap[nb]? = (wr.alloc (.cells #[.string nm, .int .i64 (ai : Int), .int .i64 0] 38)).heap[nb]? → (Instr.lookup 64 (.map (some nb)) (.string nm) true).run Try.prog w' = .ok (.tuple #[.pointer none, .bool false]) w' := fun w' e => by
        have := ((T.m.below bP).blk e).look key
        rw [hfk, hnm] at this
        exact this
      have cb0 := cell_later bP ((World.cell?_of_block (a := ⟨CB, 0, none⟩) (kpw CB hCl hg3 hg4)).trans HC)
      have e6 := cell_later bP (T.e.get T.c6 (by omega))
      have hadd := addRelation_any (w := World.drew (World.drew (wr.alloc (.cells #[.string nm, .int .i64 (ai : Int), .int .i64 0] 38)))) (A := ai) key ((T.e.below bP).blk rfl) T.c6 ((T.m.below bP).blk rfl) (own_one (T.own.alloc (.cells #[.string nm, .int .i64 (ai : Int), .int .i64 0] 38)) (fun _ _ => rfl)) (by omega) (by omega) (by show _ ≤ (wr.alloc (.cells #[.string nm, .int .i64 (ai : Int), .int .i64 0] 38)).heap.size; simp; omega) hg5 (by omega) (by omega)
      have kz := kpr (w.heap.size + 1) (by omega) (by omega) (by omega)
      have y0 := cell_later bP ((World.cell?_of_block (a := ⟨w.heap.size + 1, 0, none⟩) kz).trans z0)
      have y1 := cell_later bP ((World.cell?_of_block (a := ⟨w.heap.size + 1, 1, none⟩) kz).trans z1)
      have y2 := cell_later bP ((World.cell?_of_block (a := ⟨w.heap.size + 1, 2, none⟩) kz).trans z2)
      have kp := kpr w.heap.size (by omega) (by omega) (by omega)
      have x2 := cell_later bP ((World.cell?_of_block (a := ⟨w.heap.size, 2, none⟩) kp).trans p2)
      have yf : ∀ o, (wr.alloc (.cells #[.string nm, .int .i64 (ai : Int), .int .i64 0] 38)).frozen? ⟨w.heap.size + 1, o, none⟩ = false := fun o => (World.frozen?_of_block (a := ⟨w.heap.size + 1, o, none⟩) ((bP.block (w.heap.size + 1) (by omega)).trans kz)).trans (zf o)
      rw [hnm] at hadd
      have HX := hideIt (And.intro T (And.intro WS (And.intro bP (And.intro hkey (And.intro hai (And.intro hnm hc'))))))
      clear bA T0 HC HP p0' p2 z0 z1 z2 zf hsA T WS kpr kpw eg bP hkey hai hnm kz kp hfk HQ
      go_upto_region 4 with fail
      have q0 : (wr.alloc (.cells #[.string nm, .int .i64 (ai : Int), .int .i64 0] 38)).cell? ⟨wr.heap.size, 0, none⟩ = some (.string nm) := by simp
      have q1 : (wr.alloc (.cells #[.string nm, .int .i64 (ai : Int), .int .i64 0] 38)).cell? ⟨wr.heap.size, 1, none⟩ = some (.int .i64 (ai : Int)) := by simp
      have q2 : (wr.alloc (.cells #[.string nm, .int .i64 (ai : Int), .int .i64 0] 38)).cell? ⟨wr.heap.size, 2, none⟩ = some (.int .i64 0) := by simp
      have hsd : (wr.alloc (.cells #[.string nm, .int .i64 (ai : Int), .int .i64 0] 38)).heap.size = wr.heap.size + 1 := by simp
      have HSD := hideIt hsd
      clear hsd d0 d1 d2
      generalize wr.alloc (.cells #[.string nm, .int .i64 (ai : Int), .int .i64 0] 38) = wd at *
      generalize hp6 : wr.heap.size = p6 at *
      refine wp_region_held_drew (S := (fun w' => w'.cell? ⟨CB, 0, none⟩ = some (.pointer (some ⟨E, 0, none⟩)) ∧ w'.cell? ⟨E, 6, none⟩ = some (.map (some nb)) ∧ w'.cell? ⟨p6, 0, none⟩ = some (.string nm) ∧ w'.heap[nb]? = wd.heap[nb]?)) (by kernel_rfl) ⟨cb0, e6, q0, rfl⟩ (fun hHeld => ?_)
      refine wpAnyH_take (i := 0) (oi := { dst := some 18, op := Go.Op.move (Go.Operand.tmp 0), type := 76, pos := _, after := #[], guard := none }) (v := ?vv16001) rfl (by kernel_rfl) (by kernel_rfl) (by kernel_rfl) (fun _ _ _ h => h) (Or.inl ⟨by rfl, ?hy16001⟩) (by assumption) ?tk16001
      case hy16001 => (intro w hSw; (try dsimp only at hSw); go_simp; (try with_reducible rfl))
      try simp only [Act.put, List.setIfInBounds_toArray, List.set_cons_zero, List.set_cons_succ]
      refine wpAnyH_take (i := 1) (oi := { dst := some 19, op := Go.Op.nilCheck (Go.Operand.tmp 18), type := 0, pos := _, after := #[{ on := 0, ground := Go.Ground.data }], guard := none }) (v := ?vv16002) rfl (by kernel_rfl) (by kernel_rfl) (by kernel_rfl) (fun _ _ _ h => h) (Or.inl ⟨by rfl, ?hy16002⟩) (by assumption) ?tk16002
      case hy16002 => (intro w hSw; (try dsimp only at hSw); go_simp; (try with_reducible rfl))
      try simp only [Act.put, List.setIfInBounds_toArray, List.set_cons_zero, List.set_cons_succ]
      refine wpAnyH_take (i := 2) (oi := { dst := some 20, op := Go.Op.fieldAddr 79 (Go.Operand.tmp 19) 0, type := 0, pos := _, after := #[{ on := 1, ground := Go.Ground.data }], guard := none }) (v := ?vv16003) rfl (by kernel_rfl) (by kernel_rfl) (by kernel_rfl) (fun _ _ _ h => h) (Or.inl ⟨by rfl, ?hy16003⟩) (by assumption) ?tk16003
      case hy16003 => (intro w hSw; (try dsimp only at hSw); go_simp; (try with_reducible rfl))
      try simp only [Act.put, List.setIfInBounds_toArray, List.set_cons_zero, List.set_cons_succ]
      refine wpAnyH_take (i := 3) (oi := { dst := some 21, op := Go.Op.load 43 (Go.Operand.tmp 20), type := 43, pos := _, after := #[{ on := 2, ground := Go.Ground.data }], guard := none }) (v := ?vv16004) rfl (by kernel_rfl) (by kernel_rfl) (by kernel_rfl) (fun _ _ _ h => h) (Or.inl ⟨by rfl, ?hy16004⟩) (by assumption) ?tk16004
      case hy16004 => (intro w hSw; (try dsimp only at hSw); go_simp; (try with_reducible rfl))
      try simp only [Act.put, List.setIfInBounds_toArray, List.set_cons_zero, List.set_cons_succ]
      refine wpAnyH_take (i := 4) (oi := { dst := some 22, op := Go.Op.nilCheck (Go.Operand.tmp 21), type := 0, pos := _, after := #[{ on := 3, ground := Go.Ground.data }], guard := none }) (v := ?vv16005) rfl (by kernel_rfl) (by kernel_rfl) (by kernel_rfl) (fun _ _ _ h => h) (Or.inl ⟨by rfl, ?hy16005⟩) (by assumption) ?tk16005
      case hy16005 => (intro w hSw; (try dsimp only at hSw); go_simp; (try with_reducible rfl))
      try simp only [Act.put, List.setIfInBounds_toArray, List.set_cons_zero, List.set_cons_succ]
      refine wpAnyH_take (i := 5) (oi := { dst := some 23, op := Go.Op.fieldAddr 75 (Go.Operand.tmp 22) 3, type := 0, pos := _, after := #[{ on := 4, ground := Go.Ground.data }], guard := none }) (v := ?vv16006) rfl (by kernel_rfl) (by kernel_rfl) (by kernel_rfl) (fun _ _ _ h => h) (Or.inl ⟨by rfl, ?hy16006⟩) (by assumption) ?tk16006
      case hy16006 => (intro w hSw; (try dsimp only at hSw); go_simp; (try with_reducible rfl))
      try simp only [Act.put, List.setIfInBounds_toArray, List.set_cons_zero, List.set_cons_succ]
      refine wpAnyH_take (i := 6) (oi := { dst := some 24, op := Go.Op.load 64 (Go.Operand.tmp 23), type := 64, pos := _, after := #[{ on := 5, ground := Go.Ground.data }], guard := none }) (v := ?vv16007) rfl (by kernel_rfl) (by kernel_rfl) (by kernel_rfl) (fun _ _ _ h => h) (Or.inl ⟨by rfl, ?hy16007⟩) (by assumption) ?tk16007
      case hy16007 => (intro w hSw; (try dsimp only at hSw); go_simp; (try with_reducible rfl))
      try simp only [Act.put, List.setIfInBounds_toArray, List.set_cons_zero, List.set_cons_succ]
      refine wpAnyH_take (i := 7) (oi := { dst := some 25, op := Go.Op.fieldAddr 38 (Go.Operand.tmp 6) 0, type := 0, pos := _, after := #[], guard := none }) (v := ?vv16008) rfl (by kernel_rfl) (by kernel_rfl) (by kernel_rfl) (fun _ _ _ h => h) (Or.inl ⟨by rfl, ?hy16008⟩) (by assumption) ?tk16008
      case hy16008 => (intro w hSw; (try dsimp only at hSw); go_simp; (try with_reducible rfl))
      try simp only [Act.put, List.setIfInBounds_toArray, List.set_cons_zero, List.set_cons_succ]
      refine wpAnyH_take (i := 8) (oi := { dst := some 26, op := Go.Op.load 9 (Go.Operand.tmp 25), type := 9, pos := _, after := #[{ on := 7, ground := Go.Ground.data }], guard := none }) (v := ?vv16009) rfl (by kernel_rfl) (by kernel_rfl) (by kernel_rfl) (fun _ _ _ h => h) (Or.inl ⟨by rfl, ?hy16009⟩) (by assumption) ?tk16009
      case hy16009 => (intro w hSw; (try dsimp only at hSw); go_simp; (try with_reducible rfl))
      try simp only [Act.put, List.setIfInBounds_toArray, List.set_cons_zero, List.set_cons_succ]
      refine wpAnyH_take (i := 9) (oi := { dst := some 27, op := Go.Op.lookup 64 (Go.Operand.tmp 24) (Go.Operand.tmp 26) true, type := 112, pos := _, after := #[{ on := 6, ground := Go.Ground.data }, { on := 8, ground := Go.Ground.data }], guard := none }) (v := ?vv16010) rfl (by kernel_rfl) (by kernel_rfl) (by kernel_rfl) (fun _ _ _ h => h) (Or.inl ⟨by rfl, ?hy16010⟩) (by assumption) ?tk16010
      case hy16010 => (intro w hSw; have hl7 := hlk w hSw.2.2.2; (try dsimp only at hSw); go_simp; (try with_reducible rfl))
      try simp only [Act.put, List.setIfInBounds_toArray, List.set_cons_zero, List.set_cons_succ]
      refine wpAnyH_take (i := 10) (oi := { dst := some 17, op := Go.Op.move (Go.Operand.tmp 27), type := 112, pos := _, after := #[{ on := 9, ground := Go.Ground.data }], guard := none }) (v := ?vv16011) rfl (by kernel_rfl) (by kernel_rfl) (by kernel_rfl) (fun _ _ _ h => h) (Or.inl ⟨by rfl, ?hy16011⟩) (by assumption) ?tk16011
      case hy16011 => (intro w hSw; (try dsimp only at hSw); go_simp; (try with_reducible rfl))
      try simp only [Act.put, List.setIfInBounds_toArray, List.set_cons_zero, List.set_cons_succ]
      refine wpAnyH_take (i := 11) (oi := { dst := some 28, op := Go.Op.extract (Go.Operand.tmp 17) 0, type := 89, pos := _, after := #[{ on := 10, ground := Go.Ground.data }], guard := none }) (v := ?vv16012) rfl (by kernel_rfl) (by kernel_rfl) (by kernel_rfl) (fun _ _ _ h => h) (Or.inl ⟨by rfl, ?hy16012⟩) (by assumption) ?tk16012
      case hy16012 => (intro w hSw; (try dsimp only at hSw); go_simp; (try with_reducible rfl))
      try simp only [Act.put, List.setIfInBounds_toArray, List.set_cons_zero, List.set_cons_succ]
      refine wpAnyH_take (i := 12) (oi := { dst := some 29, op := Go.Op.extract (Go.Operand.tmp 17) 1, type := 4, pos := _, after := #[{ on := 10, ground := Go.Ground.data }, { on := 13, ground := Go.Ground.gcOnly Go.Departure.lateStores }], guard := none }) (v := ?vv16013) rfl (by kernel_rfl) (by kernel_rfl) (by kernel_rfl) (fun _ _ _ h => h) (Or.inl ⟨by rfl, ?hy16013⟩) (by assumption) ?tk16013
      case hy16013 => (intro w hSw; (try dsimp only at hSw); go_simp; (try with_reducible rfl))
      try simp only [Act.put, List.setIfInBounds_toArray, List.set_cons_zero, List.set_cons_succ]
      refine wpAnyH_take (i := 13) (oi := { dst := some 7, op := Go.Op.assign (Go.Operand.tmp 28), type := 89, pos := _, after := #[{ on := 11, ground := Go.Ground.data }, { on := 0, ground := Go.Ground.phase }, { on := 1, ground := Go.Ground.phase }, { on := 2, ground := Go.Ground.phase }, { on := 3, ground := Go.Ground.phase }, { on := 4, ground := Go.Ground.phase }, { on := 5, ground := Go.Ground.phase }, { on := 6, ground := Go.Ground.phase }, { on := 7, ground := Go.Ground.phase }, { on := 8, ground := Go.Ground.phase }, { on := 9, ground := Go.Ground.phase }, { on := 10, ground := Go.Ground.phase }, { on := 11, ground := Go.Ground.phase }, { on := 12, ground := Go.Ground.textOnly Go.Departure.lateStores }], guard := none }) (v := ?vv16014) rfl (by kernel_rfl) (by kernel_rfl) (by kernel_rfl) (fun _ _ _ h => h) (Or.inl ⟨by rfl, ?hy16014⟩) (by assumption) ?tk16014
      case hy16014 => (intro w hSw; (try dsimp only at hSw); go_simp; (try with_reducible rfl))
      try simp only [Act.put, List.setIfInBounds_toArray, List.set_cons_zero, List.set_cons_succ]
      refine wpAnyH_take (i := 14) (oi := { dst := some 8, op := Go.Op.assign (Go.Operand.tmp 29), type := 4, pos := _, after := #[{ on := 12, ground := Go.Ground.data }, { on := 13, ground := Go.Ground.chain }, { on := 0, ground := Go.Ground.phase }, { on := 1, ground := Go.Ground.phase }, { on := 2, ground := Go.Ground.phase }, { on := 3, ground := Go.Ground.phase }, { on := 4, ground := Go.Ground.phase }, { on := 5, ground := Go.Ground.phase }, { on := 6, ground := Go.Ground.phase }, { on := 7, ground := Go.Ground.phase }, { on := 8, ground := Go.Ground.phase }, { on := 9, ground := Go.Ground.phase }, { on := 10, ground := Go.Ground.phase }, { on := 11, ground := Go.Ground.phase }, { on := 12, ground := Go.Ground.phase }, { on := 13, ground := Go.Ground.phase }], guard := none }) (v := ?vv16015) rfl (by kernel_rfl) (by kernel_rfl) (by kernel_rfl) (fun _ _ _ h => h) (Or.inl ⟨by rfl, ?hy16015⟩) (by assumption) ?tk16015
      case hy16015 => (intro w hSw; (try dsimp only at hSw); go_simp; (try with_reducible rfl))
      try simp only [Act.put, List.setIfInBounds_toArray, List.set_cons_zero, List.set_cons_succ]
      refine wpAnyH_done (by kernel_rfl) ?_ _
      have hge : ¬ ((ai : Int) < 0) := by omega
      by_cases hbig : 32 < ai
      · have hb1 : (ai : Int) > 32 := by omega
        have hb2 : (32 : Int) < (ai : Int) := by omega
        have hi1 : i = 1 := by
          have := HX.out.2.2.2.2.1
          split at this
          · assumption
          · omega
        subst hi1
        clear hadd
        go_wp2
        refine bodyPost_ret (v := .agg #[.int .u8 2, .int .i64 1, .int .i64 0]) ?_ rfl ?_
        · rw [results_one_cell rfl]
          go_simp
        · have hsA := HSA.out
          obtain ⟨T, WS, bP, hkey, hai, hnm, hc'⟩ := HX.out
          have hA33 : ai = A := hai
          refine ⟨fun _ => rfl, fun h => by omega, ?_⟩
          have W9 : Ws (fun q => q = E ∨ q = nb ∨ w.heap.size + 2 ≤ q) ((w.alloc (.cells #[.slice (some ⟨g, 0, none⟩) 2 2, .slice rp rn rc, .int .i64 1] 42)).alloc (.cells #[.int .u8 0, .int .i64 0, .int .i64 0] 45)) wd := WS.trans (Ws.of_below (by rw [hp6]; exact bP))
          have W10 : Ws (fun q => q = E ∨ q = nb) w wd := (Ws.of_below HB0.out).trans ⟨W9.os, W9.tape, W9.output, W9.size, fun q h1 h2 => W9.block q h1 (fun e => by rcases e with e | e | e; exact h2 (.inl e); exact h2 (.inr e); omega)⟩
          exact (((W10.drew).set (.inr (by omega))).set (.inr (by omega))).set (.inr (by omega))
      · have hb1 : ¬ ((ai : Int) > 32) := by omega
        have hb2 : ¬ ((32 : Int) < (ai : Int)) := by omega
        clear e6 hlk
        go_upto_region 7 with fail
        refine wp_region_l (l := 10) (S := (fun w' => w'.cell? ⟨CB, 0, none⟩ = some (.pointer (some ⟨E, 0, none⟩)) ∧ w'.cell? ⟨p6, 0, none⟩ = some (.string nm) ∧ w'.cell? ⟨p6, 1, none⟩ = some (.int .i64 (ai : Int)) ∧ w'.cell? ⟨p6, 2, none⟩ = some (.int .i64 0))) (by kernel_rfl) ⟨cb0, q0, q1, q2⟩ (fun hHeld => ?_)
        refine AnyL.take2 (i := 0) (oi := { dst := some 60, op := Go.Op.move (Go.Operand.tmp 0), type := 76, pos := _, after := #[], guard := none }) (v := ?vv16016) (by kernel_rfl) (by kernel_rfl) rfl (by kernel_rfl) (by kernel_rfl) (by kernel_rfl) (fun _ _ _ h => h) (Or.inl ⟨by rfl, ?hy16016⟩) (by assumption) ?tk16016
        case hy16016 => (intro w hSw; (try dsimp only at hSw); go_simp; (try with_reducible rfl))
        try simp only [Act.put, List.setIfInBounds_toArray, List.set_cons_zero, List.set_cons_succ]
        refine AnyL.take2 (i := 1) (oi := { dst := some 61, op := Go.Op.nilCheck (Go.Operand.tmp 60), type := 0, pos := _, after := #[{ on := 0, ground := Go.Ground.data }], guard := none }) (v := ?vv16017) (by kernel_rfl) (by kernel_rfl) rfl (by kernel_rfl) (by kernel_rfl) (by kernel_rfl) (fun _ _ _ h => h) (Or.inl ⟨by rfl, ?hy16017⟩) (by assumption) ?tk16017
        case hy16017 => (intro w hSw; (try dsimp only at hSw); go_simp; (try with_reducible rfl))
        try simp only [Act.put, List.setIfInBounds_toArray, List.set_cons_zero, List.set_cons_succ]
        refine AnyL.take2 (i := 2) (oi := { dst := some 62, op := Go.Op.fieldAddr 79 (Go.Operand.tmp 61) 0, type := 0, pos := _, after := #[{ on := 1, ground := Go.Ground.data }], guard := none }) (v := ?vv16018) (by kernel_rfl) (by kernel_rfl) rfl (by kernel_rfl) (by kernel_rfl) (by kernel_rfl) (fun _ _ _ h => h) (Or.inl ⟨by rfl, ?hy16018⟩) (by assumption) ?tk16018
        case hy16018 => (intro w hSw; (try dsimp only at hSw); go_simp; (try with_reducible rfl))
        try simp only [Act.put, List.setIfInBounds_toArray, List.set_cons_zero, List.set_cons_succ]
        refine AnyL.take2 (i := 3) (oi := { dst := some 63, op := Go.Op.load 43 (Go.Operand.tmp 62), type := 43, pos := _, after := #[{ on := 2, ground := Go.Ground.data }], guard := none }) (v := ?vv16019) (by kernel_rfl) (by kernel_rfl) rfl (by kernel_rfl) (by kernel_rfl) (by kernel_rfl) (fun _ _ _ h => h) (Or.inl ⟨by rfl, ?hy16019⟩) (by assumption) ?tk16019
        case hy16019 => (intro w hSw; (try dsimp only at hSw); go_simp; (try with_reducible rfl))
        try simp only [Act.put, List.setIfInBounds_toArray, List.set_cons_zero, List.set_cons_succ]
        refine AnyL.take2 (i := 4) (oi := { dst := some 64, op := Go.Op.fieldAddr 38 (Go.Operand.tmp 6) 0, type := 0, pos := _, after := #[], guard := none }) (v := ?vv16020) (by kernel_rfl) (by kernel_rfl) rfl (by kernel_rfl) (by kernel_rfl) (by kernel_rfl) (fun _ _ _ h => h) (Or.inl ⟨by rfl, ?hy16020⟩) (by assumption) ?tk16020
        case hy16020 => (intro w hSw; (try dsimp only at hSw); go_simp; (try with_reducible rfl))
        try simp only [Act.put, List.setIfInBounds_toArray, List.set_cons_zero, List.set_cons_succ]
        refine AnyL.take2 (i := 5) (oi := { dst := some 65, op := Go.Op.load 9 (Go.Operand.tmp 64), type := 9, pos := _, after := #[{ on := 4, ground := Go.Ground.data }], guard := none }) (v := ?vv16021) (by kernel_rfl) (by kernel_rfl) rfl (by kernel_rfl) (by kernel_rfl) (by kernel_rfl) (fun _ _ _ h => h) (Or.inl ⟨by rfl, ?hy16021⟩) (by assumption) ?tk16021
        case hy16021 => (intro w hSw; (try dsimp only at hSw); go_simp; (try with_reducible rfl))
        try simp only [Act.put, List.setIfInBounds_toArray, List.set_cons_zero, List.set_cons_succ]
        refine AnyL.take2 (i := 6) (oi := { dst := some 66, op := Go.Op.fieldAddr 38 (Go.Operand.tmp 6) 1, type := 0, pos := _, after := #[], guard := none }) (v := ?vv16022) (by kernel_rfl) (by kernel_rfl) rfl (by kernel_rfl) (by kernel_rfl) (by kernel_rfl) (fun _ _ _ h => h) (Or.inl ⟨by rfl, ?hy16022⟩) (by assumption) ?tk16022
        case hy16022 => (intro w hSw; (try dsimp only at hSw); go_simp; (try with_reducible rfl))
        try simp only [Act.put, List.setIfInBounds_toArray, List.set_cons_zero, List.set_cons_succ]
        refine AnyL.take2 (i := 7) (oi := { dst := some 67, op := Go.Op.load 3 (Go.Operand.tmp 66), type := 3, pos := _, after := #[{ on := 6, ground := Go.Ground.data }], guard := none }) (v := ?vv16023) (by kernel_rfl) (by kernel_rfl) rfl (by kernel_rfl) (by kernel_rfl) (by kernel_rfl) (fun _ _ _ h => h) (Or.inl ⟨by rfl, ?hy16023⟩) (by assumption) ?tk16023
        case hy16023 => (intro w hSw; (try dsimp only at hSw); go_simp; (try with_reducible rfl))
        try simp only [Act.put, List.setIfInBounds_toArray, List.set_cons_zero, List.set_cons_succ]
        refine AnyL.take2 (i := 8) (oi := { dst := some 68, op := Go.Op.fieldAddr 38 (Go.Operand.tmp 6) 2, type := 0, pos := _, after := #[], guard := none }) (v := ?vv16024) (by kernel_rfl) (by kernel_rfl) rfl (by kernel_rfl) (by kernel_rfl) (by kernel_rfl) (fun _ _ _ h => h) (Or.inl ⟨by rfl, ?hy16024⟩) (by assumption) ?tk16024
        case hy16024 => (intro w hSw; (try dsimp only at hSw); go_simp; (try with_reducible rfl))
        try simp only [Act.put, List.setIfInBounds_toArray, List.set_cons_zero, List.set_cons_succ]
        refine AnyL.take2 (i := 9) (oi := { dst := some 69, op := Go.Op.load 3 (Go.Operand.tmp 68), type := 3, pos := _, after := #[{ on := 8, ground := Go.Ground.data }], guard := none }) (v := ?vv16025) (by kernel_rfl) (by kernel_rfl) rfl (by kernel_rfl) (by kernel_rfl) (by kernel_rfl) (fun _ _ _ h => h) (Or.inl ⟨by rfl, ?hy16025⟩) (by assumption) ?tk16025
        case hy16025 => (intro w hSw; (try dsimp only at hSw); go_simp; (try with_reducible rfl))
        try simp only [Act.put, List.setIfInBounds_toArray, List.set_cons_zero, List.set_cons_succ]
        refine AnyL.last (o := { dst := some 70, op := Go.Op.call { callee := Go.Callee.value (Go.Operand.func 21), args := #[Go.Operand.tmp 63, Go.Operand.tmp 65, Go.Operand.tmp 67, Go.Operand.tmp 69], argTypes := #[43, 9, 3, 3] }, type := 89, pos := _, after := #[{ on := 3, ground := Go.Ground.data }, { on := 5, ground := Go.Ground.data }, { on := 7, ground := Go.Ground.data }, { on := 9, ground := Go.Ground.data }], guard := none }) (by kernel_rfl) rfl (by kernel_rfl) (fun K' hK' => ?_)
        go_simp
        go_at_call 21
        refine hadd.mono ?_
        rintro e w5 ⟨rfl, HR5, ⟨v5, HE5, own5, hv5, hvs5⟩, HN5, W5⟩
        have HX5 := hideIt (And.intro HR5 (And.intro HE5 (And.intro own5 (And.intro hv5 (And.intro hvs5 (And.intro HN5 W5))))))
        clear HR5 HE5 own5 hv5 hvs5 HN5 W5 hadd
        clear hHeld
        refine hK'.out _ _ ?_
        clear hK' K'
        try simp only [Act.put, List.setIfInBounds_toArray, List.set_cons_zero, List.set_cons_succ]
        go_wp2
        go_roundg (2 - (i + 1))
        case measure => omega
        case rel =>
          have hsA := HSA.out
          have hsD := HSD.out
          obtain ⟨T, WS, bP, hkey, hai, hnm, hc'⟩ := HX.out
          obtain ⟨HR5, HE5, own5, hv5, hvs5, HN5, W5⟩ := HX5.out
          have bP' : Below wr.heap.size wr wd := by rw [hp6]; exact bP
          have T' : Tab (World.drew (World.drew wd)) E nb (w.heap.size + 2) hb rb A i c' := (T.below bP').keep (fun q _ _ => rfl)
          have hs5 : (World.drew (World.drew wd)).heap.size = wd.heap.size := rfl
          have hsW5 := W5.size
          rw [← hnm, ← hkey] at HR5
          rw [← hkey] at HN5
          obtain ⟨hb', rb', T5⟩ := T'.next him (by omega) (by omega) (by omega) hai HR5 HE5 own5 hv5 HN5 W5 hvs5
          have W9 : Ws (fun q => q = E ∨ q = nb ∨ w.heap.size + 2 ≤ q) ((w.alloc (.cells #[.slice (some ⟨g, 0, none⟩) 2 2, .slice rp rn rc, .int .i64 1] 42)).alloc (.cells #[.int .u8 0, .int .i64 0, .int .i64 0] 45)) wd := WS.trans (Ws.of_below (by rw [hp6]; exact bP))
          refine ⟨i + 1, by omega, by go_num, ⟨hb', rb', _, T5, fun k hk => (updV_other c' v5 hk).trans (hc' k hk)⟩, W9.drew.drew.trans (W5.mono (fun q h1 h2 => ?_)), by omega, fun h => ?_⟩
          case refine_2 =>
            rw [if_pos (by omega)] at hai
            omega
          rcases h2 with h2 | h2 | h2
          · exact .inl h2
          · exact .inr (.inl h2)
          · exact .inr (.inr (T.own.lt q h2).1)
    · have e : i = 2 := by omega
      subst e
      obtain ⟨bA, T0, HC, HP, p0', p2, z0, z1, z2, zf⟩ := HQ.out
      have hsA := HSA.out
      have kpr : ∀ q, q < w.heap.size + 2 → q ≠ E → q ≠ nb → wr.heap[q]? = ((w.alloc (.cells #[.slice (some ⟨g, 0, none⟩) 2 2, .slice rp rn rc, .int .i64 1] 42)).alloc (.cells #[.int .u8 0, .int .i64 0, .int .i64 0] 45)).heap[q]? := fun q h1 h2 h3 => WS.block q (by omega) (fun e => by omega)
      have kz := kpr (w.heap.size + 1) (by omega) (by omega) (by omega)
      have y0 := (World.cell?_of_block (a := ⟨w.heap.size + 1, 0, none⟩) kz).trans z0
      have y1 := (World.cell?_of_block (a := ⟨w.heap.size + 1, 1, none⟩) kz).trans z1
      have y2 := (World.cell?_of_block (a := ⟨w.heap.size + 1, 2, none⟩) kz).trans z2
      have kp := kpr w.heap.size (by omega) (by omega) (by omega)
      have x2 := (World.cell?_of_block (a := ⟨w.heap.size, 2, none⟩) kp).trans p2
      have x0 := (World.cell?_of_block (a := ⟨w.heap.size, 0, none⟩) kp).trans p0'
      have yf : ∀ o, wr.frozen? ⟨w.heap.size + 1, o, none⟩ = false := fun o => (World.frozen?_of_block (a := ⟨w.heap.size + 1, o, none⟩) kz).trans (zf o)
      have HX := hideIt (And.intro T (And.intro WS hc'))
      clear bA T0 HC HP p0' p2 z0 z1 z2 zf hsA T WS kpr kz kp HQ p0
      go_wp2
      refine bodyPost_ret (v := .agg #[.int .u8 0, .int .i64 0, .int .i64 0]) ?_ rfl ?_
      · rw [results_one_cell rfl]
        go_simp
      · have hsA := HSA.out
        obtain ⟨T, W9, hc'⟩ := HX.out
        have hA32' := hA32 (by omega)
        have far : ∀ q, q ≠ w.heap.size + 1 → (((wr.setCell ⟨w.heap.size + 1, 0, none⟩ (.int .u8 0)).setCell ⟨w.heap.size + 1, 1, none⟩ (.int .i64 0)).setCell ⟨w.heap.size + 1, 2, none⟩ (.int .i64 0)).heap[q]? = wr.heap[q]? := fun q hq => (far_set hq).trans ((far_set hq).trans (far_set hq))
        have W10 : Ws (fun q => q = E ∨ q = nb) w wr := (Ws.of_below HB0.out).trans ⟨W9.os, W9.tape, W9.output, W9.size, fun q h1 h2 => W9.block q h1 (fun e => by rcases e with e | e | e; exact h2 (.inl e); exact h2 (.inr e); omega)⟩
        exact ⟨fun h => by omega, fun _ => ⟨rfl, hb, rb, c', T.keep (fun q h1 h2 => far q (by omega)), hc'⟩, ((W10.set (.inr (by omega))).set (.inr (by omega))).set (.inr (by omega))⟩
end Go.Proofs.Qxb6500880a
