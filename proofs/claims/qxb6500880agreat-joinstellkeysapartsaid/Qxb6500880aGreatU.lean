import Derived.Deep.CutBlock
import Derived.OwnWalk
import Derived.Maps.AppendAt
import Derived.Maps.OwnSet
import Derived.Maps.OwnOps
import Derived.Laws.ResultCell
import Derived.Test.Qxb6500880aGreatT
import Derived.Test.Qxb6500880aGreatW
set_option linter.unusedVariables false
set_option linter.unusedSimpArgs false
namespace Go.Proofs.Qxb6500880aGreat
open Go.RowKit

/-- The name of relation j. -/
def kf (j : Nat) : Fin 4 := ⟨j % 4, by omega⟩
/-- The predicate table's three rows: c, e, k. -/
structure PredsAt (w : World) (g : Nat) (ar : Nat → Nat) : Prop where
  c : ∀ i, i < 3 → w.cell? ⟨g, i * 3, none⟩ = some (.string (nmS (kf i))) ∧ w.cell? ⟨g, i * 3 + 1, none⟩ = some (.int .i64 (ar i : Int)) ∧ w.cell? ⟨g, i * 3 + 2, none⟩ = some (.int .i64 0)
def ptrL (rb : Nat → Nat) : Nat → List Value
  | 0 => []
  | i + 1 => ptrL rb i ++ [.pointer (some ⟨rb i, 0, none⟩)]
theorem ptrL_len (rb : Nat → Nat) : ∀ i, (ptrL rb i).length = i
  | 0 => rfl
  | i + 1 => by unfold ptrL; rw [List.length_append, ptrL_len rb i]; rfl
theorem ptrL_get (rb : Nat → Nat) : ∀ i j, j < i → (ptrL rb i)[j]? = some (.pointer (some ⟨rb j, 0, none⟩))
  | 0, j, h => by omega
  | i + 1, j, h => by
    have hl := ptrL_len rb i
    unfold ptrL
    by_cases q : j < i
    · rw [List.getElem?_append_left (by omega)]
      exact ptrL_get rb i j q
    · have e : j = i := by omega
      subst e
      rw [List.getElem?_append_right (by omega), hl, Nat.sub_self]
      rfl
def updN (f : Nat → Nat) (i x : Nat) : Nat → Nat := fun j => if j = i then x else f j
theorem updN_same (f : Nat → Nat) (i x : Nat) : updN f i x i = x := if_pos rfl
theorem updN_other (f : Nat → Nat) {i j : Nat} (x : Nat) (h : j ≠ i) : updN f i x j = f j := if_neg h
theorem ptrL_upd (rb : Nat → Nat) (i x : Nat) : ∀ k, k ≤ i → ptrL (updN rb i x) k = ptrL rb k
  | 0, _ => rfl
  | k + 1, h => by
    unfold ptrL
    rw [ptrL_upd rb i x k (by omega), updN_other rb x (by omega)]
def fnK (rb : Nat → Nat) (i : Nat) (k : Fin 4) : Option Nat := if k.val < i then some (rb k.val) else none
theorem fnK_put (rb : Nat → Nat) {i : Nat} (hi : i < 4) (b : Nat) : (fun j => if j = kf i then some b else fnK rb i j) = fnK (updN rb i b) (i + 1) := by
  funext k
  have e : (kf i).val = i := Nat.mod_eq_of_lt hi
  by_cases q : k = kf i
  · subst q
    rw [if_pos rfl]
    unfold fnK
    rw [e, if_pos (by omega), updN_same]
  · have q' : k.val ≠ i := fun z => q (Fin.ext (z.trans e.symm))
    rw [if_neg q]
    unfold fnK
    by_cases z : k.val < i
    · rw [if_pos z, if_pos (by omega), updN_other rb b q']
    · rw [if_neg z, if_neg (by omega)]
theorem fnK_in (rb : Nat → Nat) {i j : Nat} (h : j < i) (hj : j < 4) : fnK rb i (kf j) = some (rb j) := by
  have e : (kf j).val = j := Nat.mod_eq_of_lt hj
  unfold fnK
  rw [e, if_pos h]
theorem fnK_out (rb : Nat → Nat) {i : Nat} (hi : i < 4) : fnK rb i (kf i) = none := by
  have e : (kf i).val = i := Nat.mod_eq_of_lt hi
  unfold fnK
  rw [e, if_neg (by omega)]
theorem fnK_zero (rb : Nat → Nat) : fnK rb 0 = fun _ => none := by funext k; exact if_neg (by omega)
/-- The engine's relations, i of them entered. -/
structure Tab (w : World) (E nb base : Nat) (rb ar : Nat → Nat) (i : Nat) (c : Nat → Value) : Prop where
  e : EngAt w E c
  c6 : c 6 = .map (some nb)
  own : w.ownsRow base 99 1 (c 5) i (ptrL rb i)
  m : MapN w nb i (fnK rb i)
  r : ∀ j, j < i → RelAt w (rb j) (nmS (kf j)) (rel0 (ar j)) ∧ base ≤ rb j ∧ (c 5).ownBlock ≠ some (rb j)
  inj : ∀ j j', j < i → j' < i → rb j = rb j' → j = j'
theorem Tab.keep {w w' : World} {E nb base i : Nat} {rb ar : Nat → Nat} {c : Nat → Value} (h : Tab w E nb base rb ar i c) (hk : ∀ q, (q = E ∨ q = nb ∨ base ≤ q) → q < w.heap.size → w'.heap[q]? = w.heap[q]?) : Tab w' E nb base rb ar i c :=
  ⟨h.e.blk (hk E (.inl rfl) h.e.lt), h.c6, own_one h.own (fun q hq => hk q (.inr (.inr (h.own.lt q hq).1)) (h.own.lt q hq).2), h.m.blk (hk nb (.inr (.inl rfl)) h.m.lt), fun j hj => ⟨(h.r j hj).1.blk (hk (rb j) (.inr (.inr (h.r j hj).2.1)) (h.r j hj).1.lt), (h.r j hj).2⟩, h.inj⟩
theorem Tab.below {w w' : World} {E nb base i : Nat} {rb ar : Nat → Nat} {c : Nat → Value} (h : Tab w E nb base rb ar i c) (hb' : Below w.heap.size w w') : Tab w' E nb base rb ar i c := h.keep (fun q _ hl => hb'.block q hl)
theorem Tab.next {w w5 : World} {E nb base i : Nat} {rb ar : Nat → Nat} {c : Nat → Value} {v5 : Value} (T : Tab w E nb base rb ar i c) (hi : i < 4) (hbs : base ≤ w.heap.size) (hE : E < base) (hnb : nb < base) (HR : RelAt w5 w.heap.size (nmS (kf i)) (rel0 (ar i))) (HE : EngAt w5 E (updV c 5 v5)) (own : w5.ownsRow base 99 1 v5 (i + 1) (ptrL rb i ++ [.pointer (some ⟨w.heap.size, 0, none⟩)])) (hv : v5.ownBlock ≠ some w.heap.size) (HN : MapN w5 nb (i + 1) (fun j => if j = kf i then some w.heap.size else fnK rb i j)) (W : Ws (fun q => q = E ∨ q = nb ∨ (c 5).ownBlock = some q) w w5) (hvs : v5.ownBlock = (c 5).ownBlock ∨ ∀ q, v5.ownBlock = some q → w.heap.size ≤ q) :
    Tab w5 E nb base (updN rb i w.heap.size) ar (i + 1) (updV c 5 v5) := by
  have h5 : updV c 5 v5 5 = v5 := if_pos rfl
  have h6 : updV c 5 v5 6 = .map (some nb) := (if_neg (by omega)).trans T.c6
  rw [fnK_put rb hi] at HN
  refine ⟨HE, h6, ?_, HN, fun j hj => ?_, fun j j' hj hj' e => ?_⟩
  · rw [h5]
    unfold ptrL
    rw [ptrL_upd rb i _ i (Nat.le_refl _), updN_same]
    exact own
  · by_cases q : j = i
    · subst q
      rw [updN_same, h5]
      exact ⟨HR, hbs, hv⟩
    · obtain ⟨a1, a2, a3⟩ := T.r j (by omega)
      have hl := a1.lt
      rw [updN_other rb _ q, h5]
      refine ⟨a1.blk (W.block _ hl (fun e => ?_)), a2, fun e => ?_⟩
      · rcases e with e | e | e
        · omega
        · omega
        · exact a3 e
      · rcases hvs with z | z
        · exact a3 (z ▸ e)
        · have := z _ e
          omega
  · by_cases q : j = i <;> by_cases q' : j' = i
    · omega
    · rw [q, updN_same, updN_other rb _ q'] at e
      have := (T.r j' (by omega)).1.lt
      omega
    · rw [q', updN_same, updN_other rb _ q] at e
      have := (T.r j (by omega)).1.lt
      omega
    · rw [updN_other rb _ q, updN_other rb _ q'] at e
      exact T.inj j j' (by omega) (by omega) e
set_option maxRecDepth 20000 in
set_option maxHeartbeats 8000000 in
theorem table_any {w : World} {CB E nb g rn rc : Nat} {ar : Nat → Nat} {rp : Option Addr} {c : Nat → Value} (HE : EngAt w E c) (h5 : c 5 = .slice none 0 0) (h6 : c 6 = .map (some nb)) (HN : MapN w nb 0 (fun _ => none)) (HC : w.cell? ⟨CB, 0, none⟩ = some (.pointer (some ⟨E, 0, none⟩))) (HP : PredsAt w g ar) (hg : g ≠ E ∧ g ≠ nb ∧ CB ≠ E ∧ CB ≠ nb ∧ E ≠ nb) (hA : ∀ i, i < 3 → ar i ≤ 32) :
    Calls Tryz.prog 12 #[.pointer (some ⟨CB, 0, none⟩), .agg #[.slice (some ⟨g, 0, none⟩) 3 3, .slice rp rn rc, .int .i64 1]] w fun e w' => e = .returned (.agg #[.int .u8 0, .int .i64 0, .int .i64 0]) ∧ (∃ rb c', Tab w' E nb (w.heap.size + 2) rb ar 3 c' ∧ ∀ k, k ≠ 5 → c' k = c k) ∧ Ws (fun q => q = E ∨ q = nb) w w' := by
  obtain ⟨hg1, hg2, hg3, hg4, hg5⟩ := hg
  have hEl := HE.lt
  have hnl := HN.lt
  have hCl : CB < w.heap.size := World.block_lt_of_cell? _ _ HC
  have hgl : g < w.heap.size := World.block_lt_of_cell? _ _ (HP.c 0 (by omega)).1
  have bA : Below w.heap.size w ((w.alloc (.cells #[.slice (some ⟨g, 0, none⟩) 3 3, .slice rp rn rc, .int .i64 1] 57)).alloc (.cells #[.int .u8 0, .int .i64 0, .int .i64 0] 61)) := then_ (one_alloc _ _) (one_alloc _ _)
  have hsA : ((w.alloc (.cells #[.slice (some ⟨g, 0, none⟩) 3 3, .slice rp rn rc, .int .i64 1] 57)).alloc (.cells #[.int .u8 0, .int .i64 0, .int .i64 0] 61)).heap.size = w.heap.size + 1 + 1 := by simp
  have p0 : ((w.alloc (.cells #[.slice (some ⟨g, 0, none⟩) 3 3, .slice rp rn rc, .int .i64 1] 57)).alloc (.cells #[.int .u8 0, .int .i64 0, .int .i64 0] 61)).cell? ⟨w.heap.size, 0, none⟩ = some (.slice (some ⟨g, 0, none⟩) 3 3) := cell_later (one_alloc _ _) (by simp)
  have p2 : ((w.alloc (.cells #[.slice (some ⟨g, 0, none⟩) 3 3, .slice rp rn rc, .int .i64 1] 57)).alloc (.cells #[.int .u8 0, .int .i64 0, .int .i64 0] 61)).cell? ⟨w.heap.size, 2, none⟩ = some (.int .i64 1) := cell_later (one_alloc _ _) (by simp)
  have z0 : ((w.alloc (.cells #[.slice (some ⟨g, 0, none⟩) 3 3, .slice rp rn rc, .int .i64 1] 57)).alloc (.cells #[.int .u8 0, .int .i64 0, .int .i64 0] 61)).cell? ⟨w.heap.size + 1, 0, none⟩ = some (.int .u8 0) := new_cell (by simp) _ _ _
  have z1 : ((w.alloc (.cells #[.slice (some ⟨g, 0, none⟩) 3 3, .slice rp rn rc, .int .i64 1] 57)).alloc (.cells #[.int .u8 0, .int .i64 0, .int .i64 0] 61)).cell? ⟨w.heap.size + 1, 1, none⟩ = some (.int .i64 0) := new_cell (by simp) _ _ _
  have z2 : ((w.alloc (.cells #[.slice (some ⟨g, 0, none⟩) 3 3, .slice rp rn rc, .int .i64 1] 57)).alloc (.cells #[.int .u8 0, .int .i64 0, .int .i64 0] 61)).cell? ⟨w.heap.size + 1, 2, none⟩ = some (.int .i64 0) := new_cell (by simp) _ _ _
  have zf : ∀ o, ((w.alloc (.cells #[.slice (some ⟨g, 0, none⟩) 3 3, .slice rp rn rc, .int .i64 1] 57)).alloc (.cells #[.int .u8 0, .int .i64 0, .int .i64 0] 61)).frozen? ⟨w.heap.size + 1, o, none⟩ = false := fun o => new_frz (by simp) _ _ _
  have T0 : Tab ((w.alloc (.cells #[.slice (some ⟨g, 0, none⟩) 3 3, .slice rp rn rc, .int .i64 1] 57)).alloc (.cells #[.int .u8 0, .int .i64 0, .int .i64 0] 61)) E nb (w.heap.size + 2) (fun _ => 0) ar 0 c := ⟨HE.below bA, h6, ⟨rfl, .inl ⟨h5, rfl⟩⟩, by rw [fnK_zero]; exact HN.below bA, fun j h => by omega, fun j j' h => by omega⟩
  have HQ := hideIt (And.intro bA (And.intro T0 (And.intro HC (And.intro HP (And.intro p0 (And.intro p2 (And.intro z0 (And.intro z1 (And.intro z2 zf)))))))))
  have HSA := hideIt hsA
  have HB0 := hideIt bA
  clear HE h5 h6 HN HC HP bA T0 p2 z0 z1 z2 zf hsA
  go_enter Tryz.func12, Tryz.ntmps12
  go_wp2_with fail
  go_loopg [12] 3 (fun gg v wr => ∃ i : Nat, i + gg = 3 ∧ v = .int .i64 (i : Int) ∧ (∃ rb c', Tab wr E nb (w.heap.size + 2) rb ar i c' ∧ ∀ k, k ≠ 5 → c' k = c k) ∧ Ws (fun q => q = E ∨ q = nb ∨ w.heap.size + 2 ≤ q) ((w.alloc (.cells #[.slice (some ⟨g, 0, none⟩) 3 3, .slice rp rn rc, .int .i64 1] 57)).alloc (.cells #[.int .u8 0, .int .i64 0, .int .i64 0] 61)) wr ∧ w.heap.size + 2 ≤ wr.heap.size)
  case atStart => exact ⟨0, by omega, rfl, ⟨_, c, HQ.out.2.1, fun _ _ => rfl⟩, Ws.refl _ _, by have := HSA.out; omega⟩
  case round =>
    obtain ⟨i, hi, rfl, ⟨rb, c', T, hc'⟩, WS, hsr⟩ := hrel
    by_cases him : i < 3
    · obtain ⟨bA, T0, HC, HP, p0', p2, z0, z1, z2, zf⟩ := HQ.out
      have hsA := HSA.out
      have i0 : (0 : Int) ≤ i := by omega
      have i1 : (i : Int) < 3 := by omega
      have kpr : ∀ q, q < w.heap.size + 2 → q ≠ E → q ≠ nb → wr.heap[q]? = ((w.alloc (.cells #[.slice (some ⟨g, 0, none⟩) 3 3, .slice rp rn rc, .int .i64 1] 57)).alloc (.cells #[.int .u8 0, .int .i64 0, .int .i64 0] 61)).heap[q]? := fun q h1 h2 h3 => WS.block q (by omega) (fun e => by omega)
      have kpw : ∀ q, q < w.heap.size → q ≠ E → q ≠ nb → wr.heap[q]? = w.heap[q]? := fun q h1 h2 h3 => (kpr q (by omega) h2 h3).trans (bA.block q h1)
      obtain ⟨d0, d1, d2⟩ := HP.c i him
      have eg := kpw g hgl hg1 hg2
      have d0 := (World.cell?_of_block (a := ⟨g, i * 3, none⟩) eg).trans d0
      have d1 := (World.cell?_of_block (a := ⟨g, i * 3 + 1, none⟩) eg).trans d1
      have d2 := (World.cell?_of_block (a := ⟨g, i * 3 + 2, none⟩) eg).trans d2
      have hai9 := hA i him
      obtain ⟨ai, hai⟩ : ∃ ai, ar i = ai := ⟨_, rfl⟩
      rw [hai] at d1 hai9
      obtain ⟨key, hkey⟩ : ∃ key, kf i = key := ⟨_, rfl⟩
      rw [hkey] at d0
      have hnf := nm_full key
      obtain ⟨nm, hnm⟩ : ∃ nm, nmS key = nm := ⟨_, rfl⟩
      rw [hnm] at hnf d0
      have bP := one_alloc wr (.cells #[.string nm, .int .i64 (ai : Int), .int .i64 0] 50)
      have hfk : fnK rb i key = none := by rw [← hkey]; exact fnK_out rb (by omega)
      have hlk : ∀ w', w'.heap[nb]? = (wr.alloc (.cells #[.string nm, .int .i64 (ai : Int), .int .i64 0] 50)).heap[nb]? → (Instr.lookup 75 (.map (some nb)) (.string nm) true).run Tryz.prog w' = .ok (.tuple #[.pointer none, .bool false]) w' := fun w' e => by
        have := ((T.m.below bP).blk e).look key
        rw [hfk, hnm] at this
        exact this
      have cb0 := cell_later bP ((World.cell?_of_block (a := ⟨CB, 0, none⟩) (kpw CB hCl hg3 hg4)).trans HC)
      have e6 := cell_later bP (T.e.get T.c6 (by omega))
      have hadd := addRelation_any (w := World.drew (World.drew (wr.alloc (.cells #[.string nm, .int .i64 (ai : Int), .int .i64 0] 50)))) (A := ai) key ((T.e.below bP).blk rfl) T.c6 ((T.m.below bP).blk rfl) (own_one (T.own.alloc (.cells #[.string nm, .int .i64 (ai : Int), .int .i64 0] 50)) (fun _ _ => rfl)) (by omega) (by omega) (by show _ ≤ (wr.alloc (.cells #[.string nm, .int .i64 (ai : Int), .int .i64 0] 50)).heap.size; simp; omega) hg5 (by omega) (by omega)
      have kz := kpr (w.heap.size + 1) (by omega) (by omega) (by omega)
      have y0 := cell_later bP ((World.cell?_of_block (a := ⟨w.heap.size + 1, 0, none⟩) kz).trans z0)
      have y1 := cell_later bP ((World.cell?_of_block (a := ⟨w.heap.size + 1, 1, none⟩) kz).trans z1)
      have y2 := cell_later bP ((World.cell?_of_block (a := ⟨w.heap.size + 1, 2, none⟩) kz).trans z2)
      have kp := kpr w.heap.size (by omega) (by omega) (by omega)
      have x2 := cell_later bP ((World.cell?_of_block (a := ⟨w.heap.size, 2, none⟩) kp).trans p2)
      have yf : ∀ o, (wr.alloc (.cells #[.string nm, .int .i64 (ai : Int), .int .i64 0] 50)).frozen? ⟨w.heap.size + 1, o, none⟩ = false := fun o => (World.frozen?_of_block (a := ⟨w.heap.size + 1, o, none⟩) ((bP.block (w.heap.size + 1) (by omega)).trans kz)).trans (zf o)
      rw [hnm] at hadd
      have HX := hideIt (And.intro T (And.intro WS (And.intro bP (And.intro hkey (And.intro hai (And.intro hnm hc'))))))
      clear bA T0 HC HP p0' p2 z0 z1 z2 zf hsA T WS kpr kpw eg bP hkey hai hnm kz kp hfk HQ
      go_upto_region 4 with fail
      have q0 : (wr.alloc (.cells #[.string nm, .int .i64 (ai : Int), .int .i64 0] 50)).cell? ⟨wr.heap.size, 0, none⟩ = some (.string nm) := by simp
      have q1 : (wr.alloc (.cells #[.string nm, .int .i64 (ai : Int), .int .i64 0] 50)).cell? ⟨wr.heap.size, 1, none⟩ = some (.int .i64 (ai : Int)) := by simp
      have q2 : (wr.alloc (.cells #[.string nm, .int .i64 (ai : Int), .int .i64 0] 50)).cell? ⟨wr.heap.size, 2, none⟩ = some (.int .i64 0) := by simp
      have hsd : (wr.alloc (.cells #[.string nm, .int .i64 (ai : Int), .int .i64 0] 50)).heap.size = wr.heap.size + 1 := by simp
      have HSD := hideIt hsd
      clear hsd d0 d1 d2
      generalize wr.alloc (.cells #[.string nm, .int .i64 (ai : Int), .int .i64 0] 50) = wd at *
      generalize hp6 : wr.heap.size = p6 at *
      refine wp_region_held_drew (S := (fun w' => w'.cell? ⟨CB, 0, none⟩ = some (.pointer (some ⟨E, 0, none⟩)) ∧ w'.cell? ⟨E, 6, none⟩ = some (.map (some nb)) ∧ w'.cell? ⟨p6, 0, none⟩ = some (.string nm) ∧ w'.heap[nb]? = wd.heap[nb]?)) (by kernel_rfl) ⟨cb0, e6, q0, rfl⟩ (fun hHeld => ?_)
      refine wpAnyH_take (i := 0) (oi := { dst := some 18, op := Go.Op.move (Go.Operand.tmp 0), type := 87, pos := _, after := #[], guard := none }) (v := ?vv16001) rfl (by kernel_rfl) (by kernel_rfl) (by kernel_rfl) (fun _ _ _ h => h) (Or.inl ⟨by rfl, ?hy16001⟩) (by assumption) ?tk16001
      case hy16001 => (intro w hSw; (try dsimp only at hSw); go_simp; (try with_reducible rfl))
      try simp only [Act.put, List.setIfInBounds_toArray, List.set_cons_zero, List.set_cons_succ]
      refine wpAnyH_take (i := 1) (oi := { dst := some 19, op := Go.Op.nilCheck (Go.Operand.tmp 18), type := 0, pos := _, after := #[{ on := 0, ground := Go.Ground.data }], guard := none }) (v := ?vv16002) rfl (by kernel_rfl) (by kernel_rfl) (by kernel_rfl) (fun _ _ _ h => h) (Or.inl ⟨by rfl, ?hy16002⟩) (by assumption) ?tk16002
      case hy16002 => (intro w hSw; (try dsimp only at hSw); go_simp; (try with_reducible rfl))
      try simp only [Act.put, List.setIfInBounds_toArray, List.set_cons_zero, List.set_cons_succ]
      refine wpAnyH_take (i := 2) (oi := { dst := some 20, op := Go.Op.fieldAddr 90 (Go.Operand.tmp 19) 0, type := 0, pos := _, after := #[{ on := 1, ground := Go.Ground.data }], guard := none }) (v := ?vv16003) rfl (by kernel_rfl) (by kernel_rfl) (by kernel_rfl) (fun _ _ _ h => h) (Or.inl ⟨by rfl, ?hy16003⟩) (by assumption) ?tk16003
      case hy16003 => (intro w hSw; (try dsimp only at hSw); go_simp; (try with_reducible rfl))
      try simp only [Act.put, List.setIfInBounds_toArray, List.set_cons_zero, List.set_cons_succ]
      refine wpAnyH_take (i := 3) (oi := { dst := some 21, op := Go.Op.load 58 (Go.Operand.tmp 20), type := 58, pos := _, after := #[{ on := 2, ground := Go.Ground.data }], guard := none }) (v := ?vv16004) rfl (by kernel_rfl) (by kernel_rfl) (by kernel_rfl) (fun _ _ _ h => h) (Or.inl ⟨by rfl, ?hy16004⟩) (by assumption) ?tk16004
      case hy16004 => (intro w hSw; (try dsimp only at hSw); go_simp; (try with_reducible rfl))
      try simp only [Act.put, List.setIfInBounds_toArray, List.set_cons_zero, List.set_cons_succ]
      refine wpAnyH_take (i := 4) (oi := { dst := some 22, op := Go.Op.nilCheck (Go.Operand.tmp 21), type := 0, pos := _, after := #[{ on := 3, ground := Go.Ground.data }], guard := none }) (v := ?vv16005) rfl (by kernel_rfl) (by kernel_rfl) (by kernel_rfl) (fun _ _ _ h => h) (Or.inl ⟨by rfl, ?hy16005⟩) (by assumption) ?tk16005
      case hy16005 => (intro w hSw; (try dsimp only at hSw); go_simp; (try with_reducible rfl))
      try simp only [Act.put, List.setIfInBounds_toArray, List.set_cons_zero, List.set_cons_succ]
      refine wpAnyH_take (i := 5) (oi := { dst := some 23, op := Go.Op.fieldAddr 86 (Go.Operand.tmp 22) 3, type := 0, pos := _, after := #[{ on := 4, ground := Go.Ground.data }], guard := none }) (v := ?vv16006) rfl (by kernel_rfl) (by kernel_rfl) (by kernel_rfl) (fun _ _ _ h => h) (Or.inl ⟨by rfl, ?hy16006⟩) (by assumption) ?tk16006
      case hy16006 => (intro w hSw; (try dsimp only at hSw); go_simp; (try with_reducible rfl))
      try simp only [Act.put, List.setIfInBounds_toArray, List.set_cons_zero, List.set_cons_succ]
      refine wpAnyH_take (i := 6) (oi := { dst := some 24, op := Go.Op.load 75 (Go.Operand.tmp 23), type := 75, pos := _, after := #[{ on := 5, ground := Go.Ground.data }], guard := none }) (v := ?vv16007) rfl (by kernel_rfl) (by kernel_rfl) (by kernel_rfl) (fun _ _ _ h => h) (Or.inl ⟨by rfl, ?hy16007⟩) (by assumption) ?tk16007
      case hy16007 => (intro w hSw; (try dsimp only at hSw); go_simp; (try with_reducible rfl))
      try simp only [Act.put, List.setIfInBounds_toArray, List.set_cons_zero, List.set_cons_succ]
      refine wpAnyH_take (i := 7) (oi := { dst := some 25, op := Go.Op.fieldAddr 50 (Go.Operand.tmp 6) 0, type := 0, pos := _, after := #[], guard := none }) (v := ?vv16008) rfl (by kernel_rfl) (by kernel_rfl) (by kernel_rfl) (fun _ _ _ h => h) (Or.inl ⟨by rfl, ?hy16008⟩) (by assumption) ?tk16008
      case hy16008 => (intro w hSw; (try dsimp only at hSw); go_simp; (try with_reducible rfl))
      try simp only [Act.put, List.setIfInBounds_toArray, List.set_cons_zero, List.set_cons_succ]
      refine wpAnyH_take (i := 8) (oi := { dst := some 26, op := Go.Op.load 9 (Go.Operand.tmp 25), type := 9, pos := _, after := #[{ on := 7, ground := Go.Ground.data }], guard := none }) (v := ?vv16009) rfl (by kernel_rfl) (by kernel_rfl) (by kernel_rfl) (fun _ _ _ h => h) (Or.inl ⟨by rfl, ?hy16009⟩) (by assumption) ?tk16009
      case hy16009 => (intro w hSw; (try dsimp only at hSw); go_simp; (try with_reducible rfl))
      try simp only [Act.put, List.setIfInBounds_toArray, List.set_cons_zero, List.set_cons_succ]
      refine wpAnyH_take (i := 9) (oi := { dst := some 27, op := Go.Op.lookup 75 (Go.Operand.tmp 24) (Go.Operand.tmp 26) true, type := 117, pos := _, after := #[{ on := 6, ground := Go.Ground.data }, { on := 8, ground := Go.Ground.data }], guard := none }) (v := ?vv16010) rfl (by kernel_rfl) (by kernel_rfl) (by kernel_rfl) (fun _ _ _ h => h) (Or.inl ⟨by rfl, ?hy16010⟩) (by assumption) ?tk16010
      case hy16010 => (intro w hSw; have hl7 := hlk w hSw.2.2.2; (try dsimp only at hSw); go_simp; (try with_reducible rfl))
      try simp only [Act.put, List.setIfInBounds_toArray, List.set_cons_zero, List.set_cons_succ]
      refine wpAnyH_take (i := 10) (oi := { dst := some 17, op := Go.Op.move (Go.Operand.tmp 27), type := 117, pos := _, after := #[{ on := 9, ground := Go.Ground.data }], guard := none }) (v := ?vv16011) rfl (by kernel_rfl) (by kernel_rfl) (by kernel_rfl) (fun _ _ _ h => h) (Or.inl ⟨by rfl, ?hy16011⟩) (by assumption) ?tk16011
      case hy16011 => (intro w hSw; (try dsimp only at hSw); go_simp; (try with_reducible rfl))
      try simp only [Act.put, List.setIfInBounds_toArray, List.set_cons_zero, List.set_cons_succ]
      refine wpAnyH_take (i := 11) (oi := { dst := some 28, op := Go.Op.extract (Go.Operand.tmp 17) 0, type := 99, pos := _, after := #[{ on := 10, ground := Go.Ground.data }], guard := none }) (v := ?vv16012) rfl (by kernel_rfl) (by kernel_rfl) (by kernel_rfl) (fun _ _ _ h => h) (Or.inl ⟨by rfl, ?hy16012⟩) (by assumption) ?tk16012
      case hy16012 => (intro w hSw; (try dsimp only at hSw); go_simp; (try with_reducible rfl))
      try simp only [Act.put, List.setIfInBounds_toArray, List.set_cons_zero, List.set_cons_succ]
      refine wpAnyH_take (i := 12) (oi := { dst := some 29, op := Go.Op.extract (Go.Operand.tmp 17) 1, type := 4, pos := _, after := #[{ on := 10, ground := Go.Ground.data }, { on := 13, ground := Go.Ground.gcOnly Go.Departure.lateStores }], guard := none }) (v := ?vv16013) rfl (by kernel_rfl) (by kernel_rfl) (by kernel_rfl) (fun _ _ _ h => h) (Or.inl ⟨by rfl, ?hy16013⟩) (by assumption) ?tk16013
      case hy16013 => (intro w hSw; (try dsimp only at hSw); go_simp; (try with_reducible rfl))
      try simp only [Act.put, List.setIfInBounds_toArray, List.set_cons_zero, List.set_cons_succ]
      refine wpAnyH_take (i := 13) (oi := { dst := some 7, op := Go.Op.assign (Go.Operand.tmp 28), type := 99, pos := _, after := #[{ on := 11, ground := Go.Ground.data }, { on := 0, ground := Go.Ground.phase }, { on := 1, ground := Go.Ground.phase }, { on := 2, ground := Go.Ground.phase }, { on := 3, ground := Go.Ground.phase }, { on := 4, ground := Go.Ground.phase }, { on := 5, ground := Go.Ground.phase }, { on := 6, ground := Go.Ground.phase }, { on := 7, ground := Go.Ground.phase }, { on := 8, ground := Go.Ground.phase }, { on := 9, ground := Go.Ground.phase }, { on := 10, ground := Go.Ground.phase }, { on := 11, ground := Go.Ground.phase }, { on := 12, ground := Go.Ground.textOnly Go.Departure.lateStores }], guard := none }) (v := ?vv16014) rfl (by kernel_rfl) (by kernel_rfl) (by kernel_rfl) (fun _ _ _ h => h) (Or.inl ⟨by rfl, ?hy16014⟩) (by assumption) ?tk16014
      case hy16014 => (intro w hSw; (try dsimp only at hSw); go_simp; (try with_reducible rfl))
      try simp only [Act.put, List.setIfInBounds_toArray, List.set_cons_zero, List.set_cons_succ]
      refine wpAnyH_take (i := 14) (oi := { dst := some 8, op := Go.Op.assign (Go.Operand.tmp 29), type := 4, pos := _, after := #[{ on := 12, ground := Go.Ground.data }, { on := 13, ground := Go.Ground.chain }, { on := 0, ground := Go.Ground.phase }, { on := 1, ground := Go.Ground.phase }, { on := 2, ground := Go.Ground.phase }, { on := 3, ground := Go.Ground.phase }, { on := 4, ground := Go.Ground.phase }, { on := 5, ground := Go.Ground.phase }, { on := 6, ground := Go.Ground.phase }, { on := 7, ground := Go.Ground.phase }, { on := 8, ground := Go.Ground.phase }, { on := 9, ground := Go.Ground.phase }, { on := 10, ground := Go.Ground.phase }, { on := 11, ground := Go.Ground.phase }, { on := 12, ground := Go.Ground.phase }, { on := 13, ground := Go.Ground.phase }], guard := none }) (v := ?vv16015) rfl (by kernel_rfl) (by kernel_rfl) (by kernel_rfl) (fun _ _ _ h => h) (Or.inl ⟨by rfl, ?hy16015⟩) (by assumption) ?tk16015
      case hy16015 => (intro w hSw; (try dsimp only at hSw); go_simp; (try with_reducible rfl))
      try simp only [Act.put, List.setIfInBounds_toArray, List.set_cons_zero, List.set_cons_succ]
      refine wpAnyH_done (by kernel_rfl) ?_ _
      have hge : ¬ ((ai : Int) < 0) := by omega
      have hb1 : ¬ ((ai : Int) > 32) := by omega
      have hb2 : ¬ ((32 : Int) < (ai : Int)) := by omega
      clear e6 hlk
      go_upto_region 7 with fail
      refine wp_region_l (l := 10) (S := (fun w' => w'.cell? ⟨CB, 0, none⟩ = some (.pointer (some ⟨E, 0, none⟩)) ∧ w'.cell? ⟨p6, 0, none⟩ = some (.string nm) ∧ w'.cell? ⟨p6, 1, none⟩ = some (.int .i64 (ai : Int)) ∧ w'.cell? ⟨p6, 2, none⟩ = some (.int .i64 0))) (by kernel_rfl) ⟨cb0, q0, q1, q2⟩ (fun hHeld => ?_)
      refine AnyL.take2 (i := 0) (oi := { dst := some 60, op := Go.Op.move (Go.Operand.tmp 0), type := 87, pos := _, after := #[], guard := none }) (v := ?vv16016) (by kernel_rfl) (by kernel_rfl) rfl (by kernel_rfl) (by kernel_rfl) (by kernel_rfl) (fun _ _ _ h => h) (Or.inl ⟨by rfl, ?hy16016⟩) (by assumption) ?tk16016
      case hy16016 => (intro w hSw; (try dsimp only at hSw); go_simp; (try with_reducible rfl))
      try simp only [Act.put, List.setIfInBounds_toArray, List.set_cons_zero, List.set_cons_succ]
      refine AnyL.take2 (i := 1) (oi := { dst := some 61, op := Go.Op.nilCheck (Go.Operand.tmp 60), type := 0, pos := _, after := #[{ on := 0, ground := Go.Ground.data }], guard := none }) (v := ?vv16017) (by kernel_rfl) (by kernel_rfl) rfl (by kernel_rfl) (by kernel_rfl) (by kernel_rfl) (fun _ _ _ h => h) (Or.inl ⟨by rfl, ?hy16017⟩) (by assumption) ?tk16017
      case hy16017 => (intro w hSw; (try dsimp only at hSw); go_simp; (try with_reducible rfl))
      try simp only [Act.put, List.setIfInBounds_toArray, List.set_cons_zero, List.set_cons_succ]
      refine AnyL.take2 (i := 2) (oi := { dst := some 62, op := Go.Op.fieldAddr 90 (Go.Operand.tmp 61) 0, type := 0, pos := _, after := #[{ on := 1, ground := Go.Ground.data }], guard := none }) (v := ?vv16018) (by kernel_rfl) (by kernel_rfl) rfl (by kernel_rfl) (by kernel_rfl) (by kernel_rfl) (fun _ _ _ h => h) (Or.inl ⟨by rfl, ?hy16018⟩) (by assumption) ?tk16018
      case hy16018 => (intro w hSw; (try dsimp only at hSw); go_simp; (try with_reducible rfl))
      try simp only [Act.put, List.setIfInBounds_toArray, List.set_cons_zero, List.set_cons_succ]
      refine AnyL.take2 (i := 3) (oi := { dst := some 63, op := Go.Op.load 58 (Go.Operand.tmp 62), type := 58, pos := _, after := #[{ on := 2, ground := Go.Ground.data }], guard := none }) (v := ?vv16019) (by kernel_rfl) (by kernel_rfl) rfl (by kernel_rfl) (by kernel_rfl) (by kernel_rfl) (fun _ _ _ h => h) (Or.inl ⟨by rfl, ?hy16019⟩) (by assumption) ?tk16019
      case hy16019 => (intro w hSw; (try dsimp only at hSw); go_simp; (try with_reducible rfl))
      try simp only [Act.put, List.setIfInBounds_toArray, List.set_cons_zero, List.set_cons_succ]
      refine AnyL.take2 (i := 4) (oi := { dst := some 64, op := Go.Op.fieldAddr 50 (Go.Operand.tmp 6) 0, type := 0, pos := _, after := #[], guard := none }) (v := ?vv16020) (by kernel_rfl) (by kernel_rfl) rfl (by kernel_rfl) (by kernel_rfl) (by kernel_rfl) (fun _ _ _ h => h) (Or.inl ⟨by rfl, ?hy16020⟩) (by assumption) ?tk16020
      case hy16020 => (intro w hSw; (try dsimp only at hSw); go_simp; (try with_reducible rfl))
      try simp only [Act.put, List.setIfInBounds_toArray, List.set_cons_zero, List.set_cons_succ]
      refine AnyL.take2 (i := 5) (oi := { dst := some 65, op := Go.Op.load 9 (Go.Operand.tmp 64), type := 9, pos := _, after := #[{ on := 4, ground := Go.Ground.data }], guard := none }) (v := ?vv16021) (by kernel_rfl) (by kernel_rfl) rfl (by kernel_rfl) (by kernel_rfl) (by kernel_rfl) (fun _ _ _ h => h) (Or.inl ⟨by rfl, ?hy16021⟩) (by assumption) ?tk16021
      case hy16021 => (intro w hSw; (try dsimp only at hSw); go_simp; (try with_reducible rfl))
      try simp only [Act.put, List.setIfInBounds_toArray, List.set_cons_zero, List.set_cons_succ]
      refine AnyL.take2 (i := 6) (oi := { dst := some 66, op := Go.Op.fieldAddr 50 (Go.Operand.tmp 6) 1, type := 0, pos := _, after := #[], guard := none }) (v := ?vv16022) (by kernel_rfl) (by kernel_rfl) rfl (by kernel_rfl) (by kernel_rfl) (by kernel_rfl) (fun _ _ _ h => h) (Or.inl ⟨by rfl, ?hy16022⟩) (by assumption) ?tk16022
      case hy16022 => (intro w hSw; (try dsimp only at hSw); go_simp; (try with_reducible rfl))
      try simp only [Act.put, List.setIfInBounds_toArray, List.set_cons_zero, List.set_cons_succ]
      refine AnyL.take2 (i := 7) (oi := { dst := some 67, op := Go.Op.load 3 (Go.Operand.tmp 66), type := 3, pos := _, after := #[{ on := 6, ground := Go.Ground.data }], guard := none }) (v := ?vv16023) (by kernel_rfl) (by kernel_rfl) rfl (by kernel_rfl) (by kernel_rfl) (by kernel_rfl) (fun _ _ _ h => h) (Or.inl ⟨by rfl, ?hy16023⟩) (by assumption) ?tk16023
      case hy16023 => (intro w hSw; (try dsimp only at hSw); go_simp; (try with_reducible rfl))
      try simp only [Act.put, List.setIfInBounds_toArray, List.set_cons_zero, List.set_cons_succ]
      refine AnyL.take2 (i := 8) (oi := { dst := some 68, op := Go.Op.fieldAddr 50 (Go.Operand.tmp 6) 2, type := 0, pos := _, after := #[], guard := none }) (v := ?vv16024) (by kernel_rfl) (by kernel_rfl) rfl (by kernel_rfl) (by kernel_rfl) (by kernel_rfl) (fun _ _ _ h => h) (Or.inl ⟨by rfl, ?hy16024⟩) (by assumption) ?tk16024
      case hy16024 => (intro w hSw; (try dsimp only at hSw); go_simp; (try with_reducible rfl))
      try simp only [Act.put, List.setIfInBounds_toArray, List.set_cons_zero, List.set_cons_succ]
      refine AnyL.take2 (i := 9) (oi := { dst := some 69, op := Go.Op.load 3 (Go.Operand.tmp 68), type := 3, pos := _, after := #[{ on := 8, ground := Go.Ground.data }], guard := none }) (v := ?vv16025) (by kernel_rfl) (by kernel_rfl) rfl (by kernel_rfl) (by kernel_rfl) (by kernel_rfl) (fun _ _ _ h => h) (Or.inl ⟨by rfl, ?hy16025⟩) (by assumption) ?tk16025
      case hy16025 => (intro w hSw; (try dsimp only at hSw); go_simp; (try with_reducible rfl))
      try simp only [Act.put, List.setIfInBounds_toArray, List.set_cons_zero, List.set_cons_succ]
      refine AnyL.last (o := { dst := some 70, op := Go.Op.call { callee := Go.Callee.value (Go.Operand.func 24), args := #[Go.Operand.tmp 63, Go.Operand.tmp 65, Go.Operand.tmp 67, Go.Operand.tmp 69], argTypes := #[58, 9, 3, 3] }, type := 99, pos := _, after := #[{ on := 3, ground := Go.Ground.data }, { on := 5, ground := Go.Ground.data }, { on := 7, ground := Go.Ground.data }, { on := 9, ground := Go.Ground.data }], guard := none }) (by kernel_rfl) rfl (by kernel_rfl) (fun K' hK' => ?_)
      go_simp
      go_at_call 24
      refine hadd.mono ?_
      rintro e w5 ⟨rfl, HR5, ⟨v5, HE5, own5, hv5, hvs5⟩, HN5, W5⟩
      have HX5 := hideIt (And.intro HR5 (And.intro HE5 (And.intro own5 (And.intro hv5 (And.intro hvs5 (And.intro HN5 W5))))))
      clear HR5 HE5 own5 hv5 hvs5 HN5 W5 hadd
      clear hHeld
      refine hK'.out _ _ ?_
      clear hK' K'
      try simp only [Act.put, List.setIfInBounds_toArray, List.set_cons_zero, List.set_cons_succ]
      go_wp2
      go_roundg (3 - (i + 1))
      case measure => omega
      case rel =>
        have hsA := HSA.out
        have hsD := HSD.out
        obtain ⟨T, WS, bP, hkey, hai, hnm, hc'⟩ := HX.out
        obtain ⟨HR5, HE5, own5, hv5, hvs5, HN5, W5⟩ := HX5.out
        have bP' : Below wr.heap.size wr wd := by rw [hp6]; exact bP
        have T' : Tab (World.drew (World.drew wd)) E nb (w.heap.size + 2) rb ar i c' := (T.below bP').keep (fun q _ _ => rfl)
        have hs5 : (World.drew (World.drew wd)).heap.size = wd.heap.size := rfl
        have hsW5 := W5.size
        rw [← hnm, ← hkey, ← hai] at HR5
        rw [← hkey] at HN5
        have T5 := T'.next (by omega) (by omega) (by omega) (by omega) HR5 HE5 own5 hv5 HN5 W5 hvs5
        have W9 : Ws (fun q => q = E ∨ q = nb ∨ w.heap.size + 2 ≤ q) ((w.alloc (.cells #[.slice (some ⟨g, 0, none⟩) 3 3, .slice rp rn rc, .int .i64 1] 57)).alloc (.cells #[.int .u8 0, .int .i64 0, .int .i64 0] 61)) wd := WS.trans (Ws.of_below (by rw [hp6]; exact bP))
        refine ⟨i + 1, by omega, by go_num, ⟨_, _, T5, fun k hk => (updV_other c' v5 hk).trans (hc' k hk)⟩, W9.drew.drew.trans (W5.mono (fun q h1 h2 => ?_)), by omega⟩
        rcases h2 with h2 | h2 | h2
        · exact .inl h2
        · exact .inr (.inl h2)
        · exact .inr (.inr (T.own.lt q h2).1)
    · have e : i = 3 := by omega
      subst e
      obtain ⟨bA, T0, HC, HP, p0', p2, z0, z1, z2, zf⟩ := HQ.out
      have hsA := HSA.out
      have kpr : ∀ q, q < w.heap.size + 2 → q ≠ E → q ≠ nb → wr.heap[q]? = ((w.alloc (.cells #[.slice (some ⟨g, 0, none⟩) 3 3, .slice rp rn rc, .int .i64 1] 57)).alloc (.cells #[.int .u8 0, .int .i64 0, .int .i64 0] 61)).heap[q]? := fun q h1 h2 h3 => WS.block q (by omega) (fun e => by omega)
      have kz := kpr (w.heap.size + 1) (by omega) (by omega) (by omega)
      have y0 := (World.cell?_of_block (a := ⟨w.heap.size + 1, 0, none⟩) kz).trans z0
      have y1 := (World.cell?_of_block (a := ⟨w.heap.size + 1, 1, none⟩) kz).trans z1
      have y2 := (World.cell?_of_block (a := ⟨w.heap.size + 1, 2, none⟩) kz).trans z2
      have kp := kpr w.heap.size (by omega) (by omega) (by omega)
      have x2 := (World.cell?_of_block (a := ⟨w.heap.size, 2, none⟩) kp).trans p2
      have x0 := (World.cell?_of_block (a := ⟨w.heap.size, 0, none⟩) kp).trans p0'
      have yf : ∀ o, wr.frozen? ⟨w.heap.size + 1, o, none⟩ = false := fun o => (World.frozen?_of_block (a := ⟨w.heap.size + 1, o, none⟩) kz).trans (zf o)
      have HX := hideIt (And.intro T (And.intro WS hc'))
      clear bA T0 HC HP p0' p2 z0 z1 z2 zf hsA T WS kpr kz kp HQ p0
      go_wp2
      refine bodyPost_ret (v := .agg #[.int .u8 0, .int .i64 0, .int .i64 0]) ?_ rfl ?_
      · rw [results_one_cell rfl]
        go_simp
      · have hsA := HSA.out
        obtain ⟨T, W9, hc'⟩ := HX.out
        have far : ∀ q, q ≠ w.heap.size + 1 → (((wr.setCell ⟨w.heap.size + 1, 0, none⟩ (.int .u8 0)).setCell ⟨w.heap.size + 1, 1, none⟩ (.int .i64 0)).setCell ⟨w.heap.size + 1, 2, none⟩ (.int .i64 0)).heap[q]? = wr.heap[q]? := fun q hq => (far_set hq).trans ((far_set hq).trans (far_set hq))
        have W10 : Ws (fun q => q = E ∨ q = nb) w wr := (Ws.of_below HB0.out).trans ⟨W9.os, W9.tape, W9.output, W9.size, fun q h1 h2 => W9.block q h1 (fun e => by rcases e with e | e | e; exact h2 (.inl e); exact h2 (.inr e); omega)⟩
        exact ⟨rfl, ⟨rb, c', T.keep (fun q h1 h2 => far q (by omega)), hc'⟩, ((W10.set (.inr (by omega))).set (.inr (by omega))).set (.inr (by omega))⟩
end Go.Proofs.Qxb6500880aGreat
