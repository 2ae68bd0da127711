import Derived.Deep.CutBlock
import Derived.OwnWalk
import Derived.Maps.AppendAt
import Derived.Maps.OwnSet
import Derived.Maps.OwnOps
import Derived.Laws.ResultCell
import Derived.Test.Qxb6500880aV
set_option linter.unusedVariables false
set_option linter.unusedSimpArgs false
namespace Go.Proofs.Qxb6500880a
open Go.RowKit

/-- P holds, and goes on to hold as long as only blocks of S are written. -/
def Kp (S : Nat → Prop) (w : World) (P : World → Prop) : Prop := ∀ wx : World, (∀ q, q < w.heap.size → ¬ S q → wx.heap[q]? = w.heap[q]?) → P wx
theorem Kp.at {S : Nat → Prop} {w : World} {P : World → Prop} (h : Kp S w P) : P w := h w (fun _ _ _ => rfl)
theorem Kp.ws {S : Nat → Prop} {w w' : World} {P : World → Prop} (h : Kp S w P) (W : Ws S w w') : Kp S w' P := fun wx hx => h wx (fun q h1 h2 => (hx q (Nat.lt_of_lt_of_le h1 W.size) h2).trans (W.block q h1 h2))
theorem Kp.below {S : Nat → Prop} {w w' : World} {P : World → Prop} (h : Kp S w P) (W : Below w.heap.size w w') : Kp S w' P := h.ws (Ws.of_below W)
theorem Kp.and {S : Nat → Prop} {w : World} {P Q : World → Prop} (h : Kp S w P) (g : Kp S w Q) : Kp S w (fun w => P w ∧ Q w) := fun wx hx => ⟨h wx hx, g wx hx⟩
theorem Kp.mono {S : Nat → Prop} {w : World} {P Q : World → Prop} (h : Kp S w P) (g : ∀ w, P w → Q w) : Kp S w Q := fun wx hx => g wx (h wx hx)
theorem Kp.cell {S : Nat → Prop} {w : World} {b o : Nat} {v : Value} (h : w.cell? ⟨b, o, none⟩ = some v) (hS : ¬ S b) : Kp S w (fun w => w.cell? ⟨b, o, none⟩ = some v) := fun wx hx => (World.cell?_of_block (a := ⟨b, o, none⟩) (hx b (World.block_lt_of_cell? _ _ h) hS)).trans h
/-- The registers: all of them zero. -/
structure RegZ (w : World) (GR R : Nat) : Prop where
  c : ∀ j, j < R → w.cell? ⟨GR, j, none⟩ = some (.int .u32 0)
  fz : ∀ o, w.frozen? ⟨GR, o, none⟩ = false
theorem RegZ.blk {w w' : World} {GR R : Nat} (h : RegZ w GR R) (e : w'.heap[GR]? = w.heap[GR]?) : RegZ w' GR R :=
  ⟨fun j hj => (World.cell?_of_block (a := ⟨GR, j, none⟩) e).trans (h.c j hj), fun o => (World.frozen?_of_block (a := ⟨GR, o, none⟩) e).trans (h.fz o)⟩
set_option maxRecDepth 20000 in
set_option maxHeartbeats 8000000 in
theorem value_any {w : World} {E GR R r : Nat} (hE : w.cell? ⟨E, 21, none⟩ = some (.slice (some ⟨GR, 0, none⟩) R R)) (HR : RegZ w GR R) (hr : r < R) (hR : R ≤ 1000) :
    Calls Try.prog 72 #[.pointer (some ⟨E, 0, none⟩), .agg #[.int .i64 (r : Int), .int .u32 0]] w fun e w' => e = .returned (.int .u32 0) ∧ Below w.heap.size w w' := by
  have r0 : (0 : Int) ≤ r := by omega
  have r1 : (r : Int) < (R : Int) := by omega
  have r2 : ((r : Int) == -1) = false := by simp
  have bA := one_alloc w (.cells #[.int .i64 (r : Int), .int .u32 0] 120)
  have k0 := cell_later bA hE
  have k1 : (w.alloc (.cells #[.int .i64 (r : Int), .int .u32 0] 120)).cell? ⟨w.heap.size, 0, none⟩ = some (.int .i64 (r : Int)) := by simp
  have k2 := cell_later bA (HR.c r hr)
  have HB := hideIt bA
  clear bA HR
  go_enter Try.func72, Try.ntmps72
  go_upto_region 3 with fail
  generalize w.alloc (.cells #[.int .i64 (r : Int), .int .u32 0] 120) = w1 at *
  refine wp_region_held_drew (S := (fun w' => w'.cell? ⟨E, 21, none⟩ = some (.slice (some ⟨GR, 0, none⟩) R R) ∧ w'.cell? ⟨w.heap.size, 0, none⟩ = some (.int .i64 (r : Int)) ∧ w'.cell? ⟨GR, r, none⟩ = some (.int .u32 0))) (by kernel_rfl) ⟨k0, k1, k2⟩ (fun hHeld => ?_)
  refine wpAnyH_take (i := 0) (oi := { dst := some 10, op := Go.Op.move (Go.Operand.tmp 0), type := 43, pos := _, after := #[], guard := none }) (v := ?vv20001) rfl (by kernel_rfl) (by kernel_rfl) (by kernel_rfl) (fun _ _ _ h => h) (Or.inl ⟨by rfl, ?hy20001⟩) (by assumption) ?tk20001
  case hy20001 => (intro w hSw; (try dsimp only at hSw); go_simp; (try with_reducible rfl))
  try simp only [Act.put, List.setIfInBounds_toArray, List.set_cons_zero, List.set_cons_succ]
  refine wpAnyH_take (i := 1) (oi := { dst := some 11, op := Go.Op.nilCheck (Go.Operand.tmp 10), type := 0, pos := _, after := #[{ on := 0, ground := Go.Ground.data }], guard := none }) (v := ?vv20002) rfl (by kernel_rfl) (by kernel_rfl) (by kernel_rfl) (fun _ _ _ h => h) (Or.inl ⟨by rfl, ?hy20002⟩) (by assumption) ?tk20002
  case hy20002 => (intro w hSw; (try dsimp only at hSw); go_simp; (try with_reducible rfl))
  try simp only [Act.put, List.setIfInBounds_toArray, List.set_cons_zero, List.set_cons_succ]
  refine wpAnyH_take (i := 2) (oi := { dst := some 12, op := Go.Op.fieldAddr 75 (Go.Operand.tmp 11) 11, type := 0, pos := _, after := #[{ on := 1, ground := Go.Ground.data }], guard := none }) (v := ?vv20003) rfl (by kernel_rfl) (by kernel_rfl) (by kernel_rfl) (fun _ _ _ h => h) (Or.inl ⟨by rfl, ?hy20003⟩) (by assumption) ?tk20003
  case hy20003 => (intro w hSw; (try dsimp only at hSw); go_simp; (try with_reducible rfl))
  try simp only [Act.put, List.setIfInBounds_toArray, List.set_cons_zero, List.set_cons_succ]
  refine wpAnyH_take (i := 3) (oi := { dst := some 13, op := Go.Op.load 72 (Go.Operand.tmp 12), type := 72, pos := _, after := #[{ on := 2, ground := Go.Ground.data }], guard := none }) (v := ?vv20004) rfl (by kernel_rfl) (by kernel_rfl) (by kernel_rfl) (fun _ _ _ h => h) (Or.inl ⟨by rfl, ?hy20004⟩) (by assumption) ?tk20004
  case hy20004 => (intro w hSw; (try dsimp only at hSw); go_simp; (try with_reducible rfl))
  try simp only [Act.put, List.setIfInBounds_toArray, List.set_cons_zero, List.set_cons_succ]
  refine wpAnyH_take (i := 4) (oi := { dst := some 14, op := Go.Op.fieldAddr 120 (Go.Operand.tmp 3) 0, type := 0, pos := _, after := #[], guard := none }) (v := ?vv20005) rfl (by kernel_rfl) (by kernel_rfl) (by kernel_rfl) (fun _ _ _ h => h) (Or.inl ⟨by rfl, ?hy20005⟩) (by assumption) ?tk20005
  case hy20005 => (intro w hSw; (try dsimp only at hSw); go_simp; (try with_reducible rfl))
  try simp only [Act.put, List.setIfInBounds_toArray, List.set_cons_zero, List.set_cons_succ]
  refine wpAnyH_take (i := 5) (oi := { dst := some 15, op := Go.Op.load 3 (Go.Operand.tmp 14), type := 3, pos := _, after := #[{ on := 4, ground := Go.Ground.data }], guard := none }) (v := ?vv20006) rfl (by kernel_rfl) (by kernel_rfl) (by kernel_rfl) (fun _ _ _ h => h) (Or.inl ⟨by rfl, ?hy20006⟩) (by assumption) ?tk20006
  case hy20006 => (intro w hSw; (try dsimp only at hSw); go_simp; (try with_reducible rfl))
  try simp only [Act.put, List.setIfInBounds_toArray, List.set_cons_zero, List.set_cons_succ]
  refine wpAnyH_take (i := 6) (oi := { dst := some 16, op := Go.Op.indexAddr 72 (Go.Operand.tmp 13) (Go.Operand.tmp 15), type := 0, pos := _, after := #[{ on := 3, ground := Go.Ground.data }, { on := 5, ground := Go.Ground.data }], guard := none }) (v := ?vv20007) rfl (by kernel_rfl) (by kernel_rfl) (by kernel_rfl) (fun _ _ _ h => h) (Or.inl ⟨by rfl, ?hy20007⟩) (by assumption) ?tk20007
  case hy20007 => (intro w hSw; (try dsimp only at hSw); go_simp; (try with_reducible rfl))
  try simp only [Act.put, List.setIfInBounds_toArray, List.set_cons_zero, List.set_cons_succ]
  refine wpAnyH_take (i := 7) (oi := { dst := some 17, op := Go.Op.load 99 (Go.Operand.tmp 16), type := 99, pos := _, after := #[{ on := 6, ground := Go.Ground.data }], guard := none }) (v := ?vv20008) rfl (by kernel_rfl) (by kernel_rfl) (by kernel_rfl) (fun _ _ _ h => h) (Or.inl ⟨by rfl, ?hy20008⟩) (by assumption) ?tk20008
  case hy20008 => (intro w hSw; (try dsimp only at hSw); go_simp; (try with_reducible rfl))
  try simp only [Act.put, List.setIfInBounds_toArray, List.set_cons_zero, List.set_cons_succ]
  refine wpAnyH_take (i := 8) (oi := { dst := some 4, op := Go.Op.assign (Go.Operand.tmp 17), type := 99, pos := _, after := #[{ on := 7, ground := Go.Ground.data }, { on := 0, ground := Go.Ground.phase }, { on := 1, ground := Go.Ground.phase }, { on := 2, ground := Go.Ground.phase }, { on := 3, ground := Go.Ground.phase }, { on := 4, ground := Go.Ground.phase }, { on := 5, ground := Go.Ground.phase }, { on := 6, ground := Go.Ground.phase }, { on := 7, ground := Go.Ground.phase }], guard := none }) (v := ?vv20009) rfl (by kernel_rfl) (by kernel_rfl) (by kernel_rfl) (fun _ _ _ h => h) (Or.inl ⟨by rfl, ?hy20009⟩) (by assumption) ?tk20009
  case hy20009 => (intro w hSw; (try dsimp only at hSw); go_simp; (try with_reducible rfl))
  try simp only [Act.put, List.setIfInBounds_toArray, List.set_cons_zero, List.set_cons_succ]
  refine wpAnyH_done (by kernel_rfl) ?_ _
  clear hHeld
  go_wp2
  go_ret
  exact ⟨rfl, below_dr HB.out⟩
set_option maxRecDepth 20000 in
set_option maxHeartbeats 8000000 in
theorem gather_any {w : World} {E GR R k : Nat} {v : Value} {f : Nat → Nat} (hE : w.cell? ⟨E, 21, none⟩ = some (.slice (some ⟨GR, 0, none⟩) R R)) (HR : RegZ w GR R) (HO : OpsAt w v k f) (hf : ∀ j, j < k → f j < R) (hR : R ≤ 1000) (hk : k ≤ 100) :
    Calls Try.prog 73 #[.pointer (some ⟨E, 0, none⟩), .slice none 0 0, v] w fun e w' => ∃ v', e = .returned v' ∧ w'.ownsRow w.heap.size 99 1 v' k (List.replicate k (.int .u32 0)) ∧ (k = 0 → v' = .slice none 0 0) ∧ Below w.heap.size w w' := by
  obtain ⟨i9, hi9, hx0, hx1, hx2⟩ := info_parts info99
  obtain ⟨pa, ca, ea, hca, HO'⟩ := HO
  subst ea
  have hgl : ∀ j, j < k → GR < w.heap.size := fun j hj => World.block_lt_of_cell? _ _ (HR.c _ (hf j hj))
  have HH := hideIt (And.intro HO' (And.intro HR hE))
  clear HO' HR hE
  go_enter Try.func73, Try.ntmps73
  go_wp2_with fail
  go_loopg [11, 1] k (fun gg vi vb wr => ∃ i : Nat, i + gg = k ∧ vi = .int .i64 (i : Int) ∧ wr.ownsRow w.heap.size 99 1 vb i (List.replicate i (.int .u32 0)) ∧ (i = 0 → vb = .slice none 0 0) ∧ Below w.heap.size w wr)
  case atStart => exact ⟨0, by omega, rfl, ⟨by simp, .inl ⟨rfl, rfl⟩⟩, fun _ => rfl, Below.refl _ _⟩
  case round =>
    obtain ⟨i, hi, rfl, own, h0, hb⟩ := hrel
    by_cases hin : i < k
    · have i0 : (0 : Int) ≤ i := by omega
      have i1 : (i : Int) < (k : Int) := by omega
      obtain ⟨HO', HR, hE⟩ := HH.out
      obtain ⟨ga, rfl, a0, a1, _⟩ : ∃ ga, pa = some ⟨ga, 0, none⟩ ∧ w.cell? ⟨ga, i * 2, none⟩ = some (.int .i64 (f i : Int)) ∧ w.cell? ⟨ga, i * 2 + 1, none⟩ = some (.int .u32 0) ∧ ∀ o, w.frozen? ⟨ga, o, none⟩ = false := by
        rcases HO' with h | ⟨ga, e, h⟩
        · omega
        · exact ⟨ga, e, h i hin⟩
      obtain ⟨r, hr⟩ : ∃ r, f i = r := ⟨_, rfl⟩
      have hrR : r < R := hr ▸ hf i hin
      rw [hr] at a0
      have bA := one_alloc wr (.cells #[.int .i64 (r : Int), .int .u32 0] 120)
      have b1 := then_ hb bA
      have hval := value_any (cell_later b1 hE) (HR.blk (b1.block GR (hgl i hin))) hrR hR
      have d0 := cell_later hb a0
      have d1 := cell_later hb a1
      obtain ⟨pb, cb, rfl⟩ := own_shape own
      have HB := hideIt (And.intro b1 (And.intro own (And.intro hb bA)))
      clear HO' HR hE a0 a1 bA b1 hb own h0 hr
      go_wp2_with fail
      refine hval.mono ?_
      rintro e w5 ⟨rfl, hb5⟩
      obtain ⟨b1, own, hb, bA⟩ := HB.out
      have b5 := then_ bA hb5
      have own5 : w5.ownsRow w.heap.size 99 1 (.slice pb i cb) i (List.replicate i (.int .u32 0)) := own_one own (fun q hq => b5.block q (own.lt q hq).2)
      have hs5 : w.heap.size ≤ w5.heap.size := Nat.le_trans hb.size b5.size
      have HO5 := hideIt own5
      have HB5 := hideIt (then_ hb b5)
      clear own5 b1 own hb bA b5 hb5 hval d0 d1 HB
      go_wp2_with (first | (at_builtin; refine wpList_append_own_at _ rfl (.tmp 15) (.tmp 19) 72 rfl w.heap.size 99 i9 (.int .u32 0) 1 4 Try.underlying72 hi9 hx0 hx1 hx2 rfl (by decide) (.slice pb i cb) i (List.replicate i (.int .u32 0)) rfl (HO5.out.alloc _) ⟨w5.heap.size, 0, none⟩ 1 1 [.int .u32 0] rfl rfl (cell_new1 _ _ _) (by simp [Value.oneCell']) (by unfold maxLen; omega) (by omega) (by simp <;> omega) ?_) | go_in)
      intro v' w6 hown' hgrow hiff hblk
      have HG := hideIt (And.intro hown' hgrow)
      clear hown' hgrow hiff hblk
      go_wp2
      go_roundg (k - (i + 1))
      case measure => omega
      case rel =>
        obtain ⟨hown', hgrow⟩ := HG.out
        have bN := one_alloc w5 (.cells #[.int .u32 0] 99)
        have hb5 := HB5.out
        refine ⟨i + 1, by omega, by go_num, ?_, fun h => by omega, ?_⟩
        · rw [List.replicate_succ']
          exact hown'
        · refine ⟨hgrow.os.trans (bN.os.trans hb5.os), hgrow.tape.trans (bN.tape.trans hb5.tape), hgrow.output.trans (bN.output.trans hb5.output), by have := hgrow.size; have := bN.size; omega, fun q hq => ?_⟩
          exact (hgrow.block q (by have := bN.size; omega) (fun e => by have := (HO5.out.lt q e.symm).1; omega)).trans ((bN.block q (by omega)).trans (hb5.block q hq))
    · have e : i = k := by omega
      subst e
      have HQ := hideIt (And.intro own (And.intro h0 hb))
      clear own h0 hb
      go_wp2
      go_ret
      exact ⟨_, rfl, HQ.out.1, HQ.out.2.1, HQ.out.2.2⟩
end Go.Proofs.Qxb6500880a
