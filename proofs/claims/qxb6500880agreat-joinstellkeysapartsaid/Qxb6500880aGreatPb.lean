import Derived.Deep.CutBlock
import Derived.OwnWalk
import Derived.Maps.AppendAt
import Derived.Maps.OwnSet
import Derived.Maps.OwnOps
import Derived.Laws.ResultCell
import Derived.Test.Qxb6500880aGreatPa
set_option linter.unusedVariables false
set_option linter.unusedSimpArgs false
namespace Go.Proofs.Qxb6500880aGreat
open Go.RowKit

set_option maxRecDepth 20000 in
set_option maxHeartbeats 8000000 in
theorem value_any {w : World} {E GR R r : Nat} {rv : Nat → Nat} (hE : w.cell? ⟨E, 21, none⟩ = some (.slice (some ⟨GR, 0, none⟩) R R)) (HR : ∀ j, j < R → w.cell? ⟨GR, j, none⟩ = some (.int .u32 (rv j : Int))) (hr : r < R) (hR : R ≤ 1000) :
    Calls Tryz.prog 82 #[.pointer (some ⟨E, 0, none⟩), .agg #[.int .i64 (r : Int), .int .u32 0]] w fun e w' => e = .returned (.int .u32 (rv r : Int)) ∧ Below w.heap.size w w' := by
  have r0 : (0 : Int) ≤ r := by omega
  have r1 : (r : Int) < (R : Int) := by omega
  have r2 : ((r : Int) == -1) = false := by simp
  have bA := one_alloc w (.cells #[.int .i64 (r : Int), .int .u32 0] 136)
  have k0 := cell_later bA hE
  have k1 : (w.alloc (.cells #[.int .i64 (r : Int), .int .u32 0] 136)).cell? ⟨w.heap.size, 0, none⟩ = some (.int .i64 (r : Int)) := by simp
  have k2 := cell_later bA (HR r hr)
  obtain ⟨rr, hrr⟩ : ∃ rr, rv r = rr := ⟨_, rfl⟩
  rw [hrr] at k2 ⊢
  have HB := hideIt bA
  clear bA HR hrr
  go_enter Tryz.func82, Tryz.ntmps82
  go_upto_region 3 with fail
  generalize w.alloc (.cells #[.int .i64 (r : Int), .int .u32 0] 136) = w1 at *
  refine wp_region_held_drew (S := (fun w' => w'.cell? ⟨E, 21, none⟩ = some (.slice (some ⟨GR, 0, none⟩) R R) ∧ w'.cell? ⟨w.heap.size, 0, none⟩ = some (.int .i64 (r : Int)) ∧ w'.cell? ⟨GR, r, none⟩ = some (.int .u32 (rr : Int)))) (by kernel_rfl) ⟨k0, k1, k2⟩ (fun hHeld => ?_)
  refine wpAnyH_take (i := 0) (oi := { dst := some 10, op := Go.Op.move (Go.Operand.tmp 0), type := 58, pos := _, after := #[], guard := none }) (v := ?vv35001) rfl (by kernel_rfl) (by kernel_rfl) (by kernel_rfl) (fun _ _ _ h => h) (Or.inl ⟨by rfl, ?hy35001⟩) (by assumption) ?tk35001
  case hy35001 => (intro w hSw; (try dsimp only at hSw); go_simp; (try with_reducible rfl))
  try simp only [Act.put, List.setIfInBounds_toArray, List.set_cons_zero, List.set_cons_succ]
  refine wpAnyH_take (i := 1) (oi := { dst := some 11, op := Go.Op.nilCheck (Go.Operand.tmp 10), type := 0, pos := _, after := #[{ on := 0, ground := Go.Ground.data }], guard := none }) (v := ?vv35002) rfl (by kernel_rfl) (by kernel_rfl) (by kernel_rfl) (fun _ _ _ h => h) (Or.inl ⟨by rfl, ?hy35002⟩) (by assumption) ?tk35002
  case hy35002 => (intro w hSw; (try dsimp only at hSw); go_simp; (try with_reducible rfl))
  try simp only [Act.put, List.setIfInBounds_toArray, List.set_cons_zero, List.set_cons_succ]
  refine wpAnyH_take (i := 2) (oi := { dst := some 12, op := Go.Op.fieldAddr 86 (Go.Operand.tmp 11) 11, type := 0, pos := _, after := #[{ on := 1, ground := Go.Ground.data }], guard := none }) (v := ?vv35003) rfl (by kernel_rfl) (by kernel_rfl) (by kernel_rfl) (fun _ _ _ h => h) (Or.inl ⟨by rfl, ?hy35003⟩) (by assumption) ?tk35003
  case hy35003 => (intro w hSw; (try dsimp only at hSw); go_simp; (try with_reducible rfl))
  try simp only [Act.put, List.setIfInBounds_toArray, List.set_cons_zero, List.set_cons_succ]
  refine wpAnyH_take (i := 3) (oi := { dst := some 13, op := Go.Op.load 83 (Go.Operand.tmp 12), type := 83, pos := _, after := #[{ on := 2, ground := Go.Ground.data }], guard := none }) (v := ?vv35004) rfl (by kernel_rfl) (by kernel_rfl) (by kernel_rfl) (fun _ _ _ h => h) (Or.inl ⟨by rfl, ?hy35004⟩) (by assumption) ?tk35004
  case hy35004 => (intro w hSw; (try dsimp only at hSw); go_simp; (try with_reducible rfl))
  try simp only [Act.put, List.setIfInBounds_toArray, List.set_cons_zero, List.set_cons_succ]
  refine wpAnyH_take (i := 4) (oi := { dst := some 14, op := Go.Op.fieldAddr 136 (Go.Operand.tmp 3) 0, type := 0, pos := _, after := #[], guard := none }) (v := ?vv35005) rfl (by kernel_rfl) (by kernel_rfl) (by kernel_rfl) (fun _ _ _ h => h) (Or.inl ⟨by rfl, ?hy35005⟩) (by assumption) ?tk35005
  case hy35005 => (intro w hSw; (try dsimp only at hSw); go_simp; (try with_reducible rfl))
  try simp only [Act.put, List.setIfInBounds_toArray, List.set_cons_zero, List.set_cons_succ]
  refine wpAnyH_take (i := 5) (oi := { dst := some 15, op := Go.Op.load 3 (Go.Operand.tmp 14), type := 3, pos := _, after := #[{ on := 4, ground := Go.Ground.data }], guard := none }) (v := ?vv35006) rfl (by kernel_rfl) (by kernel_rfl) (by kernel_rfl) (fun _ _ _ h => h) (Or.inl ⟨by rfl, ?hy35006⟩) (by assumption) ?tk35006
  case hy35006 => (intro w hSw; (try dsimp only at hSw); go_simp; (try with_reducible rfl))
  try simp only [Act.put, List.setIfInBounds_toArray, List.set_cons_zero, List.set_cons_succ]
  refine wpAnyH_take (i := 6) (oi := { dst := some 16, op := Go.Op.indexAddr 83 (Go.Operand.tmp 13) (Go.Operand.tmp 15), type := 0, pos := _, after := #[{ on := 3, ground := Go.Ground.data }, { on := 5, ground := Go.Ground.data }], guard := none }) (v := ?vv35007) rfl (by kernel_rfl) (by kernel_rfl) (by kernel_rfl) (fun _ _ _ h => h) (Or.inl ⟨by rfl, ?hy35007⟩) (by assumption) ?tk35007
  case hy35007 => (intro w hSw; (try dsimp only at hSw); go_simp; (try with_reducible rfl))
  try simp only [Act.put, List.setIfInBounds_toArray, List.set_cons_zero, List.set_cons_succ]
  refine wpAnyH_take (i := 7) (oi := { dst := some 17, op := Go.Op.load 109 (Go.Operand.tmp 16), type := 109, pos := _, after := #[{ on := 6, ground := Go.Ground.data }], guard := none }) (v := ?vv35008) rfl (by kernel_rfl) (by kernel_rfl) (by kernel_rfl) (fun _ _ _ h => h) (Or.inl ⟨by rfl, ?hy35008⟩) (by assumption) ?tk35008
  case hy35008 => (intro w hSw; (try dsimp only at hSw); go_simp; (try with_reducible rfl))
  try simp only [Act.put, List.setIfInBounds_toArray, List.set_cons_zero, List.set_cons_succ]
  refine wpAnyH_take (i := 8) (oi := { dst := some 4, op := Go.Op.assign (Go.Operand.tmp 17), type := 109, pos := _, after := #[{ on := 7, ground := Go.Ground.data }, { on := 0, ground := Go.Ground.phase }, { on := 1, ground := Go.Ground.phase }, { on := 2, ground := Go.Ground.phase }, { on := 3, ground := Go.Ground.phase }, { on := 4, ground := Go.Ground.phase }, { on := 5, ground := Go.Ground.phase }, { on := 6, ground := Go.Ground.phase }, { on := 7, ground := Go.Ground.phase }], guard := none }) (v := ?vv35009) rfl (by kernel_rfl) (by kernel_rfl) (by kernel_rfl) (fun _ _ _ h => h) (Or.inl ⟨by rfl, ?hy35009⟩) (by assumption) ?tk35009
  case hy35009 => (intro w hSw; (try dsimp only at hSw); go_simp; (try with_reducible rfl))
  try simp only [Act.put, List.setIfInBounds_toArray, List.set_cons_zero, List.set_cons_succ]
  refine wpAnyH_done (by kernel_rfl) ?_ _
  clear hHeld
  go_wp2
  go_ret
  exact ⟨rfl, below_dr HB.out⟩
set_option maxRecDepth 20000 in
set_option maxHeartbeats 8000000 in
theorem gather_any {w : World} {E GR R k cb : Nat} {pb : Option Addr} {v : Value} {f rv : Nat → Nat} (hE : w.cell? ⟨E, 21, none⟩ = some (.slice (some ⟨GR, 0, none⟩) R R)) (HR : ∀ j, j < R → w.cell? ⟨GR, j, none⟩ = some (.int .u32 (rv j : Int))) (HO : OpsAt w v k f) (hf : ∀ j, j < k → f j < R) (own : w.ownsRow 0 109 1 (.slice pb 0 cb) 0 []) (hb : (Value.slice pb 0 cb).ownBlock ≠ some E ∧ (Value.slice pb 0 cb).ownBlock ≠ some GR ∧ ∀ q, v.ownBlock = some q → (Value.slice pb 0 cb).ownBlock ≠ some q) (hR : R ≤ 1000) (hk : k ≤ 100) :
    Calls Tryz.prog 83 #[.pointer (some ⟨E, 0, none⟩), .slice pb 0 cb, v] w fun e w' => ∃ v', e = .returned v' ∧ w'.ownsRow 0 109 1 v' k (symL (fun t => rv (f t)) k) ∧ (∀ q, v'.ownBlock = some q → (Value.slice pb 0 cb).ownBlock = some q ∨ w.heap.size ≤ q) ∧ (k = 0 → v' = .slice pb 0 cb) ∧ Ws (fun q => (Value.slice pb 0 cb).ownBlock = some q) w w' := by
  obtain ⟨i9, hi9, hx0, hx1, hx2⟩ := info_parts info109
  obtain ⟨pa, ca, ea, hca, HO'⟩ := HO
  subst ea
  have hEl : E < w.heap.size := World.block_lt_of_cell? _ _ hE
  have hgl : ∀ j, j < k → GR < w.heap.size := fun j hj => World.block_lt_of_cell? _ _ (HR _ (hf j hj))
  have HH := hideIt (And.intro HO' (And.intro HR (And.intro hE hb)))
  have HO0 := hideIt own
  clear HO' HR hE hb own
  go_enter Tryz.func83, Tryz.ntmps83
  go_wp2_with fail
  go_loopg [11, 1] k (fun gg vi vb wr => ∃ i : Nat, i + gg = k ∧ vi = .int .i64 (i : Int) ∧ wr.ownsRow 0 109 1 vb i (symL (fun t => rv (f t)) i) ∧ (∀ q, vb.ownBlock = some q → (Value.slice pb 0 cb).ownBlock = some q ∨ w.heap.size ≤ q) ∧ (i = 0 → vb = .slice pb 0 cb) ∧ Ws (fun q => (Value.slice pb 0 cb).ownBlock = some q) w wr)
  case atStart => exact ⟨0, by omega, rfl, HO0.out, fun q hq => .inl hq, fun _ => rfl, Ws.refl _ _⟩
  case round =>
    obtain ⟨i, hi, rfl, own, hvb, h0, W⟩ := hrel
    have hsw := W.size
    by_cases hin : i < k
    · have i0 : (0 : Int) ≤ i := by omega
      have i1 : (i : Int) < (k : Int) := by omega
      obtain ⟨HO', HR, hE, hb1, hb2, hb3⟩ := HH.out
      obtain ⟨ga, rfl, a0, a1, _⟩ : ∃ ga, pa = some ⟨ga, 0, none⟩ ∧ w.cell? ⟨ga, i * 2, none⟩ = some (.int .i64 (f i : Int)) ∧ w.cell? ⟨ga, i * 2 + 1, none⟩ = some (.int .u32 0) ∧ ∀ o, w.frozen? ⟨ga, o, none⟩ = false := by
        rcases HO' with h | ⟨ga, e, h⟩
        · omega
        · exact ⟨ga, e, h i hin⟩
      have hal : ga < w.heap.size := World.block_lt_of_cell? _ _ a0
      obtain ⟨r, hr⟩ : ∃ r, f i = r := ⟨_, rfl⟩
      have hrR : r < R := hr ▸ hf i hin
      rw [hr] at a0
      have eE := W.block E hEl hb1
      have eG := W.block GR (hgl i hin) hb2
      have ea := W.block ga hal (hb3 ga rfl)
      have d0 := (World.cell?_of_block (a := ⟨ga, i * 2, none⟩) ea).trans a0
      have d1 := (World.cell?_of_block (a := ⟨ga, i * 2 + 1, none⟩) ea).trans a1
      have bA := one_alloc wr (.cells #[.int .i64 (r : Int), .int .u32 0] 136)
      have hval := value_any (cell_later bA ((World.cell?_of_block (a := ⟨E, 21, none⟩) eE).trans hE)) (fun j hj => cell_later bA ((World.cell?_of_block (a := ⟨GR, j, none⟩) eG).trans (HR j hj))) hrR hR
      obtain ⟨rr, hrr⟩ : ∃ rr, rv r = rr := ⟨_, rfl⟩
      rw [hrr] at hval
      have HRR := hideIt (And.intro hr hrr)
      obtain ⟨pb2, cb2, rfl⟩ := own_shape own
      have HB := hideIt (And.intro own (And.intro hvb (And.intro W bA)))
      clear HO' HR hE a0 a1 bA hb1 hb2 hb3 own h0 hr hrr W hvb eE eG ea
      go_wp2_with fail
      refine hval.mono ?_
      rintro e w5 ⟨rfl, hb5⟩
      obtain ⟨own, hvb, W, bA⟩ := HB.out
      have b5 := then_ bA hb5
      have own5 := own_keep own (w' := w5) (fun q _ hl => b5.block q hl)
      have HO5 := hideIt own5
      have HB5 := hideIt (And.intro W (And.intro b5 (And.intro hvb own)))
      have hs5 := b5.size
      clear own5 own hvb W bA b5 hb5 hval d0 d1 HB
      go_wp2_with (first | (at_builtin; refine wpList_append_own_at _ rfl (.tmp 15) (.tmp 19) 83 rfl 0 109 i9 (.int .u32 0) 1 4 Tryz.underlying83 hi9 hx0 hx1 hx2 rfl (by decide) (.slice pb2 i cb2) i (symL (fun t => rv (f t)) i) rfl (HO5.out.alloc _) ⟨w5.heap.size, 0, none⟩ 1 1 [.int .u32 (rr : Int)] rfl rfl (cell_new1 _ _ _) (by simp [Value.oneCell']) (by unfold maxLen; omega) (by omega) (Nat.zero_le _) ?_) | go_in)
      intro v' w6 hown' hgrow hiff hblk
      have HG := hideIt (And.intro hown' (And.intro hgrow hblk))
      clear hown' hgrow hiff hblk
      go_wp2
      go_roundg (k - (i + 1))
      case measure => omega
      case rel =>
        obtain ⟨hown', hgrow, hblk⟩ := HG.out
        obtain ⟨W, b5, hvb, own⟩ := HB5.out
        obtain ⟨hr, hrr⟩ := HRR.out
        have bN := one_alloc w5 (.cells #[.int .u32 (rr : Int)] 109)
        refine ⟨i + 1, by omega, by go_num, ?_, fun q hq => ?_, fun h => by omega, ?_⟩
        · have e : symL (fun t => rv (f t)) (i + 1) = symL (fun t => rv (f t)) i ++ [.int .u32 (rr : Int)] := by
            unfold symL
            rw [List.range_succ, List.map_append]
            show _ ++ [Value.int .u32 ((rv (f i) : Nat) : Int)] = _
            rw [hr, hrr]
          rw [e]
          exact hown'
        · rcases hblk with z | z
          · exact hvb q (z ▸ hq)
          · rw [z] at hq
            have z2 : w5.heap.size + 1 = q := Option.some.inj hq
            exact .inr (by omega)
        · exact ((W.below b5).below bN).grow hgrow (fun q hq => hvb q hq)
    · have e : i = k := by omega
      subst e
      have HQ := hideIt (And.intro own (And.intro hvb (And.intro h0 W)))
      clear own h0 hvb W
      go_wp2
      go_ret
      exact ⟨_, rfl, HQ.out.1, HQ.out.2.1, HQ.out.2.2.1, HQ.out.2.2.2⟩
end Go.Proofs.Qxb6500880aGreat
