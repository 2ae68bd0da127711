import Derived.Deep.CutBlock
import Derived.OwnWalk
import Derived.Maps.AppendAt
import Derived.Test.Qxb6500877aGreatDoorTx4
set_option linter.unusedVariables false
set_option linter.unusedSimpArgs false
namespace Go.Proofs.Qxb6500877aGreatDoor
open Go.RowKit

theorem total_any {w : World} {R F N : Nat} {l : List EvS} (H : RingAt w R F N l) :
    Calls Tryz.prog 62 #[.pointer (some ⟨R, 0, none⟩)] w fun e w' => e = .returned (.int .u64 (l.length : Nat)) ∧ w' = w := by
  have c3 := H.c3
  clear H
  go_enter Tryz.func62, Tryz.ntmps62
  go_wp2
  go_ret
  exact ⟨rfl, rfl⟩
set_option maxRecDepth 20000 in
set_option maxHeartbeats 8000000 in
theorem dropped_any {w : World} {R F N : Nat} {l : List EvS} (H : RingAt w R F N l) (hN : 0 < N ∧ N ≤ 8) (hl : l.length < 1000000000000) :
    Calls Tryz.prog 63 #[.pointer (some ⟨R, 0, none⟩)] w fun e w' => e = .returned (.int .u64 ((l.length - min l.length N : Nat) : Int)) ∧ w' = w.drew := by
  have c3 := H.c3
  have c2 := H.c2
  obtain ⟨n, hn⟩ : ∃ n, min l.length N = n := ⟨_, rfl⟩
  obtain ⟨T, hT⟩ : ∃ T, l.length = T := ⟨_, rfl⟩
  rw [hn] at c2 ⊢
  rw [hT] at c3 ⊢
  have hle : n ≤ T := by omega
  have hT1 : T < 1000000000000 := by omega
  have hw1 : IntKind.u64.wrap (n : Int) = n := by rw [IntKind.wrap_u64]; omega
  have hw2 : IntKind.u64.wrap ((T : Int) - n) = ((T - n : Nat) : Int) := by rw [IntKind.wrap_u64]; omega
  clear H hN hl hn hT
  go_enter Tryz.func63, Tryz.ntmps63
  go_upto_region 1 with fail
  refine wp_region_held_drew (S := (fun w' => w'.cell? ⟨R, 3, none⟩ = some (.int .u64 (T : Int)) ∧ w'.cell? ⟨R, 2, none⟩ = some (.int .i64 (n : Int)))) (by kernel_rfl) ⟨c3, c2⟩ (fun hHeld => ?_)
  refine wpAnyH_take (i := 0) (oi := { dst := some 3, op := Go.Op.move (Go.Operand.tmp 0), type := 108, pos := _, after := #[], guard := none }) (v := ?vv12022) rfl (by kernel_rfl) (by kernel_rfl) (by kernel_rfl) (fun _ _ _ h => h) (Or.inl ⟨by rfl, ?hy12022⟩) (by assumption) ?tk12022
  case hy12022 => (intro w hSw; (try dsimp only at hSw); go_simp; (try with_reducible rfl))
  try simp only [Act.put, List.setIfInBounds_toArray, List.set_cons_zero, List.set_cons_succ]
  refine wpAnyH_take (i := 1) (oi := { dst := some 4, op := Go.Op.nilCheck (Go.Operand.tmp 3), type := 0, pos := _, after := #[{ on := 0, ground := Go.Ground.data }], guard := none }) (v := ?vv12023) rfl (by kernel_rfl) (by kernel_rfl) (by kernel_rfl) (fun _ _ _ h => h) (Or.inl ⟨by rfl, ?hy12023⟩) (by assumption) ?tk12023
  case hy12023 => (intro w hSw; (try dsimp only at hSw); go_simp; (try with_reducible rfl))
  try simp only [Act.put, List.setIfInBounds_toArray, List.set_cons_zero, List.set_cons_succ]
  refine wpAnyH_take (i := 2) (oi := { dst := some 5, op := Go.Op.fieldAddr 217 (Go.Operand.tmp 4) 3, type := 0, pos := _, after := #[{ on := 1, ground := Go.Ground.data }], guard := none }) (v := ?vv12024) rfl (by kernel_rfl) (by kernel_rfl) (by kernel_rfl) (fun _ _ _ h => h) (Or.inl ⟨by rfl, ?hy12024⟩) (by assumption) ?tk12024
  case hy12024 => (intro w hSw; (try dsimp only at hSw); go_simp; (try with_reducible rfl))
  try simp only [Act.put, List.setIfInBounds_toArray, List.set_cons_zero, List.set_cons_succ]
  refine wpAnyH_take (i := 3) (oi := { dst := some 6, op := Go.Op.load 28 (Go.Operand.tmp 5), type := 28, pos := _, after := #[{ on := 2, ground := Go.Ground.data }], guard := none }) (v := ?vv12025) rfl (by kernel_rfl) (by kernel_rfl) (by kernel_rfl) (fun _ _ _ h => h) (Or.inl ⟨by rfl, ?hy12025⟩) (by assumption) ?tk12025
  case hy12025 => (intro w hSw; (try dsimp only at hSw); go_simp; (try with_reducible rfl))
  try simp only [Act.put, List.setIfInBounds_toArray, List.set_cons_zero, List.set_cons_succ]
  refine wpAnyH_take (i := 4) (oi := { dst := some 7, op := Go.Op.move (Go.Operand.tmp 0), type := 108, pos := _, after := #[], guard := none }) (v := ?vv12026) rfl (by kernel_rfl) (by kernel_rfl) (by kernel_rfl) (fun _ _ _ h => h) (Or.inl ⟨by rfl, ?hy12026⟩) (by assumption) ?tk12026
  case hy12026 => (intro w hSw; (try dsimp only at hSw); go_simp; (try with_reducible rfl))
  try simp only [Act.put, List.setIfInBounds_toArray, List.set_cons_zero, List.set_cons_succ]
  refine wpAnyH_take (i := 5) (oi := { dst := some 8, op := Go.Op.nilCheck (Go.Operand.tmp 7), type := 0, pos := _, after := #[{ on := 4, ground := Go.Ground.data }], guard := none }) (v := ?vv12027) rfl (by kernel_rfl) (by kernel_rfl) (by kernel_rfl) (fun _ _ _ h => h) (Or.inl ⟨by rfl, ?hy12027⟩) (by assumption) ?tk12027
  case hy12027 => (intro w hSw; (try dsimp only at hSw); go_simp; (try with_reducible rfl))
  try simp only [Act.put, List.setIfInBounds_toArray, List.set_cons_zero, List.set_cons_succ]
  refine wpAnyH_take (i := 6) (oi := { dst := some 9, op := Go.Op.fieldAddr 217 (Go.Operand.tmp 8) 2, type := 0, pos := _, after := #[{ on := 5, ground := Go.Ground.data }], guard := none }) (v := ?vv12028) rfl (by kernel_rfl) (by kernel_rfl) (by kernel_rfl) (fun _ _ _ h => h) (Or.inl ⟨by rfl, ?hy12028⟩) (by assumption) ?tk12028
  case hy12028 => (intro w hSw; (try dsimp only at hSw); go_simp; (try with_reducible rfl))
  try simp only [Act.put, List.setIfInBounds_toArray, List.set_cons_zero, List.set_cons_succ]
  refine wpAnyH_take (i := 7) (oi := { dst := some 10, op := Go.Op.load 3 (Go.Operand.tmp 9), type := 3, pos := _, after := #[{ on := 6, ground := Go.Ground.data }], guard := none }) (v := ?vv12029) rfl (by kernel_rfl) (by kernel_rfl) (by kernel_rfl) (fun _ _ _ h => h) (Or.inl ⟨by rfl, ?hy12029⟩) (by assumption) ?tk12029
  case hy12029 => (intro w hSw; (try dsimp only at hSw); go_simp; (try with_reducible rfl))
  try simp only [Act.put, List.setIfInBounds_toArray, List.set_cons_zero, List.set_cons_succ]
  refine wpAnyH_take (i := 8) (oi := { dst := some 11, op := Go.Op.convert 3 28 (Go.Operand.tmp 10), type := 28, pos := _, after := #[{ on := 7, ground := Go.Ground.data }], guard := none }) (v := ?vv12030) rfl (by kernel_rfl) (by kernel_rfl) (by kernel_rfl) (fun _ _ _ h => h) (Or.inl ⟨by rfl, ?hy12030⟩) (by assumption) ?tk12030
  case hy12030 => (intro w hSw; (try dsimp only at hSw); go_simp; (try with_reducible rfl))
  try simp only [Act.put, List.setIfInBounds_toArray, List.set_cons_zero, List.set_cons_succ]
  refine wpAnyH_take (i := 9) (oi := { dst := some 12, op := Go.Op.binOp Go.BinOp.sub 28 (Go.Operand.tmp 6) (Go.Operand.tmp 11) 28, type := 28, pos := _, after := #[{ on := 3, ground := Go.Ground.data }, { on := 8, ground := Go.Ground.data }], guard := none }) (v := ?vv12031) rfl (by kernel_rfl) (by kernel_rfl) (by kernel_rfl) (fun _ _ _ h => h) (Or.inl ⟨by rfl, ?hy12031⟩) (by assumption) ?tk12031
  case hy12031 => (intro w hSw; (try dsimp only at hSw); go_simp; (try with_reducible rfl))
  try simp only [Act.put, List.setIfInBounds_toArray, List.set_cons_zero, List.set_cons_succ]
  refine wpAnyH_take (i := 10) (oi := { dst := some 2, op := Go.Op.assign (Go.Operand.tmp 12), type := 28, pos := _, after := #[{ on := 9, ground := Go.Ground.data }, { on := 0, ground := Go.Ground.phase }, { on := 1, ground := Go.Ground.phase }, { on := 2, ground := Go.Ground.phase }, { on := 3, ground := Go.Ground.phase }, { on := 4, ground := Go.Ground.phase }, { on := 5, ground := Go.Ground.phase }, { on := 6, ground := Go.Ground.phase }, { on := 7, ground := Go.Ground.phase }, { on := 8, ground := Go.Ground.phase }, { on := 9, ground := Go.Ground.phase }], guard := none }) (v := ?vv12032) rfl (by kernel_rfl) (by kernel_rfl) (by kernel_rfl) (fun _ _ _ h => h) (Or.inl ⟨by rfl, ?hy12032⟩) (by assumption) ?tk12032
  case hy12032 => (intro w hSw; (try dsimp only at hSw); go_simp; (try with_reducible rfl))
  try simp only [Act.put, List.setIfInBounds_toArray, List.set_cons_zero, List.set_cons_succ]
  refine wpAnyH_done (by kernel_rfl) ?_ _
  go_wp2
  go_ret
  exact ⟨rfl, rfl⟩
set_option maxRecDepth 20000 in
set_option maxHeartbeats 8000000 in
theorem count_any {w : World} {R F N kk : Nat} {l : List EvS} (H : RingAt w R F N l) (hk : kk < 11) :
    Calls Tryz.prog 64 #[.pointer (some ⟨R, 0, none⟩), .int .u8 (kk : Int)] w fun e w' => e = .returned (.int .u64 (cntK l kk)) ∧ w' = w := by
  have c := H.cs kk hk
  obtain ⟨v, hv⟩ : ∃ v, v = cntK l kk := ⟨_, rfl⟩
  rw [← hv] at c ⊢
  have k0 : (0 : Int) ≤ kk := by omega
  have k1 : (kk : Int) < 11 := by omega
  have k2 : ¬ (11 ≤ (kk : Int)) := by omega
  have k3 : ¬ ((kk : Int) ≥ 11) := by omega
  clear H hv
  go_enter Tryz.func64, Tryz.ntmps64
  go_wp2
  go_ret
  exact ⟨rfl, rfl⟩
set_option maxRecDepth 20000 in
set_option maxHeartbeats 8000000 in
theorem newRing_any {w : World} {m : Nat} (hm : m < 9) : Calls Tryz.prog 56 #[.int .i64 (m : Int)] w fun e w' => ∃ R F, e = .returned (.pointer (some ⟨R, 0, none⟩)) ∧ RingAt w' R F (max m 1) [] ∧ w.heap.size ≤ R ∧ w.heap.size ≤ F ∧ Below w.heap.size w w' := by
  obtain ⟨i0_, hi_, hz0, hz1, hz2⟩ := info_parts info123
  have fin : ∀ (n : Nat) (w3 : World) (xs : List Value), 0 < n → w3.ownsRow w.heap.size 123 9 (.slice (some ⟨w.heap.size, 0, none⟩) n n) n xs → Below w.heap.size w w3 → w.heap.size < w3.heap.size → RingAt (w3.alloc (.cells #[.slice (some ⟨w.heap.size, 0, none⟩) n n, .int .i64 0, .int .i64 0, .int .u64 0, .int .u64 0, .int .u64 0, .int .u64 0, .int .u64 0, .int .u64 0, .int .u64 0, .int .u64 0, .int .u64 0, .int .u64 0, .int .u64 0, .int .u64 0] 217)) w3.heap.size w.heap.size n [] := fun n w3 xs hn hown hb hlt => by
    have hne : w3.heap.size ≠ w.heap.size := by omega
    have hblk := (one_alloc w3 (.cells #[.slice (some ⟨w.heap.size, 0, none⟩) n n, .int .i64 0, .int .i64 0, .int .u64 0, .int .u64 0, .int .u64 0, .int .u64 0, .int .u64 0, .int .u64 0, .int .u64 0, .int .u64 0, .int .u64 0, .int .u64 0, .int .u64 0, .int .u64 0] 217)).block w.heap.size hlt
    refine ⟨by simp, by simp [rS], by simp, by simp, fun k hk => ?_, fun j hj => ?_, fun p e hp hf => ?_, fun o => by simp, fun o => (World.frozen?_of_block (a := ⟨w.heap.size, o, none⟩) hblk).trans (hown.frozenAt o), hne⟩
    · match k, hk with
      | 0, _ => simp [cntK]
      | 1, _ => simp [cntK]
      | 2, _ => simp [cntK]
      | 3, _ => simp [cntK]
      | 4, _ => simp [cntK]
      | 5, _ => simp [cntK]
      | 6, _ => simp [cntK]
      | 7, _ => simp [cntK]
      | 8, _ => simp [cntK]
      | 9, _ => simp [cntK]
      | 10, _ => simp [cntK]
    · have e := hown.cellAt j hj
      have hl := hown.1
      exact ⟨_, (World.cell?_of_block (a := ⟨w.heap.size, j, none⟩) hblk).trans (e.trans (List.getElem?_eq_getElem (by omega)))⟩
    · simp [rF, rFt] at hf
  have HFIN := hideIt fin
  clear fin
  obtain ⟨N, hN⟩ : ∃ N, max m 1 = N := ⟨_, rfl⟩
  rw [hN]
  by_cases h0 : m = 0
  · subst h0
    obtain rfl : 1 = N := by omega
    clear hN
    go_enter Tryz.func56, Tryz.ntmps56
    go_wp2_with (first | (at_make; refine wpList_make_full _ rfl _ _ 111 rfl w.heap.size 123 i0_ _ 9 Tryz.underlying111 hi_ hz0 hz1 .i64 .i64 1 1 1 rfl rfl rfl rfl (by rw [hz2]; omega) (by unfold maxLen; omega) (Nat.le_refl _) ?_; intro w3 hown3 hgrow3) | go_in)
    have hb3 : Below w.heap.size w w3 := ⟨hgrow3.os, hgrow3.tape, hgrow3.output, hgrow3.size, fun k hk => hgrow3.block k hk (by simp)⟩
    have hlt : w.heap.size < w3.heap.size := (hown3.lt w.heap.size rfl).2
    have Q := hideIt (And.intro hown3 (And.intro hb3 hlt))
    clear hown3 hgrow3 hb3
    go_wp2
    go_ret
    obtain ⟨q1, q2, q3⟩ := Q.out
    exact ⟨w3.heap.size, w.heap.size, rfl, HFIN.out 1 w3 _ (by omega) q1 q2 q3, by omega, Nat.le_refl _, below_to q2 (one_alloc _ _) q2.size⟩
  · have hm1 : ¬ ((m : Int) < 1) := by omega
    obtain rfl : m = N := by omega
    clear hN
    go_enter Tryz.func56, Tryz.ntmps56
    go_wp2_with (first | (at_make; refine wpList_make_full _ rfl _ _ 111 rfl w.heap.size 123 i0_ _ 9 Tryz.underlying111 hi_ hz0 hz1 .i64 .i64 (m : Int) (m : Int) m rfl rfl rfl rfl (by rw [hz2]; omega) (by unfold maxLen; omega) (Nat.le_refl _) ?_; intro w3 hown3 hgrow3) | go_in)
    have hb3 : Below w.heap.size w w3 := ⟨hgrow3.os, hgrow3.tape, hgrow3.output, hgrow3.size, fun k hk => hgrow3.block k hk (by simp)⟩
    have hlt : w.heap.size < w3.heap.size := (hown3.lt w.heap.size rfl).2
    have Q := hideIt (And.intro hown3 (And.intro hb3 hlt))
    clear hown3 hgrow3 hb3
    go_wp2
    go_ret
    obtain ⟨q1, q2, q3⟩ := Q.out
    exact ⟨w3.heap.size, rfl, w.heap.size, HFIN.out m w3 _ (by omega) q1 q2 q3, by omega, Nat.le_refl _, below_to q2 (one_alloc _ _) q2.size⟩
end Go.Proofs.Qxb6500877aGreatDoor
