import Derived.Deep.CutBlock
import Derived.OwnWalk
import Derived.Maps.AppendAt
import Derived.Test.Qxb6500877aGreatDoorAs
set_option linter.unusedVariables false
set_option linter.unusedSimpArgs false
namespace Go.Proofs.Qxb6500877aGreatDoor
open Go.RowKit

def z135 (o : Nat) : Value :=
  if o = 0 then .int .u64 0 else if o < 49 then (if (o - 1) % 3 = 0 then .int .u8 0 else .int .i64 0) else if o < 69 then .slice none 0 0 else if o < 85 then .int .u64 0 else if o = 85 then .slice none 0 0 else if o = 86 then .int .u64 1 else .int .u64 0
def cs135 : Array Value := ((List.range 115).map z135).toArray
theorem cs135_at {o : Nat} (h : o < 115) : cs135[o]? = some (z135 o) := by
  unfold cs135
  simp [h]
theorem z135e : (Tryz.zeroCells135.setIfInBounds 0 (.int .u64 0)).setIfInBounds 86 (.int .u64 1) = cs135 := by kernel_rfl
/-- The model of a fresh machine, its first k tasks laid. -/
def mZ : Mdl := ⟨0, fun _ => (0, 0, 0), fun _ => [], fun _ => [], fun _ => 0, [], 1, fun _ => 0⟩
def mK : Nat → Mdl
  | 0 => mZ
  | k + 1 => (mK k).setTk k (0, -1, 0)
theorem mK_tk : ∀ k x, x < k → (mK k).tk x = (0, -1, 0)
  | 0, x, h => by omega
  | k + 1, x, h => by
    show upd (mK k).tk k (0, -1, 0) x = _
    by_cases q : x = k
    · subst q; rw [upd_same]
    · rw [upd_other _ _ q]; exact mK_tk k x (by omega)
theorem mK_oth : ∀ k, (mK k).now = 0 ∧ (mK k).wt = (fun _ => []) ∧ (mK k).bx = (fun _ => []) ∧ (mK k).ac = (fun _ => 0) ∧ (mK k).tm = [] ∧ (mK k).nx = 1 ∧ (mK k).st = (fun _ => 0)
  | 0 => ⟨rfl, rfl, rfl, rfl, rfl, rfl, rfl⟩
  | k + 1 => mK_oth k
theorem mdl_new (w : World) : MdlAt (w.alloc (.cells cs135 135)) w.heap.size (w.heap.size + 1) (fun _ => .slice none 0 0) mZ := by
  have hc : ∀ o, o < 115 → (w.alloc (.cells cs135 135)).cell? ⟨w.heap.size, o, none⟩ = some (z135 o) := fun o ho => by
    rw [cell_of_row _ _ _ cs135 135 (0, 0) (heap_alloc_last w _)]
    exact cs135_at ho
  refine ⟨fun o ho => ?_, fun r hr => ?_, fun r hr => ?_, fun r s _ _ _ => .inl rfl, fun o => by simp, by omega⟩
  · rw [hc o ho.1]
    obtain ⟨h1, h2, h3⟩ := ho
    unfold z135 Mdl.enc
    by_cases q0 : o = 0
    · simp [q0, mZ]
    by_cases q1 : o < 49
    · simp [q0, q1, mZ]
    by_cases q2 : o < 85
    · have : ¬ o < 69 := by omega
      simp [q0, q1, q2, this, mZ]
    by_cases q3 : o = 86
    · simp [q3, mZ]
    · simp [q0, q1, q2, q3, h3, mZ]
      try omega
  · rw [hc _ (by unfold mRO; split <;> omega)]
    unfold z135 mRO
    by_cases q : r < 20
    · rw [if_pos q, if_neg (by omega), if_neg (by omega), if_pos (by omega)]
    · rw [if_neg q]; simp
  · have : mZ.rn r = 0 ∧ mZ.rc r = [] := by
      unfold Mdl.rn Mdl.rc mZ
      refine ⟨?_, ?_⟩
      · split
        · rfl
        · split <;> rfl
      · split
        · rfl
        · split <;> rfl
    rw [this.1, this.2]
    exact World.ownsRow_nil _ _ _ _
set_option maxRecDepth 20000 in
set_option maxHeartbeats 4000000 in
theorem mnew_any (w : World) : Calls Tryz.prog 18 #[.int .u64 0] w fun e w' => e = .returned (.pointer (some ⟨w.heap.size, 0, none⟩)) ∧ MdlAt w' w.heap.size (w.heap.size + 1) (fun _ => .slice none 0 0) (mK 16) ∧ Below w.heap.size w w' := by
  have H0 := mdl_new w
  have b0 := one_alloc w (.cells cs135 135)
  go_enter Tryz.func18, Tryz.ntmps18
  go_upto_region 2 with fail
  rw [z135e]
  generalize hW : w.alloc (.cells cs135 135) = wc at *
  clear hW
  go_wp2_with fail
  go_loopg [8] 16 (fun g v wr => ∃ j : Nat, j + g = 16 ∧ v = .int .i64 (j : Int) ∧ MdlAt wr w.heap.size (w.heap.size + 1) (fun _ => .slice none 0 0) (mK j) ∧ Below w.heap.size w wr)
  case atStart => exact ⟨0, by omega, rfl, H0, b0⟩
  case round =>
    clear H0 b0
    obtain ⟨j, hjg, rfl, H1, hbw⟩ := hrel
    by_cases hj : j < 16
    · have j0 : (0 : Int) ≤ j := by omega
      have j1 : (j : Int) < 16 := by omega
      obtain ⟨q0, q1, q2⟩ := H1.task hj
      have fz := H1.fz
      have HP := hideIt (H1.putTask hj 0 (-1) 0)
      go_wp2
      go_roundg (16 - (j + 1))
      case measure => omega
      case rel =>
        obtain ⟨H8, F8⟩ := HP.out
        exact ⟨j + 1, by omega, by go_num, H8, ⟨F8.os.trans hbw.os, F8.tape.trans hbw.tape, F8.output.trans hbw.output, Nat.le_trans hbw.size F8.size, fun k hk => (F8.block k (by have := hbw.size; omega) (by omega) (fun r _ e => by cases e)).trans (hbw.block k hk)⟩⟩
    · have e : j = 16 := by omega
      subst e
      go_wp2
      go_ret
      exact ⟨rfl, H1, hbw⟩
end Go.Proofs.Qxb6500877aGreatDoor
