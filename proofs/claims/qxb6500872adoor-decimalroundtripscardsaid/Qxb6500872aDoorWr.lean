import Derived.Test.Qxb6500872aDoorWq
set_option linter.unusedVariables false
namespace Go.Proofs.Qxb6500872aDoor
open Go.RowKit

/-- One step as it lies in memory. -/
structure OpR where
  k : Int
  d : Int
  d2 : Int
  a : Int
  b : Int
  ng : Bool
  lp : Option Addr
  ln : Nat
  lc : Nat
  s : ByteArray
  wd : Int


/-- The nine cells of a step. -/
def OpAt (w : World) (b off : Nat) (o : OpR) : Prop :=
  w.cell? ⟨b, off, none⟩ = some (.int .i64 o.k) ∧ w.cell? ⟨b, off + 1, none⟩ = some (.int .i64 o.d) ∧ w.cell? ⟨b, off + 2, none⟩ = some (.int .i64 o.d2) ∧
  w.cell? ⟨b, off + 3, none⟩ = some (.int .i64 o.a) ∧ w.cell? ⟨b, off + 4, none⟩ = some (.int .i64 o.b) ∧ w.cell? ⟨b, off + 5, none⟩ = some (.bool o.ng) ∧
  w.cell? ⟨b, off + 6, none⟩ = some (.slice o.lp o.ln o.lc) ∧ w.cell? ⟨b, off + 7, none⟩ = some (.string o.s) ∧ w.cell? ⟨b, off + 8, none⟩ = some (.int .i64 o.wd)

/-- The steps in their slice. -/
def OpsAt (w : World) (p : Option Addr) (L : List OpR) : Prop :=
  L = [] ∨ ∃ b off, p = some ⟨b, off, none⟩ ∧ ∀ j (h : j < L.length), OpAt w b (off + j * 9) L[j]

set_option maxHeartbeats 2000000 in
theorem small_any {p : Option Addr} {n c : Nat} {L : List OpR} {w : World} (h : OpsAt w p L) (hn : L.length = n) :
    Calls Tryd.prog 4 #[.slice p n c] w fun e w' => (∃ r, e = .returned (.bool r) ∧ (r = true → n ≤ 65536)) ∧ w' = w := by
  by_cases hb : n ≤ 65536
  · go_enter Tryd.func4, Tryd.ntmps4
    go_wp2
    go_loopw [3, 4] (fun v i wr => ∃ (k : Nat) (m : Int), k ≤ n ∧ i = .int .i64 (k : Int) ∧ v = .int .i64 m ∧ wr = w) (fun _ i _ => ((n : Int) - intOf i).toNat)
    case atStart => exact ⟨0, n, by omega, rfl, rfl, rfl⟩
    case round =>
      obtain ⟨k, m, hk, rfl, rfl, rfl⟩ := hrel
      by_cases hkn : k < n
      · rcases h with h0 | ⟨b, off, rfl, hop⟩
        · rw [h0] at hn; simp at hn; omega
        · have hk' : k < L.length := by omega
          obtain ⟨q0, q1, q2, q3, q4, q5, q6, q7, q8⟩ := hop k hk'
          go_wp2
          · go_ret
            exact ⟨⟨_, rfl, fun h => absurd h Bool.false_ne_true⟩, rfl⟩
          · go_ret
            exact ⟨⟨_, rfl, fun h => absurd h Bool.false_ne_true⟩, rfl⟩
          · go_roundw
            case rel => exact ⟨k + 1, _, by omega, by go_num, rfl, by trivial⟩
            case measure => simp [intOf]; omega
      · go_wp2
        go_ret
        exact ⟨⟨_, rfl, fun _ => hb⟩, rfl⟩
  · go_enter Tryd.func4, Tryd.ntmps4
    go_wp2
    go_ret
    exact ⟨⟨_, rfl, fun h => absurd h Bool.false_ne_true⟩, rfl⟩
end Go.Proofs.Qxb6500872aDoor
