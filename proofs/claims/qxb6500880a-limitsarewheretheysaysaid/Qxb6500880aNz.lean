import Derived.Deep.CutBlock
import Derived.OwnWalk
import Derived.Maps.AppendAt
import Derived.Maps.OwnSet
import Derived.Maps.OwnOps
import Derived.Laws.ResultCell
import Derived.Test.Qxb6500880aNa
import Derived.Test.Qxb6500880aX
set_option linter.unusedVariables false
set_option linter.unusedSimpArgs false
namespace Go.Proofs.Qxb6500880a
open Go.RowKit

/-- What New is handed. -/
structure NewIn (w : World) (gp gu gd m n V : Nat) (bv av : Value) : Prop where
  pr : PredsAt w gp n
  u0 : w.cell? ⟨gu, 0, none⟩ = some (.string (nmS false))
  u1 : w.cell? ⟨gu, 1, none⟩ = some (.slice none 0 0)
  u2 : w.cell? ⟨gu, 2, none⟩ = some bv
  bo : BodyAt w bv m n V
  d0 : w.cell? ⟨gd, 0, none⟩ = some (.string (nmS true))
  d1 : w.cell? ⟨gd, 1, none⟩ = some av
  on : OnesAt w av n
/-- An engine that New hands out. -/
def NewOk (w w' : World) (B : Nat) (e : Ending) : Prop := ∃ ρ E GR GC RL cr c sh sr f kn nb kk fn LB cl gl cgl, e = .returned (.tuple #[.pointer (some ⟨E, 0, none⟩), .agg #[.int .u8 0, .int .i64 0, .int .i64 0]]) ∧ Rdy w' ρ E GR GC RL cr B c (nmS false) (nmS true) sh sr f kn ∧ c 6 = .map (some nb) ∧ c 7 = .slice (some ⟨LB, 0, none⟩) 1 cl ∧ c 8 = .int .i64 0 ∧ c 9 = .int .u8 0 ∧ c 10 = .int .i64 0 ∧ c 11 = .int .i64 0 ∧ w'.cell? ⟨LB, 0, none⟩ = some (.slice (some ⟨gl, 0, none⟩) 1 cgl) ∧ w'.cell? ⟨gl, 0, none⟩ = some (.pointer (some ⟨ρ.RB, 0, none⟩)) ∧ MapN w' nb kk fn ∧ fn false = some ρ.hb ∧ (nb ≠ GC ∧ nb ≠ E ∧ nb ≠ ρ.hb ∧ nb ≠ ρ.rb) ∧ (w.heap.size ≤ GC ∧ w.heap.size ≤ E ∧ w.heap.size ≤ ρ.hb ∧ w.heap.size ≤ ρ.rb)
structure NewOut (e : Ending) (w w' : World) (B m n V : Nat) : Prop where
  tb : 32 < n → ∃ a b, e = .returned (.tuple #[.pointer none, .agg #[.int .u8 2, .int .i64 a, .int .i64 b]])
  ru : n ≤ 32 → (64 < m ∨ 256 < min (m * n) V) → ∃ a b, e = .returned (.tuple #[.pointer none, .agg #[.int .u8 3, .int .i64 a, .int .i64 b]])
  fa : n ≤ 32 → ¬ (64 < m ∨ 256 < min (m * n) V) → B = 0 → ∃ a b, e = .returned (.tuple #[.pointer none, .agg #[.int .u8 11, .int .i64 a, .int .i64 b]])
  ok : n ≤ 32 → ¬ (64 < m ∨ 256 < min (m * n) V) → 0 < B → NewOk w w' B e
  bl : Below w.heap.size w w'
end Go.Proofs.Qxb6500880a
