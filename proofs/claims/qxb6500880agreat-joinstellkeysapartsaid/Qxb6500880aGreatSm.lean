import Derived.Deep.CutBlock
import Derived.OwnWalk
import Derived.Maps.AppendAt
import Derived.Maps.OwnSet
import Derived.Maps.OwnOps
import Derived.Laws.ResultCell
import Derived.Laws.AppendOwnNone
import Derived.Test.Qxb6500880aGreatSl
set_option linter.unusedVariables false
set_option linter.unusedSimpArgs false
namespace Go.Proofs.Qxb6500880aGreat
open Go.RowKit

theorem info30 : (Tryz.prog.info? 30).map (fun i => (i.zero, i.size, i.bytes)) = some (some (.slice none 0 0), 1, 24) := by kernel_rfl
/-- The row numbers that Query has kept. -/
def RowV (w : World) (p : Option Addr) (n c K : Nat) : Prop := n = 0 ∨ ∃ g, p = some ⟨g, 0, none⟩ ∧ g < w.heap.size ∧ RowK w g n K
def rowB (p : Option Addr) (q : Nat) : Prop := (Value.slice p 0 0).ownBlock = some q
/-- The sort, in one shape. -/
theorem sortV_any {w : World} {EB RX E SB mi k b n c : Nat} {p : Option Addr} {vals : Value} {nm : ByteArray} {s : RelS} {d : Nat → Nat} (e : w.cell? ⟨EB, 0, none⟩ = some (.pointer (some ⟨E, 0, none⟩))) (r : w.cell? ⟨RX, 0, none⟩ = some (.pointer (some ⟨b, 0, none⟩))) (e4 : w.cell? ⟨E, 4, none⟩ = some (.pointer (some ⟨SB, 0, none⟩))) (H : SymsAt w SB mi vals k) (R : RelAt w b nm s) (hd : SymR w s.data (s.rows * s.A) d) (hv : ∀ j, j < s.rows * s.A → d j < k) (hA0 : 0 < s.A) (hA : s.A ≤ 1000) (hR : s.rows ≤ 1000) (hk : k ≤ 1000) (K : RowV w p n c s.rows) (hne : ∀ g, p = some ⟨g, 0, none⟩ → EB ≠ g ∧ RX ≠ g ∧ E ≠ g ∧ (∀ q, fpS SB mi vals q → q ≠ g) ∧ b ≠ g ∧ s.data.ownBlock ≠ some g) (h20 : n < 20) :
    Calls Tryz.prog 37 #[.slice p n c, .func (.func 38) #[] #[.pointer (some ⟨EB, 0, none⟩), .pointer (some ⟨RX, 0, none⟩)]] w fun e w' => e = .returned (.tuple #[]) ∧ (RowV w' p n c s.rows ∧ Ws (fun q => p = some ⟨q, 0, none⟩) w w') := by
  by_cases h1 : n ≤ 1
  · refine (sortRows_tiny h1).mono ?_
    rintro e w' ⟨rfl, b⟩
    refine ⟨rfl, ?_, Ws.of_below b⟩
    rcases K with z | ⟨g, z1, z2, z3⟩
    · exact .inl z
    · exact .inr ⟨g, z1, Nat.lt_of_lt_of_le z2 b.size, z3.keep (b.block g z2)⟩
  · rcases K with z | ⟨g, z1, z2, z3⟩
    · omega
    · subst z1
      refine (sortRows_any e r e4 H R hd hv hA0 hA hR hk z3 (hne g rfl) z2 (by omega) h20).mono ?_
      rintro e w' ⟨rfl, R', W'⟩
      exact ⟨rfl, .inr ⟨g, rfl, Nat.lt_of_lt_of_le z2 W'.size, R'⟩, Ws.of_wr W' rfl⟩
end Go.Proofs.Qxb6500880aGreat
