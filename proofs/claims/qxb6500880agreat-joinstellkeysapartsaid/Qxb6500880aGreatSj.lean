import Derived.Deep.CutBlock
import Derived.OwnWalk
import Derived.Maps.AppendAt
import Derived.Maps.OwnSet
import Derived.Maps.OwnOps
import Derived.Laws.ResultCell
import Derived.Laws.AppendOwnNone
import Derived.Test.Qxb6500880aGreatSi
set_option linter.unusedVariables false
set_option linter.unusedSimpArgs false
namespace Go.Proofs.Qxb6500880aGreat
open Go.RowKit

/-- What 'less' reads. -/
structure LI (w : World) (LX SX EB RX E SB mi k b g n c : Nat) (vals : Value) (nm : ByteArray) (s : RelS) (d : Nat → Nat) : Prop where
  l : w.cell? ⟨LX, 0, none⟩ = some (.func (.func 38) #[] #[.pointer (some ⟨EB, 0, none⟩), .pointer (some ⟨RX, 0, none⟩)])
  sx : w.cell? ⟨SX, 0, none⟩ = some (.slice (some ⟨g, 0, none⟩) n c)
  e : w.cell? ⟨EB, 0, none⟩ = some (.pointer (some ⟨E, 0, none⟩))
  r : w.cell? ⟨RX, 0, none⟩ = some (.pointer (some ⟨b, 0, none⟩))
  e4 : w.cell? ⟨E, 4, none⟩ = some (.pointer (some ⟨SB, 0, none⟩))
  H : SymsAt w SB mi vals k
  R : RelAt w b nm s
  hd : SymR w s.data (s.rows * s.A) d
def fpL (LX SX EB RX E SB mi b : Nat) (vals : Value) (s : RelS) (q : Nat) : Prop := q = LX ∨ q = SX ∨ q = EB ∨ q = RX ∨ q = E ∨ fpS SB mi vals q ∨ q = b ∨ s.data.ownBlock = some q
theorem LI.keep {w w' : World} {LX SX EB RX E SB mi k b g n c : Nat} {vals : Value} {nm : ByteArray} {s : RelS} {d : Nat → Nat} (h : LI w LX SX EB RX E SB mi k b g n c vals nm s d) (hk : ∀ q, fpL LX SX EB RX E SB mi b vals s q → q < w.heap.size → w'.heap[q]? = w.heap[q]?) : LI w' LX SX EB RX E SB mi k b g n c vals nm s d := by
  have m : ∀ {q o : Nat} {v : Value}, fpL LX SX EB RX E SB mi b vals s q → w.cell? ⟨q, o, none⟩ = some v → w'.cell? ⟨q, o, none⟩ = some v := fun {q o v} hq e => (World.cell?_of_block (a := ⟨q, o, none⟩) (hk q hq (World.block_lt_of_cell? _ _ e))).trans e
  exact ⟨m (.inl rfl) h.l, m (.inr (.inl rfl)) h.sx, m (.inr (.inr (.inl rfl))) h.e, m (.inr (.inr (.inr (.inl rfl)))) h.r, m (.inr (.inr (.inr (.inr (.inl rfl))))) h.e4, h.H.keep (fun q hq hl => hk q (.inr (.inr (.inr (.inr (.inr (.inl hq)))))) hl), h.R.blk (hk b (.inr (.inr (.inr (.inr (.inr (.inr (.inl rfl))))))) h.R.lt), h.hd.blk (fun q hq hl => hk q (.inr (.inr (.inr (.inr (.inr (.inr (.inr hq))))))) hl)⟩
theorem LI.srt {K : Nat} {LX SX EB RX E SB mi k b g n c : Nat} {vals : Value} {nm : ByteArray} {s : RelS} {d : Nat → Nat} (hK : K = s.rows) (hv : ∀ j, j < s.rows * s.A → d j < k) (hA0 : 0 < s.A) (hA : s.A ≤ 1000) (hR : s.rows ≤ 1000) (hk : k ≤ 1000) (hne : ∀ q, fpL LX SX EB RX E SB mi b vals s q → q ≠ g) : SrtH (fun w => LI w LX SX EB RX E SB mi k b g n c vals nm s d) g n K LX SX := by
  refine ⟨fun w w' h hb => h.keep (fun q _ hl => hb.block q hl), fun w o v h => h.keep (fun q hq _ => far_set (hne q hq)), fun w i j h R hg hi hj => ?_⟩
  obtain ⟨x, hx, cx⟩ := R.c i hi
  obtain ⟨y, hy, cy⟩ := R.c j hj
  have hd : LI w.drew LX SX EB RX E SB mi k b g n c vals nm s d := h.keep (fun _ _ _ => rfl)
  exact less53_any h.l h.sx cx cy hi hj (less_any hd.e hd.r hd.e4 hd.H hd.R hd.hd hv hA0 hA hR hk (by omega) (by omega))
end Go.Proofs.Qxb6500880aGreat
