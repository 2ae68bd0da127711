import Derived.Deep.CutBlock
import Derived.OwnWalk
import Derived.Maps.AppendAt
import Derived.Maps.OwnSet
import Derived.Maps.OwnOps
import Derived.Laws.ResultCell
import Derived.Laws.AppendOwnNone
import Derived.Test.Qxb6500880aGreatSj
set_option linter.unusedVariables false
set_option linter.unusedSimpArgs false
namespace Go.Proofs.Qxb6500880aGreat
open Go.RowKit

theorem sortRows_any {w : World} {EB RX E SB mi k b g n c : Nat} {vals : Value} {nm : ByteArray} {s : RelS} {d : Nat → Nat} (e : w.cell? ⟨EB, 0, none⟩ = some (.pointer (some ⟨E, 0, none⟩))) (r : w.cell? ⟨RX, 0, none⟩ = some (.pointer (some ⟨b, 0, none⟩))) (e4 : w.cell? ⟨E, 4, none⟩ = some (.pointer (some ⟨SB, 0, none⟩))) (H : SymsAt w SB mi vals k) (R : RelAt w b nm s) (hd : SymR w s.data (s.rows * s.A) d) (hv : ∀ j, j < s.rows * s.A → d j < k) (hA0 : 0 < s.A) (hA : s.A ≤ 1000) (hR : s.rows ≤ 1000) (hk : k ≤ 1000) (K : RowK w g n s.rows) (hne : EB ≠ g ∧ RX ≠ g ∧ E ≠ g ∧ (∀ q, fpS SB mi vals q → q ≠ g) ∧ b ≠ g ∧ s.data.ownBlock ≠ some g) (hg : g < w.heap.size) (h2 : 2 ≤ n) (h20 : n < 20) :
    Calls Tryz.prog 37 #[.slice (some ⟨g, 0, none⟩) n c, (.func (.func 38) #[] #[.pointer (some ⟨EB, 0, none⟩), .pointer (some ⟨RX, 0, none⟩)])] w fun e w' => e = .returned (.tuple #[]) ∧ (RowK w' g n s.rows ∧ Wr g w w') := by
  refine sortFunc_any (sliceStable_any (by omega) ?_)
  rw [show swF n = 92 by unfold swF; rw [if_neg (by omega), if_neg (by omega)], if_neg (by omega)]
  refine stable_any h20 ?_
  have b1 := one_alloc w (.cells #[.slice (some ⟨g, 0, none⟩) n c] 41)
  have b2 := one_alloc (w.alloc (.cells #[.slice (some ⟨g, 0, none⟩) n c] 41)) (.cells #[(.func (.func 38) #[] #[.pointer (some ⟨EB, 0, none⟩), .pointer (some ⟨RX, 0, none⟩)])] 151)
  have hz1 : (w.alloc (.cells #[.slice (some ⟨g, 0, none⟩) n c] 41)).heap.size = w.heap.size + 1 := by simp
  have n1 : ((w.alloc (.cells #[.slice (some ⟨g, 0, none⟩) n c] 41)).alloc (.cells #[(.func (.func 38) #[] #[.pointer (some ⟨EB, 0, none⟩), .pointer (some ⟨RX, 0, none⟩)])] 151)).cell? ⟨w.heap.size, 0, none⟩ = some (.slice (some ⟨g, 0, none⟩) n c) := cell_later b2 (new_cell rfl _ _ _)
  have n2 : ((w.alloc (.cells #[.slice (some ⟨g, 0, none⟩) n c] 41)).alloc (.cells #[(.func (.func 38) #[] #[.pointer (some ⟨EB, 0, none⟩), .pointer (some ⟨RX, 0, none⟩)])] 151)).cell? ⟨w.heap.size + 1, 0, none⟩ = some (.func (.func 38) #[] #[.pointer (some ⟨EB, 0, none⟩), .pointer (some ⟨RX, 0, none⟩)]) := new_cell hz1.symm _ _ _
  have b12 := then_ b1 b2
  generalize (w.alloc (.cells #[.slice (some ⟨g, 0, none⟩) n c] 41)).alloc (.cells #[(.func (.func 38) #[] #[.pointer (some ⟨EB, 0, none⟩), .pointer (some ⟨RX, 0, none⟩)])] 151) = w2 at *
  have b3 := fun o o' o'' => then_ (then_ (one_alloc w2 o) (one_alloc _ o')) (one_alloc _ o'')
  have L2 : LI w2 (w.heap.size + 1) w.heap.size EB RX E SB mi k b g n c vals nm s d := ⟨n2, n1, cell_later b12 e, cell_later b12 r, cell_later b12 e4, H.keep (fun q _ hl => b12.block q hl), R.below b12, hd.below b12⟩
  have hs2 := b12.size
  refine (insertion_any (K := s.rows) (LI.srt (LX := w.heap.size + 1) (SX := w.heap.size) (c := c) (nm := nm) rfl hv hA0 hA hR hk ?_) (L2.keep (fun q _ hl => (b3 _ _ _).block q hl)) ((K.keep (b12.block g hg)).keep ((b3 _ _ _).block g (by omega))) ?_ (by omega)).mono ?_
  · intro q hq
    rcases hq with z | z | z | z | z | z | z | z
    · omega
    · omega
    · rw [z]; exact hne.1
    · rw [z]; exact hne.2.1
    · rw [z]; exact hne.2.2.1
    · exact hne.2.2.2.1 q z
    · rw [z]; exact hne.2.2.2.2.1
    · exact fun e => hne.2.2.2.2.2 (e ▸ z)
  · have := (b3 (.cells #[.slice (some ⟨g, 0, none⟩) n c] 41) (.cells #[] 0) (.cells #[] 0)).size
    simp
    omega
  · rintro e w' ⟨rfl, _, R', W'⟩
    exact ⟨rfl, R', ((Wr.of_below b12).below (b3 _ _ _)).trans W'⟩
end Go.Proofs.Qxb6500880aGreat
