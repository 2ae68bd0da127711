import Derived.Deep.CutBlock
import Derived.OwnWalk
import Derived.Maps.AppendAt
import Derived.Maps.OwnSet
import Derived.Maps.OwnOps
import Derived.Laws.ResultCell
import Derived.Test.Qxb6500880aGreatLj
set_option linter.unusedVariables false
set_option linter.unusedSimpArgs false
namespace Go.Proofs.Qxb6500880aGreat
open Go.RowKit

theorem NewOk.below {w w1 w' : World} {np nt fs sn LB cl gl cgl SB mi nb : Nat} {fv : Nat → Nat → Nat} {D : RD} {c : Nat → Value} {X : Nat → RS} {vals : Value} (h : NewOk w w1 np nt fs sn fv D c X LB cl gl cgl SB mi nb vals) (hb : Below w1.heap.size w1 w') : NewOk w w' np nt fs sn fv D c X LB cl gl cgl SB mi nb vals :=
  ⟨h.R.below hb, h.c7, h.c8, h.c9, cell_later hb h.hL, cell_later hb h.hg, h.fs, h.c4, h.c6, h.N.below hb, h.S.below hb, h.ap, h.ct, h.fr, then_ h.bl hb⟩
/-- What the law asks of the answer. -/
theorem law_want {w w1 w2 : World} {np nt fs sn LB cl gl cgl SB mi nb n : Nat} {fv ky : Nat → Nat → Nat} {D : RD} {c c' : Nat → Value} {X X' : Nat → RS} {vals : Value} (h : NewOk w w1 np nt fs sn fv D c X LB cl gl cgl SB mi nb vals) (S : StO w1 w2 D c X c' X') (o : OrdN fs sn) (hk : ∀ r, (∃ i, i < n ∧ same3 (ky i) r) ↔ WantK np nt fs sn fv r) (hd : ∀ i j, i < n → j < i → ¬ same3 (ky i) (ky j)) :
    (X' 2).s.rows = n ∧ (∀ j, j < (X' 2).s.rows → ∃ i, i < n ∧ same3 (ky i) (fun t => (X' 2).d (j * 3 + t))) ∧ (X' 2).s.rows ≤ 8 := by
  have ds := (S.s.re 2 (by omega)).dist
  rw [S.A] at ds
  have ol := o.lt
  have hw := want_eq (fv := fv) (ky := ky) (n := n) (cf := D.cf) ol.1 ol.2 (show D.cf 0 = fs from h.fs.1) (show D.cf 1 = sn from h.fs.2) (h.ct 0 (by omega)) (h.ct 1 (by omega)) S.k ds hk hd
  exact ⟨hw.1, hw.2, Nat.le_trans (S.k.le ds) h.R.r0.2.1⟩
end Go.Proofs.Qxb6500880aGreat
