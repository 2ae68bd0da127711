import Derived.Deep.CutBlock
import Derived.OwnWalk
import Derived.Maps.AppendAt
import Derived.Maps.OwnSet
import Derived.Maps.OwnOps
import Derived.Laws.ResultCell
import Derived.Test.Qxb6500880aGreatLi
import Derived.Test.Qxb6500880aGreatTb
import Derived.Test.Qxb6500880aGreatQh
set_option linter.unusedVariables false
set_option linter.unusedSimpArgs false
namespace Go.Proofs.Qxb6500880aGreat
open Go.RowKit

theorem merge1 {C : Prop} (F : World → Nat → Prop) (G : World → Nat → Prop) (h : (∀ y p0, F y p0 → G y p0) → C) (k : ∀ y p0, F y p0 → G y p0) : C := h k
theorem merge2 {C : Prop} (F : World → Nat → Nat → Prop) (G : World → Nat → Nat → Prop) (h : (∀ y p0 p1, F y p0 p1 → G y p0 p1) → C) (k : ∀ y p0 p1, F y p0 p1 → G y p0 p1) : C := h k
theorem merge3 {C : Prop} (F : World → Nat → Nat → Nat → Prop) (G : World → Nat → Nat → Nat → Prop) (h : (∀ y p0 p1 p2, F y p0 p1 p2 → G y p0 p1 p2) → C) (k : ∀ y p0 p1 p2, F y p0 p1 p2 → G y p0 p1 p2) : C := h k
theorem merge4 {C : Prop} (F : World → Nat → Nat → Nat → Nat → Prop) (G : World → Nat → Nat → Nat → Nat → Prop) (h : (∀ y p0 p1 p2 p3, F y p0 p1 p2 p3 → G y p0 p1 p2 p3) → C) (k : ∀ y p0 p1 p2 p3, F y p0 p1 p2 p3 → G y p0 p1 p2 p3) : C := h k
theorem merge5 {C : Prop} (F : World → Nat → Nat → Nat → Nat → Nat → Prop) (G : World → Nat → Nat → Nat → Nat → Nat → Prop) (h : (∀ y p0 p1 p2 p3 p4, F y p0 p1 p2 p3 p4 → G y p0 p1 p2 p3 p4) → C) (k : ∀ y p0 p1 p2 p3 p4, F y p0 p1 p2 p3 p4 → G y p0 p1 p2 p3 p4) : C := h k
theorem listed26 (n : Nat) (h : n = 26) : Array.replicate n false = #[false, false, false, false, false, false, false, false, false, false, false, false, false, false, false, false, false, false, false, false, false, false, false, false, false, false] := by subst h; rfl
/-- The cells of a block. -/
def CA (w : World) (P : Nat) (cs : List Value) : Prop := ∀ k v, cs[k]? = some v → w.cell? ⟨P, k, none⟩ = some v
theorem CA.below {w w' : World} {P : Nat} {cs : List Value} (h : CA w P cs) (hb : Below w.heap.size w w') : CA w' P cs := fun k v hk => cell_later hb (h k v hk)
theorem CA.blk {w w' : World} {P : Nat} {cs : List Value} (h : CA w P cs) (e : w'.heap[P]? = w.heap[P]?) : CA w' P cs := fun k v hk => (World.cell?_of_block (a := ⟨P, k, none⟩) e).trans (h k v hk)
theorem CA.new (w : World) (cs : List Value) (ty : TypeId) : CA (w.alloc (.cells ⟨cs⟩ ty)) w.heap.size cs := fun k v hk => by
  rw [new_cell rfl]
  simpa using hk
def lV : List Value := [.int .u8 0, .int .i64 0, .int .i64 0, .string { data := #[] }, .int .u8 0, .int .i64 1, .int .i64 0, .string { data := #[] }, .int .u8 0, .int .i64 2, .int .i64 0, .string { data := #[] }]
theorem vcells {w : World} {V t : Nat} (h : CA w V lV) (ht : t < 3) : w.cell? ⟨V, t * 4, none⟩ = some (.int .u8 0) ∧ w.cell? ⟨V, t * 4 + 1, none⟩ = some (.int .i64 (t : Int)) ∧ w.cell? ⟨V, t * 4 + 2, none⟩ = some (.int .i64 0) ∧ w.cell? ⟨V, t * 4 + 3, none⟩ = some (.string { data := #[] }) := by
  rcases (by omega : t = 0 ∨ t = 1 ∨ t = 2) with e | e | e <;> (subst e; exact ⟨h _ _ rfl, h _ _ rfl, h _ _ rfl, h _ _ rfl⟩)
theorem vterms {w : World} {V : Nat} (h : CA w V lV) : TermsAt w (.slice (some ⟨V, 0, none⟩) 3 3) 3 (fun t => t) := ⟨_, 3, rfl, Nat.le_refl _, .inr ⟨V, rfl, fun j hj => vcells h hj⟩⟩
/-- The program that New is handed. -/
structure NDin (w : World) (gp gu gb V fs sn : Nat) : Prop where
  pr : PredsAt w gp arN
  u0 : w.cell? ⟨gu, 0, none⟩ = some (.string (nmS 2))
  u1 : w.cell? ⟨gu, 1, none⟩ = some (.slice (some ⟨V, 0, none⟩) 3 3)
  u2 : w.cell? ⟨gu, 2, none⟩ = some (.slice (some ⟨gb, 0, none⟩) 2 2)
  bo : BodyAt w (.slice (some ⟨gb, 0, none⟩) 2 2) 2 keyN nnR (FR fs sn)
  cv : CA w V lV
def ND (wv w : World) (V N fs sn : Nat) : Prop := ∃ gp gu gb, w.cell? ⟨N, 0, none⟩ = some (.slice (some ⟨gp, 0, none⟩) 3 3) ∧ w.cell? ⟨N, 1, none⟩ = some (.slice (some ⟨gu, 0, none⟩) 1 1) ∧ w.cell? ⟨N, 2, none⟩ = some (.int .i64 1) ∧ NDin w gp gu gb V fs sn ∧ Below wv.heap.size wv w
theorem leafN {wv y : World} {P1 P2 P3 P4 N V fs sn : Nat} (c1 : CA y P1 [.string { data := #[99] }, .int .i64 3, .int .i64 0, .string { data := #[101] }, .int .i64 2, .int .i64 0, .string { data := #[107] }, .int .i64 3, .int .i64 0]) (c2 : CA y P2 [.int .u8 0, .int .i64 (fs : Int), .int .i64 0, .string { data := #[] }, .int .u8 0, .int .i64 (sn : Int), .int .i64 0, .string { data := #[] }]) (c3 : CA y P3 [.int .u8 0, .int .u8 0, .string { data := #[101] }, .slice (some ⟨P2, 0, none⟩) 2 2, .int .u8 0, .int .u8 0, .string { data := #[99] }, .slice (some ⟨V, 0, none⟩) 3 3]) (c4 : CA y P4 [.string { data := #[107] }, .slice (some ⟨V, 0, none⟩) 3 3, .slice (some ⟨P3, 0, none⟩) 2 2]) (cN : CA y N [.slice none 0 0, .slice none 0 0, .int .i64 0]) (cV : CA y V lV) (bz : Below wv.heap.size wv y) (hN : P1 ≠ N ∧ P2 ≠ N ∧ P3 ≠ N ∧ P4 ≠ N ∧ V ≠ N ∧ wv.heap.size ≤ N) : ND wv (((y.setCell ⟨N, 0, none⟩ (.slice (some ⟨P1, 0, none⟩) 3 3)).setCell ⟨N, 1, none⟩ (.slice (some ⟨P4, 0, none⟩) 1 1)).setCell ⟨N, 2, none⟩ (.int .i64 1)) V N fs sn := by
  have far : ∀ q, q ≠ N → (((y.setCell ⟨N, 0, none⟩ (.slice (some ⟨P1, 0, none⟩) 3 3)).setCell ⟨N, 1, none⟩ (.slice (some ⟨P4, 0, none⟩) 1 1)).setCell ⟨N, 2, none⟩ (.int .i64 1)).heap[q]? = y.heap[q]? := fun q h => (far_set h).trans ((far_set h).trans (far_set h))
  have d1 := c1.blk (far P1 hN.1)
  have d2 := c2.blk (far P2 hN.2.1)
  have d3 := c3.blk (far P3 hN.2.2.1)
  have d4 := c4.blk (far P4 hN.2.2.2.1)
  have dV := cV.blk (far V hN.2.2.2.2.1)
  have n0 := cN 0 _ rfl
  have n1 := cN 1 _ rfl
  have n2 := cN 2 _ rfl
  refine ⟨P1, P4, P3, (World.cell?_setCell_other _ _ _ _ (by simp)).trans ((World.cell?_setCell_other _ _ _ _ (by simp)).trans (World.cell?_setCell_same _ _ _ n0)), (World.cell?_setCell_other _ _ _ _ (by simp)).trans (World.cell?_setCell_same _ _ _ ((World.cell?_setCell_other _ _ _ _ (by simp)).trans n1)), World.cell?_setCell_same _ _ _ ((World.cell?_setCell_other _ _ _ _ (by simp)).trans ((World.cell?_setCell_other _ _ _ _ (by simp)).trans n2)), ⟨⟨fun i hi => ?_⟩, d4 0 _ rfl, d4 1 _ rfl, d4 2 _ rfl, ?_, dV⟩, below_cell (below_cell (below_cell bz hN.2.2.2.2.2 _) hN.2.2.2.2.2 _) hN.2.2.2.2.2 _⟩
  · rcases (by omega : i = 0 ∨ i = 1 ∨ i = 2) with e | e | e
    · subst e; exact ⟨d1 0 _ rfl, d1 1 _ rfl, d1 2 _ rfl⟩
    · subst e; exact ⟨d1 3 _ rfl, d1 4 _ rfl, d1 5 _ rfl⟩
    · subst e; exact ⟨d1 6 _ rfl, d1 7 _ rfl, d1 8 _ rfl⟩
  · refine ⟨_, 2, rfl, Nat.le_refl _, .inr ⟨P3, rfl, fun j hj => ?_⟩⟩
    rcases (by omega : j = 0 ∨ j = 1) with e | e
    · subst e
      refine ⟨d3 0 _ rfl, d3 1 _ rfl, d3 2 _ rfl, _, d3 3 _ rfl, ⟨_, 2, rfl, Nat.le_refl _, .inr ⟨P2, rfl, fun t ht => ?_⟩⟩, ⟨P2, rfl, World.block_lt_of_cell? _ _ (d2 0 _ rfl)⟩⟩
      rcases (by show t = 0 ∨ t = 1; have : t < 2 := ht; omega : t = 0 ∨ t = 1) with e | e
      · subst e; exact ⟨d2 0 _ rfl, d2 1 _ rfl, d2 2 _ rfl, d2 3 _ rfl⟩
      · subst e; exact ⟨d2 4 _ rfl, d2 5 _ rfl, d2 6 _ rfl, d2 7 _ rfl⟩
    · subst e
      exact ⟨d3 4 _ rfl, d3 5 _ rfl, d3 6 _ rfl, _, d3 7 _ rfl, vterms dV, ⟨V, rfl, World.block_lt_of_cell? _ _ (dV 0 _ rfl)⟩⟩
/-- What New is handed. -/
theorem NDin.new {w wz : World} {gp gu gb V B G np nt fs sn M : Nat} {gpp : Nat → Nat} {x : LX} {w0 : World} (h : NDin w gp gu gb V fs sn) (L : LAt wz w0 B G np gpp x) (VV : VOk np x) (bz : Below wz.heap.size wz w) (e9 : x.n9 = 64 + np + nt) {gd cF : Nat} (e : x.v9 = .slice (some ⟨gd, 0, none⟩) x.n9 cF) (hp : 0 < np ∧ np ≤ 4 ∧ 0 < nt ∧ nt ≤ 8) (o : OrdN fs sn) : NewIn w gp gu gd np nt fs sn (.slice (some ⟨V, 0, none⟩) 3 3) (.slice (some ⟨gb, 0, none⟩) 2 2) x.fv x.av := by
  refine ⟨h.pr, h.u0, h.u1, h.u2, vterms h.cv, fun q hq => ?_, h.bo, ⟨fun i hi => ?_⟩, VV.n0, fun i t hi ht => VV.v i t (by omega) ht, hp, o⟩
  · have e : V = q := Option.some.inj hq
    rw [← e]
    exact World.block_lt_of_cell? _ _ (h.cv 0 _ rfl)
  · have hd := L.db
    rw [e] at hd
    have hl := dbL_len (fkN np) x.av x.n9
    have g1 := hd.cellAt (i * 2) (by omega)
    have g2 := hd.cellAt (i * 2 + 1) (by omega)
    obtain ⟨z1, z2⟩ := dbL_get (fkN np) x.av x.n9 i (by omega)
    exact ⟨cell_later bz (g1.trans z1), cell_later bz (g2.trans z2), ((L.a i (by omega)).keep bz.size (fun q _ hl => bz.block q hl)).ints⟩
/-- After Run the query can be asked. -/
theorem NewOk.query {w w1 w2 : World} {np nt fs sn LB cl gl cgl SB mi nb V : Nat} {fv : Nat → Nat → Nat} {D : RD} {c c' : Nat → Value} {X X' : Nat → RS} {vals : Value} (h : NewOk w w1 np nt fs sn fv D c X LB cl gl cgl SB mi nb vals) (S : StO w1 w2 D c X c' X') (T : CA w1 V lV) (hV : V < w.heap.size) : QIn w2 D.E nb SB mi 64 (D.rb 2) V 3 4 (fnK D.rb 4) vals (D.nm 2) (X' 2).s (X' 2).d := by
  have kp : ∀ q, (q = nb ∨ fpS SB mi vals q) → q < w1.heap.size → w2.heap[q]? = w1.heap[q]? := fun q hq hl => S.W.block q hl (h.ap q hq)
  have R2 := S.s.re 2 (by omega)
  refine ⟨S.s.e.get ((S.c 9 (.inr rfl)).trans h.c9) (by omega), S.s.e.get ((S.c 6 (.inl (by omega))).trans h.c6) (by omega), S.s.e.get ((S.c 4 (.inl (by omega))).trans h.c4) (by omega), h.N.blk (kp nb (.inl rfl) h.N.lt), h.S.keep (fun q hq hl => kp q (.inr hq) hl), R2.at', ?_, vterms (T.blk (S.W.block V (World.block_lt_of_cell? _ _ (T 0 _ rfl)) (fun z => by have := h.fr V z; omega)))⟩
  exact SymR.of_own R2.own
end Go.Proofs.Qxb6500880aGreat
