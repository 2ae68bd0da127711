import Derived.Deep.CutBlock
import Derived.OwnWalk
import Derived.Maps.AppendAt
import Derived.Maps.OwnSet
import Derived.Maps.OwnOps
import Derived.Laws.ResultCell
import Derived.Laws.AppendOwnNone
import Derived.Test.Qxb6500880aGreatQe
set_option linter.unusedVariables false
set_option linter.unusedSimpArgs false
namespace Go.Proofs.Qxb6500880aGreat
open Go.RowKit

/-- The state behind the run. -/
structure Mid (w w' : World) (D : RD) (c : Nat → Value) (X : Nat → RS) (p : PT) (gh : Nat) (c' : Nat → Value) (X' : Nat → RS) : Prop where
  s : ES w' D c' X'
  c : ∀ k, k ≠ 12 → k ≠ 14 → k ≠ 16 → k ≠ 17 → k ≠ 18 → k ≠ 19 → k ≠ 20 → k ≠ 23 → c' k = c k
  c17 : ∃ a, c' 17 = .int .i64 a
  x0 : X' 0 = X1 X (.slice (some ⟨p.gi, 0, none⟩) 1 p.ci) 0
  x1 : X' 1 = X 1 ∧ X' 3 = X 3
  ix : (X' 2).s.idx = .slice none 0 0
  A : (X' 2).s.A = 3
  k : KI (X 0).d (X 0).s.rows (X' 2).d (X' 2).s.rows (FJ D X)
  fr : ∀ q, fpR (D.rb 2) (X' 2).s q → fpR (D.rb 2) (X 2).s q ∨ w.heap.size ≤ q
  xi : w'.cell? ⟨p.gi, 0, none⟩ = some (.pointer (some ⟨p.IX, 0, none⟩))
  x3 : w'.cell? ⟨p.IX, 3, none⟩ = some (.int .i64 ((X 0).s.rows : Int))
  hh : w'.cell? ⟨gh, 0, none⟩ = some (.pointer (some ⟨D.rb 2, 0, none⟩))
  lo : w.heap.size ≤ p.gi ∧ w.heap.size ≤ p.IX ∧ w.heap.size ≤ gh
  W : Ws (fun q => q = D.E ∨ q = D.GR ∨ q = D.GC ∨ q = D.rb 0 ∨ fpR (D.rb 2) (X 2).s q) w w'
  old : D.E < w.heap.size ∧ D.rb 2 < w.heap.size
theorem Mid.put {w w' : World} {D : RD} {c : Nat → Value} {X : Nat → RS} {p : PT} {gh : Nat} {c' : Nat → Value} {X' : Nat → RS} (h : Mid w w' D c X p gh c' X') (a : Int) : Mid w (w'.setCell ⟨D.E, 17, none⟩ (.int .i64 a)) D c X p gh (updV c' 17 (.int .i64 a)) X' := by
  obtain ⟨l1, l2, l3⟩ := h.lo
  have l4 := h.old.1
  have far : ∀ {b o : Nat} {v : Value}, w.heap.size ≤ b → w'.cell? ⟨b, o, none⟩ = some v → (w'.setCell ⟨D.E, 17, none⟩ (.int .i64 a)).cell? ⟨b, o, none⟩ = some v := fun {b o v} hb e => (World.cell?_of_block (a := ⟨b, o, none⟩) (far_set (q := b) (by omega))).trans e
  exact ⟨h.s.put (by omega) _, fun k h1 h2 h3 h4 h5 h6 h7 h8 => (updV_other _ _ h4).trans (h.c k h1 h2 h3 h4 h5 h6 h7 h8), ⟨a, updV_same _ _ _⟩, h.x0, h.x1, h.ix, h.A, h.k, h.fr, far l1 h.xi, far l2 h.x3, far l3 h.hh, h.lo, h.W.set (.inl (.inl rfl)), h.old⟩
theorem Mid.turn {w w' w2 : World} {D : RD} {c : Nat → Value} {X : Nat → RS} {p : PT} {gh : Nat} {c' : Nat → Value} {X' : Nat → RS} (h : Mid w w' D c X p gh c' X') (W : Wr (D.rb 2) w' w2) (R : RelAt w2 (D.rb 2) (D.nm 2) { (X' 2).s with old := (X' 2).s.cur, cur := (X' 2).s.rows }) : Mid w w2 D c X p gh c' (updX X' 2 ⟨{ (X' 2).s with old := (X' 2).s.cur, cur := (X' 2).s.rows }, (X' 2).d, (X' 2).N, (X' 2).f⟩) := by
  obtain ⟨l1, l2, l3⟩ := h.lo
  have l4 := h.old.2
  have far : ∀ {b o : Nat} {v : Value}, w.heap.size ≤ b → w'.cell? ⟨b, o, none⟩ = some v → w2.cell? ⟨b, o, none⟩ = some v := fun {b o v} hb e => (World.cell?_of_block (a := ⟨b, o, none⟩) (W.block b (World.block_lt_of_cell? _ _ e) (by omega))).trans e
  refine ⟨h.s.marks (k := 2) (by omega) (v := (X' 2).s.idx) W R, h.c, h.c17, ?_, ?_, ?_, ?_, ?_, ?_, far l1 h.xi, far l2 h.x3, far l3 h.hh, h.lo, h.W.trans (Ws.of_wr W (.inr (.inr (.inr (.inr (.inl rfl)))))), h.old⟩
  · rw [updX_other _ _ (by omega)]; exact h.x0
  · rw [updX_other _ _ (by omega), updX_other _ _ (by omega)]; exact h.x1
  · rw [updX_same]; exact h.ix
  · rw [updX_same]; exact h.A
  · rw [updX_same]; exact h.k
  · rw [updX_same]; exact h.fr
theorem Mid.out {w w' : World} {D : RD} {c : Nat → Value} {X : Nat → RS} {p : PT} {gh : Nat} {c' : Nat → Value} {X' : Nat → RS} (h : Mid w w' D c X p gh c' X') (hA : (X 0).s.A = 3) : EvO w w' D c X c' X' := ⟨h.s, h.c, ⟨_, h.x0.trans (X1_0 _ _)⟩, h.x1, h.A, h.k, h.fr, h.W⟩
/-- Behind the run: what the run's end tells. -/
theorem RunEnd.mid {w w12 w13 : World} {D : RD} {c c12 : Nat → Value} {X : Nat → RS} {p : PT} {i : IXf} {gh : Nat} (h : RunEnd w13 (D.Q (X1 X (.slice (some ⟨p.gi, 0, none⟩) 1 p.ci)) w12) (D.rp (X1 X (.slice (some ⟨p.gi, 0, none⟩) 1 p.ci)) p i) D.T0 D.B c12 (X 2).s)
    (S : ES w12 D c12 (X1 X (.slice (some ⟨p.gi, 0, none⟩) 1 p.ci))) (hel : ∀ k q, k < 9 → fpE D X k q → q < w.heap.size) (hlo : w.heap.size < w12.heap.size) (hc : ∀ k, k ≠ 12 → k ≠ 17 → k ≠ 20 → c12 k = c k) (c17 : ∃ a, c12 17 = .int .i64 a) (ix2 : (X 2).s.idx = .slice none 0 0) (xi : w12.cell? ⟨p.gi, 0, none⟩ = some (.pointer (some ⟨p.IX, 0, none⟩))) (x3 : w12.cell? ⟨p.IX, 3, none⟩ = some (.int .i64 ((X 0).s.rows : Int))) (hgh : w12.cell? ⟨gh, 0, none⟩ = some (.pointer (some ⟨D.rb 2, 0, none⟩))) (hl : w.heap.size ≤ p.gi ∧ w.heap.size ≤ p.IX ∧ w.heap.size ≤ gh) (W : Ws (fun q => q = D.rb 0 ∨ q = D.E) w w12) : ∃ c' X', Mid w w13 D c X p gh c' X' := by
  obtain ⟨y, Y, I⟩ := h
  have hel' : ∀ k q, k < 9 → fpE D (X1 X (.slice (some ⟨p.gi, 0, none⟩) 1 p.ci)) k q → q < w.heap.size := fun k q hk hq => hel k q hk (fpE_X1.1 hq)
  obtain ⟨S', W'⟩ := S.runOut Y hel' hlo
  rw [X1_o _ _ (show 2 ≠ 0 by omega)] at W'
  have far : ∀ {b o : Nat} {v : Value}, w.heap.size ≤ b → w12.cell? ⟨b, o, none⟩ = some v → w13.cell? ⟨b, o, none⟩ = some v := fun {b o v} hb e => (World.cell?_of_block (a := ⟨b, o, none⟩) (W'.block b (World.block_lt_of_cell? _ _ e) (fun z => by
    rcases z with z | z | z | z
    · have := hel 0 b (by omega) z; omega
    · have := hel 1 b (by omega) z; omega
    · have := hel 2 b (by omega) z; omega
    · have := hel 7 b (by omega) z; omega))).trans e
  have hC : (D.rp (X1 X (.slice (some ⟨p.gi, 0, none⟩) 1 p.ci)) p i).sc.rows = (X 0).s.rows := by show (X1 X (.slice (some ⟨p.gi, 0, none⟩) 1 p.ci) 0).s.rows = _; rw [X1_0]
  have hdc : (D.rp (X1 X (.slice (some ⟨p.gi, 0, none⟩) 1 p.ci)) p i).dc = (X 0).d := by show (X1 X (.slice (some ⟨p.gi, 0, none⟩) 1 p.ci) 0).d = _; rw [X1_0]
  refine ⟨_, _, S', fun k h1 h2 h3 h4 h5 h6 h7 h8 => (I.cc k h2 h3 h5 h6 h8).trans (hc k h1 h4 h7), ?_, ?_, ?_, ?_, ?_, ?_, ?_, far hl.1 xi, far hl.2.1 x3, far hl.2.2 hgh, hl, ?_, ⟨hel 0 _ (by omega) rfl, hel 7 _ (by omega) (.inl rfl)⟩⟩
  · obtain ⟨a, e⟩ := c17
    exact ⟨a, (I.cc 17 (by omega) (by omega) (by omega) (by omega) (by omega)).trans e⟩
  · rw [updX_other _ _ (by omega)]
  · rw [updX_other _ _ (by omega), updX_other _ _ (by omega), X1_o _ _ (by omega), X1_o _ _ (by omega)]; exact ⟨rfl, rfl⟩
  · rw [updX_same]; exact I.mks.1.trans ix2
  · rw [updX_same]; exact I.A
  · rw [updX_same]
    have k := I.k
    rw [hC, hdc] at k
    exact k.congr (fun r _ => FJ_of r)
  · rw [updX_same]
    intro q hq
    by_cases h1 : fpR (D.rb 2) (X 2).s q
    · exact .inl h1
    · refine .inr ?_
      by_cases h2 : q < w12.heap.size
      · exfalso
        have h6 : fpX (D.Q (X1 X (.slice (some ⟨p.gi, 0, none⟩) 1 p.ci)) w12) y 6 q := hq
        have hS : (D.Q (X1 X (.slice (some ⟨p.gi, 0, none⟩) 1 p.ci)) w12).S q := by
          refine ⟨h2, fun e => ?_, fun e => ?_, fun e => ?_, fun e => ?_⟩
          · have := Y.dj 0 6 q (by omega) (by omega) e h6; omega
          · have := Y.dj 1 6 q (by omega) (by omega) e h6; omega
          · have := Y.dj 2 6 q (by omega) (by omega) e h6; omega
          · rw [X1_o _ _ (show 2 ≠ 0 by omega)] at e; exact h1 e
        have := Y.dj 7 6 q (by omega) (by omega) hS h6
        omega
      · omega
  · refine (W.mono (fun q _ z => ?_)).then W' (fun q z => .inl ?_)
    · rcases z with z | z
      · exact .inr (.inr (.inr (.inl z)))
      · exact .inl z
    · rcases z with z | z | z | z
      · exact .inl z
      · exact .inr (.inl z)
      · exact .inr (.inr (.inl z))
      · exact .inr (.inr (.inr (.inr z)))
/-- The first refresh fills the index. -/
theorem first_refresh {w10 : World} {D : RD} {c10 : Nat → Value} {X : Nat → RS} {p : PT} {lo : Nat} (S : ES w10 D c10 (X1 X (.slice (some ⟨p.gi, 0, none⟩) 1 p.ci))) (ps : PSt w10 D p) (n : IxN w10 p.IX) (hel : ∀ k q, k < 9 → fpE D X k q → q < lo) (hlo : ∀ q, p.has q → lo ≤ q) (c5 : c10 5 = .slice (some ⟨D.RL, 0, none⟩) 4 D.cr) (ix : ∀ j, j < 4 → (X j).s.idx = .slice none 0 0) (A : (X 0).s.A = 3) (r0 : 0 < (X 0).s.rows ∧ (X 0).s.rows ≤ 8 ∧ (X 0).s.cur = (X 0).s.rows) (ho : D.fs < 3 ∧ D.sn < 3) :
    Calls Tryz.prog 49 #[.pointer (some ⟨D.E, 0, none⟩)] w10 fun e w' => e = .returned (.tuple #[]) ∧ (∃ i : IXf, IxW w' p.IX i.gh i.go i.co (X 0).s.rows (X 0).s.rows i.hd i.ol ∧ Idx 16 (X 0).s.rows i.hd i.ol (bkF (X 0).d 3 D.cf 2) ∧ IxC w' p.IX p.gc p.cc 2 D.cf ∧ w10.heap.size ≤ i.gh ∧ w10.heap.size ≤ i.go) ∧ Wr p.IX w10 w' := by
  have R0 := S.re 0 (by omega)
  rw [X1_0] at R0
  have hIX := hlo p.IX (.inr (.inr (.inr (.inr (.inr (.inl rfl))))))
  have x1 : ∀ j, 0 < j → j < 4 → w10.cell? ⟨D.rb j, 7, none⟩ = some (.slice none 0 0) := fun j h1 h2 => by
    have := (S.re j h2).at'.ix
    rw [X1_o _ _ (by omega), ix j h2] at this
    exact this
  have xc := R0.at'.cu
  have xc : w10.cell? ⟨D.rb 0, 11, none⟩ = some (.int .i64 ((X 0).s.rows : Int)) := by rw [xc]; show some (Value.int .i64 ((X 0).s.cur : Int)) = _; rw [r0.2.2]
  have ho' : ∀ j, j < 2 → D.cf j < 3 := fun j _ => by unfold RD.cf; split; exact ho.1; exact ho.2
  have own := R0.own
  have val := R0.val
  have hA : ({ (X 0).s with idx := Value.slice (some ⟨p.gi, 0, none⟩) 1 p.ci } : RelS).A = 3 := A
  have hext := extend_new (w := w10) (cf := D.cf) (R := (X 0).s.rows) ps.ix n.x1 n.x2 n.x3 n.fx R0.at' (SymR.of_own own) (Nat.le_refl _) r0.1 r0.2.1 (fun j hj => by rw [hA]; exact ho' j hj) (by rw [hA]; omega) (by rw [hA]; omega) (by show (X 0).s.rows ≤ 1000; omega) val (by omega) ⟨fun e => by have := hel 5 (D.rb 0) (by omega) (.inl rfl); omega, ps.ne.2.2.2.2.2.1, fun e => by have := hel 5 p.IX (by omega) (.inr (.inl e)); omega⟩ (ps.lt (.inr (.inr (.inr (.inr (.inr (.inr (.inl rfl))))))))
  rw [hA] at hext
  refine refresh_any (rb := D.rb) (S.e.get c5 (by omega)) S.rl R0.at'.ix x1 ps.xi xc ⟨fun e => by have := hel 3 D.RL (by omega) rfl; omega, fun j h1 h2 e => by have := hel (j + 5) (D.rb j) (by omega) (.inl rfl); omega⟩ (hext.mono ?_)
  rintro e w' ⟨rfl, ⟨gh, go, co, hd, ol, h1, h2, h3, h4⟩, h5, h6⟩
  exact ⟨rfl, ⟨⟨gh, go, co, hd, ol⟩, h1, h2, h5, h3, h4⟩, h6⟩
/-- A later one finds it filled. -/
theorem Mid.refresh {w w' : World} {D : RD} {c : Nat → Value} {X : Nat → RS} {p : PT} {gh : Nat} {c' : Nat → Value} {X' : Nat → RS} (h : Mid w w' D c X p gh c' X') (c5 : c 5 = .slice (some ⟨D.RL, 0, none⟩) 4 D.cr) (ix : ∀ j, j < 4 → (X j).s.idx = .slice none 0 0) (r0 : (X 0).s.cur = (X 0).s.rows) (hel : ∀ k q, k < 9 → fpE D X k q → q < w.heap.size) :
    Calls Tryz.prog 49 #[.pointer (some ⟨D.E, 0, none⟩)] w' fun e w2 => e = .returned (.tuple #[]) ∧ w2 = w' := by
  have R0 := h.s.re 0 (by omega)
  rw [h.x0, X1_0] at R0
  have x1 : ∀ j, 0 < j → j < 4 → w'.cell? ⟨D.rb j, 7, none⟩ = some (.slice none 0 0) := fun j h1 h2 => by
    have := (h.s.re j h2).at'.ix
    rcases (by omega : j = 1 ∨ j = 2 ∨ j = 3) with e | e | e
    · subst e; rw [h.x1.1, ix 1 h2] at this; exact this
    · subst e; rw [h.ix] at this; exact this
    · subst e; rw [h.x1.2, ix 3 h2] at this; exact this
  have xc := R0.at'.cu
  have xc : w'.cell? ⟨D.rb 0, 11, none⟩ = some (.int .i64 ((X 0).s.rows : Int)) := by rw [xc]; show some (Value.int .i64 ((X 0).s.cur : Int)) = _; rw [r0]
  have hIX := h.lo.2.1
  have hext := extend_same (b := D.rb 0) (R := (X 0).s.rows) h.x3 (Nat.le_refl _)
  refine (refresh_any (rb := D.rb) (PP := fun w2 => w2 = w') (h.s.e.get ((h.c 5 (by omega) (by omega) (by omega) (by omega) (by omega) (by omega) (by omega) (by omega)).trans c5) (by omega)) h.s.rl R0.at'.ix x1 h.xi xc ⟨fun e => by have := hel 3 D.RL (by omega) rfl; omega, fun j h1 h2 e => by have := hel (j + 5) (D.rb j) (by omega) (.inl rfl); omega⟩ (hext.mono ?_)).mono ?_
  · rintro e w2 ⟨rfl, rfl⟩
    exact ⟨rfl, rfl, Wr.refl _ _⟩
  · rintro e w2 ⟨rfl, rfl, _⟩
    exact ⟨rfl, rfl⟩
end Go.Proofs.Qxb6500880aGreat
