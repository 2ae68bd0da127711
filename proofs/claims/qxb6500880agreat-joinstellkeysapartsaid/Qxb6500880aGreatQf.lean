import Derived.Deep.CutBlock
import Derived.OwnWalk
import Derived.Maps.AppendAt
import Derived.Maps.OwnSet
import Derived.Maps.OwnOps
import Derived.Laws.ResultCell
import Derived.Laws.AppendOwnNone
import Derived.Test.Qxb6500880aGreatQe2
set_option linter.unusedVariables false
set_option linter.unusedSimpArgs false
namespace Go.Proofs.Qxb6500880aGreat
open Go.RowKit

theorem info166 : (Tryz.prog.info? 166).map (fun i => (i.zero, i.size, i.bytes)) = some (some (.pointer none), 1, 8) := by kernel_rfl
theorem below_app {w w1 w2 : World} {o : Obj} (h : (w.alloc o).grownBy w2 none) : Below w.heap.size w w2 := by
  have bN := one_alloc w o
  exact ⟨h.os.trans bN.os, h.tape.trans bN.tape, h.output.trans bN.output, Nat.le_trans bN.size h.size, fun q hq => (h.block q (by have := bN.size; omega) (by simp)).trans (bN.block q hq)⟩
/-- The planned state. -/
structure PlW (w5 w : World) (D : RD) (c : Nat → Value) (X : Nat → RS) (p : PT) : Prop where
  s : ES w D (updV c 20 (.int .i64 1)) (X1 X (.slice (some ⟨p.gi, 0, none⟩) 1 p.ci))
  ps : PSt w D p
  n : IxN w p.IX
  P : p.P = w5.heap.size
  lo : ∀ q, p.has q → w5.heap.size ≤ q
  W : Ws (fun q => q = D.rb 0 ∨ q = D.E) w5 w
theorem PlW.below {w5 w w' : World} {D : RD} {c : Nat → Value} {X : Nat → RS} {p : PT} (h : PlW w5 w D c X p) (hb : Below w.heap.size w w') : PlW w5 w' D c X p := ⟨h.s.below hb, h.ps.below hb, h.n.blk (hb.block _ (World.block_lt_of_cell? _ _ h.n.x1)), h.P, h.lo, h.W.below hb⟩
set_option maxRecDepth 20000 in
set_option maxHeartbeats 8000000 in
theorem evaluate_any {w : World} {D : RD} {c : Nat → Value} {X : Nat → RS} {gr cgr : Nat} (R : Rdy w D c X) (hg : w.cell? ⟨gr, 0, none⟩ = some (.pointer (some ⟨D.ρ.RB, 0, none⟩))) (hgn : gr ≠ D.rb 0 ∧ gr ≠ D.E) :
    Calls Tryz.prog 35 #[.pointer (some ⟨D.E, 0, none⟩), .slice (some ⟨gr, 0, none⟩) 1 cgr] w fun e w' => e = .returned (.bool true) ∧ ∃ c' X', EvO w w' D c X c' X' := by
  obtain ⟨i8, hi8, hy0, hy1, hy2⟩ := info_parts info99
  obtain ⟨i5, hi5, hz0, hz1, hz2⟩ := info_parts info166
  have bM := one_alloc w (.map #[] 0)
  have P0 := PM0_new w
  have bP := one_alloc (w.alloc (.map #[] 0)) (.cells #[.pointer (some ⟨D.E, 0, none⟩), .map (some w.heap.size)] 165)
  have b1 := then_ bM bP
  have P1 : PM0 ((w.alloc (.map #[] 0)).alloc (.cells #[.pointer (some ⟨D.E, 0, none⟩), .map (some w.heap.size)] 165)) w.heap.size := (bP.block w.heap.size (by simp)).trans P0
  have a0 : ((w.alloc (.map #[] 0)).alloc (.cells #[.pointer (some ⟨D.E, 0, none⟩), .map (some w.heap.size)] 165)).cell? ⟨w.heap.size + 1, 0, none⟩ = some (.pointer (some ⟨D.E, 0, none⟩)) := new_cell (by simp) _ _ _
  have a1 : ((w.alloc (.map #[] 0)).alloc (.cells #[.pointer (some ⟨D.E, 0, none⟩), .map (some w.heap.size)] 165)).cell? ⟨w.heap.size + 1, 1, none⟩ = some (.map (some w.heap.size)) := new_cell (by simp) _ _ _
  have g1 := cell_later b1 hg
  have rb1 := cell_later b1 R.s.ru.c1
  rw [R.ur.2.2] at rb1
  have hs1 : ((w.alloc (.map #[] 0)).alloc (.cells #[.pointer (some ⟨D.E, 0, none⟩), .map (some w.heap.size)] 165)).heap.size = w.heap.size + 2 := by simp
  have hmm := @run_makeMap Tryz.prog
  have hgl : gr < w.heap.size := World.block_lt_of_cell? _ _ hg
  have hRL : D.ρ.RB < w.heap.size := R.s.ru.lt (.inl rfl)
  have hel : ∀ k q, k < 9 → fpE D X k q → q < w.heap.size := R.s.flt
  have HQ := hideIt (And.intro R (And.intro hg (And.intro hgn hel)))
  have HS1 := hideIt (And.intro hs1 b1)
  clear R hg hgn bM P0 bP b1 hs1 hel
  go_enter Tryz.func35, Tryz.ntmps35
  go_upto_region 2 with fail
  generalize ((w.alloc (.map #[] 0)).alloc (.cells #[.pointer (some ⟨D.E, 0, none⟩), .map (some w.heap.size)] 165)) = w1 at *
  have hlk := P1.lookB (b := D.rb 2)
  obtain ⟨w2, hrun, P2, W2⟩ := P1.put (hb := D.rb 2) 163 (.inr rfl) (.bool true)
  have hs2 := W2.size
  obtain ⟨hs1, b1⟩ := HS1.out
  have b2 : Below w.heap.size w w2 := ⟨W2.os.trans b1.os, W2.tape.trans b1.tape, W2.output.trans b1.output, Nat.le_trans b1.size W2.size, fun q hq => (W2.block q (by omega) (by omega)).trans (b1.block q hq)⟩
  have e2 : w2.heap[w.heap.size + 1]? = w1.heap[w.heap.size + 1]? := W2.block _ (by omega) (by omega)
  have d0 := (World.cell?_of_block (a := ⟨w.heap.size + 1, 0, none⟩) e2).trans a0
  have d1 := (World.cell?_of_block (a := ⟨w.heap.size + 1, 1, none⟩) e2).trans a1
  have hs2' : w.heap.size + 2 ≤ w2.heap.size := by omega
  have H2 := hideIt (And.intro P2 (And.intro b2 (And.intro d0 d1)))
  clear W2 P2 b2 d0 d1 e2 b1 hs1 hs2 P1
  obtain ⟨M, hM⟩ : ∃ M, w.heap.size = M := ⟨_, rfl⟩
  obtain ⟨PL, hPL⟩ : ∃ PL, M + 1 = PL := ⟨_, rfl⟩
  have HMM := hideIt (And.intro hM hPL)
  rw [hM] at a0 a1 hlk hrun hgl hs2' H2 hRL
  rw [hPL] at a0 a1 H2
  rw [hM, hPL]
  have hPLM : M < PL ∧ PL < w2.heap.size := by omega
  clear hM hPL
  go_wp2_with fail
  go_loopg [28, 6] 1 (fun gg v v6 wr => ∃ i : Nat, i + gg = 1 ∧ v = .int .i64 (i : Int) ∧ (i = 0 → v6 = .slice none 0 0 ∧ wr = w1) ∧ (i = 1 → ∃ gh ch, v6 = .slice (some ⟨gh, 0, none⟩) 1 ch ∧ wr.cell? ⟨gh, 0, none⟩ = some (.pointer (some ⟨D.rb 2, 0, none⟩)) ∧ w2.heap.size ≤ gh ∧ PM1 wr M (D.rb 2) (.bool true) ∧ wr.cell? ⟨PL, 0, none⟩ = some (.pointer (some ⟨D.E, 0, none⟩)) ∧ wr.cell? ⟨PL, 1, none⟩ = some (.map (some M)) ∧ Below M w wr))
  case atStart => exact ⟨0, by omega, rfl, fun _ => ⟨rfl, rfl⟩, fun h => by omega⟩
  case round =>
  obtain ⟨i, hi, rfl, hI0, hI1⟩ := hrel
  by_cases hin : i < 1
  · have hi0 : i = 0 := by omega
    subst hi0
    obtain ⟨rfl, ew⟩ := hI0 rfl
    replace ew := ew.symm
    subst ew
    clear hI0 hI1
    go_wp2_with (first | (at_builtin; refine wpList_append_own_at _ rfl (.tmp 49) (.tmp 51) 76 rfl w2.heap.size 99 i8 (.pointer none) 1 8 Tryz.underlying76 hi8 hy0 hy1 hy2 rfl (by decide) (.slice none 0 0) 0 [] rfl (own_nil _ _ _ _) ⟨w2.heap.size, 0, none⟩ 1 1 [.pointer (some ⟨D.rb 2, 0, none⟩)] rfl rfl (cell_new1 _ _ _) (by simp [Value.oneCell']) (by unfold maxLen; omega) (by omega) (by simp <;> omega) ?_) | go_in)
    intro v' w3 hown' hgrow hiff hblk
    have b3 := below_app (w1 := w3) hgrow
    obtain ⟨gh, ch, rfl, hch, hgh, hghl, hcl, hcf⟩ := own_full hown' (by omega)
    have t0 : w3.cell? ⟨gh, 0, none⟩ = some (.pointer (some ⟨D.rb 2, 0, none⟩)) := hcl 0 (by omega)
    obtain ⟨P2, b2, d0, d1⟩ := H2.out
    have H3 := hideIt (And.intro t0 (And.intro (P2.below b3) (And.intro (cell_later b3 d0) (And.intro (cell_later b3 d1) (b2.trans (b3.mono (by omega)))))))
    clear hown' hgrow hiff hblk b3 hcl hcf t0 P2 b2 d0 d1
    go_wp2
    go_roundg 0
    case measure => omega
    case rel =>
      obtain ⟨z1, z2, z3, z4, z5⟩ := H3.out
      exact ⟨1, by omega, by go_num, fun h => by omega, fun _ => ⟨gh, ch, rfl, z1, by omega, z2, z3, z4, z5⟩⟩
  have ein : i = 1 := by omega
  obtain ⟨gh, ch, rfl, z1, z2, z3, z4, z5, z6⟩ := hI1 ein
  have i1 : ¬ ((i : Int) < 1) := by omega
  clear hI0 hI1 hin hi ein hlk hrun a0 a1 g1 rb1 H2
  obtain ⟨w5, hw5⟩ : ∃ w5, w5 = wr := ⟨_, rfl⟩
  subst hw5
  obtain ⟨R, hg, hgn, hel⟩ := HQ.out
  have bw5 : Below w.heap.size w w5 := by rw [HMM.out.1]; exact z6
  have g5 := cell_later bw5 hg
  have r4 := cell_later bw5 R.s.ru.c4
  rw [R.um] at r4
  have hsz := bw5.size
  have hMe := HMM.out.1
  have S5 := R.s.below bw5
  have hPLl : PL < w5.heap.size := World.block_lt_of_cell? _ _ z4
  have hMs : M ≤ w5.heap.size := by omega
  have hRBl : D.ρ.RB < w5.heap.size := by omega
  have hEl := hel 0 D.E (by omega) rfl
  have hcl := hel 5 (D.rb 0) (by omega) (.inl rfl)
  have hRBn : D.ρ.RB ≠ D.rb 0 ∧ D.ρ.RB ≠ D.E := ⟨fun e => by have := R.s.dj 4 5 D.ρ.RB (by omega) (by omega) (.inl rfl) (.inl e); omega, fun e => by have := R.s.dj 4 0 D.ρ.RB (by omega) (by omega) (.inl rfl) e; omega⟩
  have hpl := plan_any (J := D.J c X) (PL := PL) R.jok z4 S5.ru S5.e (S5.re 0 (by omega)).at' ⟨by show D.E ≠ PL; omega, fun e => by have := R.s.dj 0 5 D.E (by omega) (by omega) rfl (.inl e); omega, by show D.rb 0 ≠ PL; omega⟩ (fun q hq => ⟨fun e => by have := R.s.dj 4 0 q (by omega) (by omega) hq e; omega, fun e => by have := R.s.dj 4 5 q (by omega) (by omega) hq (.inl e); omega⟩)
  have HZ5 := hideIt (And.intro z1 (And.intro z3 (And.intro z4 (And.intro z5 (And.intro z6 (And.intro bw5 S5))))))
  have hghl5 : gh < w5.heap.size := World.block_lt_of_cell? _ _ z1
  clear R hg hgn bw5 z1 z3 z4 z5 z6 S5 hel
  have hplw : Calls Tryz.prog 48 #[.pointer (some ⟨PL, 0, none⟩), .pointer (some ⟨D.ρ.RB, 0, none⟩), .int .i64 (-1)] w5 fun e w' => e = .returned (.pointer (some ⟨w5.heap.size, 0, none⟩)) ∧ ∃ p, PlW w5 w' D c X p := by
    refine hpl.mono ?_
    rintro e w6 ⟨rfl, x, sv, Y, I6, E6, H6, W6⟩
    obtain ⟨R, hg, hgn, hel⟩ := HQ.out
    obtain ⟨_, _, _, _, _, bw5, S5⟩ := HZ5.out
    obtain ⟨p, p1, p2, p3, p4, ps, pn, plo⟩ := I6.ps R.uf (by have := R.o; omega)
    have H6' : RelAt w6 (D.rb 0) (D.nm 0) { (X 0).s with idx := .slice (some ⟨p.gi, 0, none⟩) 1 p.ci } := by rw [p3, p4]; exact H6
    exact ⟨rfl, p, S5.planned E6 H6' W6, ps, pn, p1, plo, W6⟩
  clear hpl
  go_wp2_with fail
  go_loopg [56, 10, 11] 1 (fun gg v v10 v11 wr => ∃ i : Nat, i + gg = 1 ∧ v = .int .i64 (i : Int) ∧ (i = 0 → v10 = .slice none 0 0 ∧ v11 = .slice none 0 0 ∧ wr = w5) ∧ (i = 1 → v11 = .slice none 0 0 ∧ ∃ gf cf p, v10 = .slice (some ⟨gf, 0, none⟩) 1 cf ∧ wr.cell? ⟨gf, 0, none⟩ = some (.pointer (some ⟨w5.heap.size, 0, none⟩)) ∧ w5.heap.size < gf ∧ PlW w5 wr D c X p))
  case atStart => exact ⟨0, by omega, rfl, fun _ => ⟨rfl, rfl, rfl⟩, fun h => by omega⟩
  case round =>
  obtain ⟨i, hi, rfl, hI0, hI1⟩ := hrel
  by_cases hin : i < 1
  · have hi0 : i = 0 := by omega
    subst hi0
    obtain ⟨rfl, rfl, ew⟩ := hI0 rfl
    replace ew := ew.symm
    subst ew
    clear hI0 hI1
    go_wp2_with fail
    refine hplw.mono ?_
    rintro e w6 ⟨rfl, p, L6⟩
    have hs6 := L6.W.size
    have hP6 : w5.heap.size < w6.heap.size := by
      have := World.block_lt_of_cell? _ _ L6.ps.P0
      rw [← L6.P]; exact this
    have q4 := (World.cell?_of_block (a := ⟨D.ρ.RB, 4, none⟩) (L6.W.block _ hRBl (fun e => by rcases e with e | e; exact hRBn.1 e; exact hRBn.2 e))).trans r4
    have HX6 := hideIt L6
    clear L6 hplw
    go_wp2_with (first | (at_builtin; refine wpList_append_own_at _ rfl (.tmp 60) (.tmp 64) 78 rfl w6.heap.size 166 i5 (.pointer none) 1 8 Tryz.underlying78 hi5 hz0 hz1 hz2 rfl (by decide) (.slice none 0 0) 0 [] rfl (own_nil _ _ _ _) ⟨w6.heap.size, 0, none⟩ 1 1 [.pointer (some ⟨w5.heap.size, 0, none⟩)] rfl rfl (cell_new1 _ _ _) (by simp [Value.oneCell']) (by unfold maxLen; omega) (by omega) (by simp <;> omega) ?_) | go_in)
    intro v' w7 hown' hgrow hiff hblk
    have b7 := below_app (w1 := w7) hgrow
    obtain ⟨gf, cf, rfl, hcf', hgf, hgfl, hcl7, hcf⟩ := own_full hown' (by omega)
    have t0 : w7.cell? ⟨gf, 0, none⟩ = some (.pointer (some ⟨w5.heap.size, 0, none⟩)) := hcl7 0 (by omega)
    have q47 := cell_later b7 q4
    have H7 := hideIt (And.intro t0 (HX6.out.below b7))
    clear hown' hgrow hiff hblk b7 hcl7 hcf t0 HX6 q4
    go_wp2_with fail
    go_loopg [71, 11] 2 (fun gg v v11 wr => ∃ k : Nat, k + gg = 2 ∧ v = .int .i64 (k : Int) ∧ v11 = .slice none 0 0 ∧ Below w7.heap.size w7 wr)
    case atStart => exact ⟨0, by omega, rfl, rfl, Below.refl _ _⟩
    case round =>
      obtain ⟨k, hk, rfl, rfl, bw⟩ := hrel
      by_cases hkn : k < 2
      · have k0 : (0 : Int) ≤ k := by omega
        have k1 : (k : Int) < 2 := by omega
        obtain ⟨t0, L7⟩ := H7.out
        obtain ⟨z1, z3, z4, z5, z6, bw5, S5⟩ := HZ5.out
        obtain ⟨R, hg, hgn, hel⟩ := HQ.out
        have Lr := L7.below bw
        have y1 := (World.cell?_of_block (a := ⟨PL, 1, none⟩) (Lr.W.block PL hPLl (fun e => by rcases e with e | e <;> omega))).trans z5
        have y2 := Lr.s.ru.c4
        rw [R.um] at y2
        have y3 := (Lr.s.ru.j k (by rw [R.um]; omega)).1
        obtain ⟨rbk, hrbk, jk, hjk, hjk2, hjk4⟩ : ∃ rbk, D.ρ.u.rb k = rbk ∧ ∃ jk, rbk = D.rb jk ∧ jk ≠ 2 ∧ jk < 4 := by
          rcases (by omega : k = 0 ∨ k = 1) with e | e
          · subst e; exact ⟨_, rfl, 1, R.ur.1, by omega, by omega⟩
          · subst e; exact ⟨_, rfl, 0, R.ur.2.1, by omega, by omega⟩
        rw [hrbk] at y3
        have P5 : PM1 wr M (D.rb 2) (.bool true) := z3.blk (Lr.W.block M z3.lt (fun e => by rcases e with e | e <;> omega))
        have H2' := (Lr.s.re 2 (by omega)).at'
        have Hk' : ∃ nm s, RelAt wr rbk nm s := ⟨_, _, hjk ▸ (Lr.s.re jk hjk4).at'⟩
        obtain ⟨nmk, sk, Hk'⟩ := Hk'
        have hne : rbk ≠ D.rb 2 := fun e => by
          have := Lr.s.dj (jk + 5) 7 rbk (by omega) (by omega) (.inl hjk) (.inl e)
          omega
        have hms : ∀ w' : World, w'.heap[M]? = wr.heap[M]? → w'.heap[D.rb 2]? = wr.heap[D.rb 2]? → w'.heap[rbk]? = wr.heap[rbk]? → (Instr.lookup 163 (.map (some M)) (.pointer (some ⟨rbk, 0, none⟩)) false).run Tryz.prog w' = .ok (.bool false) w' := fun w' e1 e2 e3 => (P5.blk e1).missB hne (Hk'.blk e3).nm (Hk'.blk e3).fz (H2'.blk e2).nm (H2'.blk e2).fz
        have HB := hideIt bw
        clear t0 L7 z1 z3 z4 z5 z6 R hg hgn hel bw5 S5 Lr P5 H2' Hk' bw hrbk hjk
        go_upto_region 19 with fail
        refine wp_region_held_drew (S := (fun w' => w'.cell? ⟨PL, 1, none⟩ = some (.map (some M)) ∧ w'.cell? ⟨D.ρ.RB, 4, none⟩ = some (.slice (some ⟨D.ρ.gj, 0, none⟩) 2 D.ρ.cj) ∧ w'.cell? ⟨D.ρ.gj, k * 3, none⟩ = some (.pointer (some ⟨rbk, 0, none⟩)) ∧ w'.heap[M]? = wr.heap[M]? ∧ w'.heap[D.rb 2]? = wr.heap[D.rb 2]? ∧ w'.heap[rbk]? = wr.heap[rbk]?)) (by kernel_rfl) ⟨y1, y2, y3, rfl, rfl, rfl⟩ (fun hHeld => ?_)
        refine wpAnyH_take (i := 0) (oi := { dst := some 74, op := Go.Op.move (Go.Operand.tmp 5), type := 162, pos := _, after := #[], guard := none }) (v := ?vv42501) rfl (by kernel_rfl) (by kernel_rfl) (by kernel_rfl) (fun _ _ _ h => h) (Or.inl ⟨by rfl, ?hy42501⟩) (by assumption) ?tk42501
        case hy42501 => (intro w hSw; (try dsimp only at hSw); go_simp; (try with_reducible rfl))
        try simp only [Act.put, List.setIfInBounds_toArray, List.set_cons_zero, List.set_cons_succ]
        refine wpAnyH_take (i := 1) (oi := { dst := some 75, op := Go.Op.nilCheck (Go.Operand.tmp 74), type := 0, pos := _, after := #[{ on := 0, ground := Go.Ground.data }], guard := none }) (v := ?vv42502) rfl (by kernel_rfl) (by kernel_rfl) (by kernel_rfl) (fun _ _ _ h => h) (Or.inl ⟨by rfl, ?hy42502⟩) (by assumption) ?tk42502
        case hy42502 => (intro w hSw; (try dsimp only at hSw); go_simp; (try with_reducible rfl))
        try simp only [Act.put, List.setIfInBounds_toArray, List.set_cons_zero, List.set_cons_succ]
        refine wpAnyH_take (i := 2) (oi := { dst := some 76, op := Go.Op.fieldAddr 165 (Go.Operand.tmp 75) 1, type := 0, pos := _, after := #[{ on := 1, ground := Go.Ground.data }], guard := none }) (v := ?vv42503) rfl (by kernel_rfl) (by kernel_rfl) (by kernel_rfl) (fun _ _ _ h => h) (Or.inl ⟨by rfl, ?hy42503⟩) (by assumption) ?tk42503
        case hy42503 => (intro w hSw; (try dsimp only at hSw); go_simp; (try with_reducible rfl))
        try simp only [Act.put, List.setIfInBounds_toArray, List.set_cons_zero, List.set_cons_succ]
        refine wpAnyH_take (i := 3) (oi := { dst := some 77, op := Go.Op.load 163 (Go.Operand.tmp 76), type := 163, pos := _, after := #[{ on := 2, ground := Go.Ground.data }], guard := none }) (v := ?vv42504) rfl (by kernel_rfl) (by kernel_rfl) (by kernel_rfl) (fun _ _ _ h => h) (Or.inl ⟨by rfl, ?hy42504⟩) (by assumption) ?tk42504
        case hy42504 => (intro w hSw; (try dsimp only at hSw); go_simp; (try with_reducible rfl))
        try simp only [Act.put, List.setIfInBounds_toArray, List.set_cons_zero, List.set_cons_succ]
        refine wpAnyH_take (i := 4) (oi := { dst := some 78, op := Go.Op.move (Go.Operand.tmp 13), type := 92, pos := _, after := #[], guard := none }) (v := ?vv42505) rfl (by kernel_rfl) (by kernel_rfl) (by kernel_rfl) (fun _ _ _ h => h) (Or.inl ⟨by rfl, ?hy42505⟩) (by assumption) ?tk42505
        case hy42505 => (intro w hSw; (try dsimp only at hSw); go_simp; (try with_reducible rfl))
        try simp only [Act.put, List.setIfInBounds_toArray, List.set_cons_zero, List.set_cons_succ]
        refine wpAnyH_take (i := 5) (oi := { dst := some 79, op := Go.Op.nilCheck (Go.Operand.tmp 78), type := 0, pos := _, after := #[{ on := 4, ground := Go.Ground.data }], guard := none }) (v := ?vv42506) rfl (by kernel_rfl) (by kernel_rfl) (by kernel_rfl) (fun _ _ _ h => h) (Or.inl ⟨by rfl, ?hy42506⟩) (by assumption) ?tk42506
        case hy42506 => (intro w hSw; (try dsimp only at hSw); go_simp; (try with_reducible rfl))
        try simp only [Act.put, List.setIfInBounds_toArray, List.set_cons_zero, List.set_cons_succ]
        refine wpAnyH_take (i := 6) (oi := { dst := some 80, op := Go.Op.fieldAddr 106 (Go.Operand.tmp 79) 2, type := 0, pos := _, after := #[{ on := 5, ground := Go.Ground.data }], guard := none }) (v := ?vv42507) rfl (by kernel_rfl) (by kernel_rfl) (by kernel_rfl) (fun _ _ _ h => h) (Or.inl ⟨by rfl, ?hy42507⟩) (by assumption) ?tk42507
        case hy42507 => (intro w hSw; (try dsimp only at hSw); go_simp; (try with_reducible rfl))
        try simp only [Act.put, List.setIfInBounds_toArray, List.set_cons_zero, List.set_cons_succ]
        refine wpAnyH_take (i := 7) (oi := { dst := some 81, op := Go.Op.load 103 (Go.Operand.tmp 80), type := 103, pos := _, after := #[{ on := 6, ground := Go.Ground.data }], guard := none }) (v := ?vv42508) rfl (by kernel_rfl) (by kernel_rfl) (by kernel_rfl) (fun _ _ _ h => h) (Or.inl ⟨by rfl, ?hy42508⟩) (by assumption) ?tk42508
        case hy42508 => (intro w hSw; (try dsimp only at hSw); go_simp; (try with_reducible rfl))
        try simp only [Act.put, List.setIfInBounds_toArray, List.set_cons_zero, List.set_cons_succ]
        refine wpAnyH_take (i := 8) (oi := { dst := some 82, op := Go.Op.move (Go.Operand.tmp 14), type := 3, pos := _, after := #[], guard := none }) (v := ?vv42509) rfl (by kernel_rfl) (by kernel_rfl) (by kernel_rfl) (fun _ _ _ h => h) (Or.inl ⟨by rfl, ?hy42509⟩) (by assumption) ?tk42509
        case hy42509 => (intro w hSw; (try dsimp only at hSw); go_simp; (try with_reducible rfl))
        try simp only [Act.put, List.setIfInBounds_toArray, List.set_cons_zero, List.set_cons_succ]
        refine wpAnyH_take (i := 9) (oi := { dst := some 83, op := Go.Op.indexAddr 103 (Go.Operand.tmp 81) (Go.Operand.tmp 82), type := 0, pos := _, after := #[{ on := 7, ground := Go.Ground.data }, { on := 8, ground := Go.Ground.data }], guard := none }) (v := ?vv42510) rfl (by kernel_rfl) (by kernel_rfl) (by kernel_rfl) (fun _ _ _ h => h) (Or.inl ⟨by rfl, ?hy42510⟩) (by assumption) ?tk42510
        case hy42510 => (intro w hSw; (try dsimp only at hSw); go_simp; (try with_reducible rfl))
        try simp only [Act.put, List.setIfInBounds_toArray, List.set_cons_zero, List.set_cons_succ]
        refine wpAnyH_take (i := 10) (oi := { dst := some 84, op := Go.Op.fieldAddr 102 (Go.Operand.tmp 83) 0, type := 0, pos := _, after := #[{ on := 9, ground := Go.Ground.data }], guard := none }) (v := ?vv42511) rfl (by kernel_rfl) (by kernel_rfl) (by kernel_rfl) (fun _ _ _ h => h) (Or.inl ⟨by rfl, ?hy42511⟩) (by assumption) ?tk42511
        case hy42511 => (intro w hSw; (try dsimp only at hSw); go_simp; (try with_reducible rfl))
        try simp only [Act.put, List.setIfInBounds_toArray, List.set_cons_zero, List.set_cons_succ]
        refine wpAnyH_take (i := 11) (oi := { dst := some 85, op := Go.Op.load 99 (Go.Operand.tmp 84), type := 99, pos := _, after := #[{ on := 10, ground := Go.Ground.data }], guard := none }) (v := ?vv42512) rfl (by kernel_rfl) (by kernel_rfl) (by kernel_rfl) (fun _ _ _ h => h) (Or.inl ⟨by rfl, ?hy42512⟩) (by assumption) ?tk42512
        case hy42512 => (intro w hSw; (try dsimp only at hSw); go_simp; (try with_reducible rfl))
        try simp only [Act.put, List.setIfInBounds_toArray, List.set_cons_zero, List.set_cons_succ]
        refine wpAnyH_take (i := 12) (oi := { dst := some 86, op := Go.Op.lookup 163 (Go.Operand.tmp 77) (Go.Operand.tmp 85) false, type := 4, pos := _, after := #[{ on := 3, ground := Go.Ground.data }, { on := 11, ground := Go.Ground.data }], guard := none }) (v := ?vv42513) rfl (by kernel_rfl) (by kernel_rfl) (by kernel_rfl) (fun _ _ _ h => h) (Or.inl ⟨by rfl, ?hy42513⟩) (by assumption) ?tk42513
        case hy42513 => (intro w hSw; have hl7 := hms w hSw.2.2.2.1 hSw.2.2.2.2.1 hSw.2.2.2.2.2; (try dsimp only at hSw); go_simp; (try with_reducible rfl))
        try simp only [Act.put, List.setIfInBounds_toArray, List.set_cons_zero, List.set_cons_succ]
        refine wpAnyH_done (by kernel_rfl) ?_ _
        clear hHeld hms
        go_wp2
        go_roundg (2 - (k + 1))
        case measure => omega
        case rel => exact ⟨k + 1, by omega, by go_num, rfl, below_dr HB.out⟩
      · have k1 : ¬ ((k : Int) < 2) := by omega
        have HB := hideIt bw
        clear bw
        go_wp2
        go_roundg 0
        case measure => omega
        case rel =>
          obtain ⟨t0, L7⟩ := H7.out
          have bw := HB.out
          exact ⟨1, by omega, by go_num, fun h => by omega, fun _ => ⟨rfl, gf, cf, p, rfl, cell_later bw t0, by omega, L7.below bw⟩⟩
  have ein : i = 1 := by omega
  obtain ⟨rfl, gf, cf, p, rfl, t0, hgf, L8⟩ := hI1 ein
  have HPP := hideIt L8.P
  have i1 : ¬ ((i : Int) < 1) := by omega
  clear hI0 hI1 hin hi ein hplw g5 r4
  obtain ⟨w8, hw8⟩ : ∃ w8, w8 = wr := ⟨_, rfl⟩
  subst hw8
  have hgfl : gf < w8.heap.size := World.block_lt_of_cell? _ _ t0
  have hW8s := L8.W.size
  obtain ⟨R, hg, hgn, hel⟩ := HQ.out
  have e12 := L8.s.e.get ((updV_other c (.int .i64 1) (show (12 : Nat) ≠ 20 by omega)).trans R.c12) (by omega)
  have ef := L8.s.e.fz
  have hE8 := L8.s.e.lt
  have nw : ∀ j u, ([.pointer (some ⟨w5.heap.size, 0, none⟩)] : List Value)[j]? = some u → w8.cell? ((⟨gf, 0, none⟩ : Addr).add j) = some u := by
    intro j u h
    match j, h with
    | 0, h => simp at h; subst h; simpa [Addr.add] using t0
    | j + 1, h => simp at h
  have HY8 := hideIt (And.intro L8 t0)
  clear L8 t0 R hg hgn hel
  go_wp2_with (first | (at_builtin; refine wpList_append_own_at _ rfl (.tmp 100) (.tmp 101) 78 rfl w8.heap.size 166 i5 (.pointer none) 1 8 Tryz.underlying78 hi5 hz0 hz1 hz2 rfl (by decide) (.slice none 0 0) 0 [] rfl (own_nil _ _ _ _) ⟨gf, 0, none⟩ 1 cf [.pointer (some ⟨w5.heap.size, 0, none⟩)] rfl rfl nw (by simp [Value.oneCell']) (by unfold maxLen; omega) (by omega) (Nat.le_refl _) ?_) | go_in)
  intro v' w9 hown' hgrow hiff hblk
  have b9 : Below w8.heap.size w8 w9 := ⟨hgrow.os, hgrow.tape, hgrow.output, hgrow.size, fun q hq => hgrow.block q hq (by simp [Value.ownBlock])⟩
  obtain ⟨p9, c9, rfl⟩ := own_shape hown'
  have e12' := cell_later b9 e12
  have ef9 : ∀ o, w9.frozen? ⟨D.E, o, none⟩ = false := fun o => (World.frozen?_of_block (a := ⟨D.E, o, none⟩) (b9.block _ hE8)).trans (ef o)
  have HO := hideIt hown'
  have HB9 := hideIt b9
  clear hown' hgrow hiff hblk b9 e12 ef nw
  go_upto_region 24 with (first | (at_builtin; refine wpList_append_own_none rfl (.tmp 102) (.tmp 103) 78 rfl w8.heap.size 166 i5 1 Tryz.underlying78 hi5 (.slice p9 (0 + 1) c9) (0 + 1) [.pointer (some ⟨w5.heap.size, 0, none⟩)] rfl HO.out rfl ?_) | fail)
  obtain ⟨L8, t0⟩ := HY8.out
  obtain ⟨R, hg, hgn, hel⟩ := HQ.out
  obtain ⟨z1, z3, z4, z5, z6, bw5, S5⟩ := HZ5.out
  have b9 := HB9.out
  have L9 := L8.below b9
  have hplo := L9.lo
  have hpE : ∀ q, p.has q → q ≠ D.E := fun q hq e => by have := hplo q hq; omega
  obtain ⟨v9, hv9⟩ : ∃ v9 : Value, .slice p9 (0 + 1) c9 = v9 := ⟨_, rfl⟩
  rw [hv9]
  have S10 := L9.s.put (k := 12) (by omega) v9
  have ps10 : PSt (w9.setCell ⟨D.E, 12, none⟩ v9) D p := L9.ps.keep (fun q hq _ => far_set (hpE q hq)) (World.cell?_of_block (a := ⟨p.IX, 0, none⟩) (far_set (hpE p.IX (.inr (.inr (.inr (.inr (.inr (.inl rfl)))))))))
  have n10 : IxN (w9.setCell ⟨D.E, 12, none⟩ v9) p.IX := L9.n.blk (far_set (hpE p.IX (.inr (.inr (.inr (.inr (.inr (.inl rfl))))))))
  have W10 : Ws (fun q => q = D.rb 0 ∨ q = D.E) w (w9.setCell ⟨D.E, 12, none⟩ v9) := ((Ws.of_below bw5).trans L9.W).set (.inl (.inr rfl))
  have hghE : gh ≠ D.E := by omega
  have hgfE : gf ≠ D.E := by omega
  have hghr : gh ≠ D.rb 0 := by omega
  have gh10 : (w9.setCell ⟨D.E, 12, none⟩ v9).cell? ⟨gh, 0, none⟩ = some (.pointer (some ⟨D.rb 2, 0, none⟩)) := (World.cell?_of_block (a := ⟨gh, 0, none⟩) (far_set hghE)).trans ((World.cell?_of_block (a := ⟨gh, 0, none⟩) (L9.W.block gh hghl5 (fun e => by rcases e with e | e; exact hghr e; exact hghE e))).trans z1)
  have gf10 : (w9.setCell ⟨D.E, 12, none⟩ v9).cell? ⟨gf, 0, none⟩ = some (.pointer (some ⟨w5.heap.size, 0, none⟩)) := (World.cell?_of_block (a := ⟨gf, 0, none⟩) (far_set hgfE)).trans (cell_later b9 t0)
  have hs10 : w8.heap.size ≤ (w9.setCell ⟨D.E, 12, none⟩ v9).heap.size := by have := b9.size; simpa using this
  clear L8 L9 t0 z1 z3 z4 z5 z6 S5 b9 HY8 HB9 HO e12' ef9 hE8
  generalize w9.setCell ⟨D.E, 12, none⟩ v9 = w10 at *
  obtain ⟨c10, hc10⟩ : ∃ c10, updV (updV c 20 (.int .i64 1)) 12 v9 = c10 := ⟨_, rfl⟩
  have ag10 : ∀ k, k ≠ 12 → k ≠ 20 → c10 k = c k := fun k h1 h2 => by rw [← hc10, updV_other _ _ h1, updV_other _ _ h2]
  rw [hc10] at S10
  clear hc10
  have hrf := first_refresh (lo := w5.heap.size) S10 ps10 n10 (fun k q hk hq => Nat.lt_of_lt_of_le (hel k q hk hq) hsz) hplo ((ag10 5 (by omega) (by omega)).trans R.c5) R.ix R.A.1 R.r0 (by have := R.o; omega)
  have HY10 := hideIt (And.intro S10 (And.intro ps10 (And.intro W10 (And.intro gh10 (And.intro ag10 (And.intro hplo bw5))))))
  clear S10 ps10 n10 W10 gh10 ag10 bw5 R hg hgn hel
  go_wp2_with fail
  refine hrf.mono ?_
  rintro e w11 ⟨rfl, ⟨ii, iw11, ip, ic11, hi1, hi2⟩, Wx⟩
  clear hrf
  obtain ⟨S10, ps10, W10, gh10, ag10, hplo', bw5⟩ := HY10.out
  obtain ⟨R, hg, hgn, hel⟩ := HQ.out
  have hIX := hplo p.IX (.inr (.inr (.inr (.inr (.inr (.inl rfl))))))
  have hsx := Wx.size
  have S11 : ES w11 D c10 (X1 X (.slice (some ⟨p.gi, 0, none⟩) 1 p.ci)) := S10.keep Wx.size (fun k q hk _ _ hq => Wx.block q (S10.flt k q hk hq) (fun e => by have := hel k q hk (fpE_X1.1 hq); omega))
  have ps11 : PSt w11 D p := ps10.keep (fun q hq hne => Wx.block q (ps10.lt hq) hne) (by rw [ic11.c0, ps10.ix.c0])
  have W11 : Ws (fun q => q = D.rb 0 ∨ q = D.E) w w11 := W10.then (Ws.of_wr (S := fun q => q = p.IX) Wx rfl) (fun q e => .inr (by omega))
  have hghX : gh ≠ p.IX := by omega
  have gh11 := (World.cell?_of_block (a := ⟨gh, 0, none⟩) (Wx.block gh (World.block_lt_of_cell? _ _ gh10) hghX)).trans gh10
  have hgfX : gf ≠ p.IX := fun e => by
    have t := ps10.ix.c0
    rw [← e, gf10] at t
    simp at t
  have gf11 := (World.cell?_of_block (a := ⟨gf, 0, none⟩) (Wx.block gf (World.block_lt_of_cell? _ _ gf10) hgfX)).trans gf10
  have e17 := S11.e.get ((ag10 17 (by omega) (by omega)).trans R.c17) (by omega)
  have ef11 := S11.e.fz
  have HY11 := hideIt (And.intro S11 (And.intro ps11 (And.intro W11 (And.intro gh11 (And.intro ag10 (And.intro iw11 (And.intro ip (And.intro hi1 hi2))))))))
  have hs11 : w5.heap.size ≤ w11.heap.size := by omega
  clear S10 ps10 W10 gh10 ag10 hplo' bw5 S11 ps11 W11 gh11 iw11 ip ic11 hi1 hi2 Wx R hg hgn hel HY10 gf10
  go_upto_region 26 with fail
  obtain ⟨S11, ps11, W11, gh11, ag10, iw11, ip, hi1, hi2⟩ := HY11.out
  obtain ⟨R, hg, hgn, hel⟩ := HQ.out
  have hne : ∀ q, w5.heap.size ≤ q → q ≠ D.E := fun q hq e => by omega
  have S12 := S11.put (k := 17) (by omega) (.int .i64 1)
  have ps12 : PSt (w11.setCell ⟨D.E, 17, none⟩ (.int .i64 1)) D p := ps11.keep (fun q hq _ => far_set (hpE q hq)) (World.cell?_of_block (a := ⟨p.IX, 0, none⟩) (far_set (hne p.IX hIX)))
  have iw12 : IxW (w11.setCell ⟨D.E, 17, none⟩ (.int .i64 1)) p.IX ii.gh ii.go ii.co (X 0).s.rows (X 0).s.rows ii.hd ii.ol := iw11.keep (far_set (hne p.IX hIX)) (far_set (hne ii.gh (by omega))) (far_set (hne ii.go (by omega)))
  have W12 : Ws (fun q => q = D.rb 0 ∨ q = D.E) w (w11.setCell ⟨D.E, 17, none⟩ (.int .i64 1)) := W11.set (.inl (.inr rfl))
  have gh12 : (w11.setCell ⟨D.E, 17, none⟩ (.int .i64 1)).cell? ⟨gh, 0, none⟩ = some (.pointer (some ⟨D.rb 2, 0, none⟩)) := (World.cell?_of_block (a := ⟨gh, 0, none⟩) (far_set hghE)).trans gh11
  have gf12 : (w11.setCell ⟨D.E, 17, none⟩ (.int .i64 1)).cell? ⟨gf, 0, none⟩ = some (.pointer (some ⟨w5.heap.size, 0, none⟩)) := (World.cell?_of_block (a := ⟨gf, 0, none⟩) (far_set hgfE)).trans gf11
  have hs12 : w11.heap.size = (w11.setCell ⟨D.E, 17, none⟩ (.int .i64 1)).heap.size := by simp
  clear S11 ps11 W11 gh11 iw11 HY11 e17 ef11 gf11
  generalize w11.setCell ⟨D.E, 17, none⟩ (.int .i64 1) = w12 at *
  obtain ⟨c12, hc12⟩ : ∃ c12, updV c10 17 (.int .i64 1) = c12 := ⟨_, rfl⟩
  have ag : ∀ k, k ≠ 12 → k ≠ 17 → k ≠ 20 → c12 k = c k := fun k h1 h2 h3 => by rw [← hc12, updV_other _ _ h2]; exact ag10 k h1 h3
  have c17 : c12 17 = .int .i64 1 := by rw [← hc12]; exact updV_same _ _ _
  rw [hc12] at S12
  clear hc12 ag10
  obtain ⟨vi, hvi⟩ : ∃ vi : Value, .slice (some ⟨p.gi, 0, none⟩) 1 p.ci = vi := ⟨_, rfl⟩
  have hDK := R.dk vi
  have hE2 : X1 X vi 2 = X 2 := X1_o _ _ (by omega)
  have hE0 : (X1 X vi 0).s.rows = (X 0).s.rows ∧ (X1 X vi 0).d = (X 0).d := by rw [X1_0]; exact ⟨rfl, rfl⟩
  have hel5 : ∀ k q, k < 9 → fpE D (X1 X vi) k q → q < w5.heap.size := fun k q hk hq => Nat.lt_of_lt_of_le (hel k q hk (fpE_X1.1 hq)) hsz
  have S12' := S12
  rw [hvi] at S12'
  have hrs : RunS (D.Q (X1 X vi) w12) (D.rp (X1 X vi) p ii) := S12'.runS hDK ps12 (by rw [hE0.1]; exact iw12) (by rw [hE0.1, hE0.2]; exact ip) hel5 hplo ⟨by omega, by omega⟩
  have Z12 : CuZ w12 D := R.cuz.keep (W12.block _ (hel 1 _ (by omega) rfl) (fun e => by
    rcases e with e | e
    · have := R.s.dj 1 5 D.GR (by omega) (by omega) rfl (.inl e); omega
    · have := R.s.dj 1 0 D.GR (by omega) (by omega) rfl e; omega)) (W12.block _ (hel 2 _ (by omega) rfl) (fun e => by
    rcases e with e | e
    · have := R.s.dj 2 5 D.GC (by omega) (by omega) rfl (.inl e); omega
    · have := R.s.dj 2 0 D.GC (by omega) (by omega) rfl e; omega))
  have hra := S12'.runAt Z12 ((ag 21 (by omega) (by omega) (by omega)).trans R.c21) ((ag 22 (by omega) (by omega) (by omega)).trans R.c22) ((ag 23 (by omega) (by omega) (by omega)).trans R.c23) ((ag 14 (by omega) (by omega) (by omega)).trans R.c14)
  have hri : RI (D.rp (X1 X vi) p ii) D.T0 D.B (RD.x0 c12 (X1 X vi)).c (RD.x0 c12 (X1 X vi)).s (RD.x0 c12 (X1 X vi)) (fun _ => False) := by
    refine ⟨?_, ⟨rfl, rfl, rfl⟩, (ag 0 (by omega) (by omega) (by omega)).trans R.c0, ?_, ⟨0, (ag 18 (by omega) (by omega) (by omega)).trans R.c18⟩, ⟨0, (ag 19 (by omega) (by omega) (by omega)).trans R.c19⟩, fun k _ _ _ _ _ => rfl, ?_, ⟨0, rfl⟩, rfl, ⟨0, rfl⟩, ⟨0, rfl⟩, ⟨0, rfl⟩, ⟨0, rfl⟩, ?_⟩
    · show (X1 X vi 2).s.A = 3
      rw [hE2]; exact R.A.2.2
    · show c12 16 = .int .i64 ((D.T0 + (X1 X vi 2).s.rows : Nat) : Int)
      rw [hE2, R.r2.1, ag 16 (by omega) (by omega) (by omega)]; exact R.c16
    · show 0 = 3 * (X1 X vi 2).s.rows
      rw [hE2, R.r2.1]
    · refine ⟨fun j hj => ?_, fun r hr hF => hF.elim⟩
      have hj' : j < (X1 X vi 2).s.rows := hj
      rw [hE2, R.r2.1] at hj'
      omega
  have hrn := run_any hra hrs hri ⟨0, rfl⟩ ⟨0, rfl⟩ ⟨0, rfl⟩ R.hB.1 R.hB.2
  have hrun' : Calls Tryz.prog 50 #[.pointer (some ⟨D.E, 0, none⟩), .pointer (some ⟨w5.heap.size, 0, none⟩)] w12 fun e w' => e = .returned (.bool true) ∧ ∃ c' X', Mid w w' D c X p gh c' X' := by
    have hP : (D.rp (X1 X vi) p ii).P = w5.heap.size := HPP.out
    rw [hP] at hrn
    refine hrn.mono ?_
    rintro e w13 ⟨rfl, hend⟩
    refine ⟨rfl, RunEnd.mid (i := ii) (c12 := c12) (w12 := w12) ?_ S12 hel (by omega) ag ⟨1, c17⟩ (R.ix 2 (by omega)) ps12.xi iw12.c3 gh12 ⟨?_, by omega, by omega⟩ W12⟩
    · rw [hvi, ← hE2]; exact hend
    · have := hplo p.gi (.inr (.inr (.inr (.inr (.inr (.inr (.inr rfl)))))))
      omega
  clear hrn hri hra hrs Z12 S12' S12 ps12 iw12 W12 gh12 ag c17 hDK hE2 hE0 hel5 hvi ip hi1 hi2 R hg hgn hel
  go_wp2_with fail
  go_loopg [120] 1 (fun gg v wr => ∃ i : Nat, i + gg = 1 ∧ v = .int .i64 (i : Int) ∧ (i = 0 → wr = w12) ∧ (i = 1 → ∃ c' X', Mid w wr D c X p gh c' X'))
  case atStart => exact ⟨0, by omega, rfl, fun _ => rfl, fun h => by omega⟩
  case round =>
  obtain ⟨i, hi, rfl, hI0, hI1⟩ := hrel
  by_cases hin : i < 1
  · have hi0 : i = 0 := by omega
    subst hi0
    have ew := (hI0 rfl).symm
    subst ew
    clear hI0 hI1
    go_wp2_with fail
    refine hrun'.mono ?_
    rintro e w13 ⟨rfl, hx⟩
    have HX := hideIt hx
    clear hx hrun' gf12
    go_wp2
    go_roundg 0
    case measure => omega
    case rel => exact ⟨1, by omega, by go_num, fun h => by omega, fun _ => HX.out⟩
  have ein : i = 1 := by omega
  have HM := hideIt (hI1 ein)
  have i1 : ¬ ((i : Int) < 1) := by omega
  clear hI0 hI1 hin hi ein hrun' gf12
  obtain ⟨w13, hw13⟩ : ∃ w13, w13 = wr := ⟨_, rfl⟩
  subst hw13
  go_wp2_with fail
  go_loopg [] 1 (fun gg wr => ∃ g0 c' X', g0 = gg ∧ Mid w wr D c X p gh c' X' ∧ (g0 = 0 → (X' 2).s.cur = (X' 2).s.rows) ∧ g0 ≤ 1)
  case atStart =>
    obtain ⟨c', X', h⟩ := HM.out
    exact ⟨1, c', X', rfl, h, fun h => by omega, by omega⟩
  case round =>
  clear HM
  obtain ⟨g0, c2, X2, hg0, Md, hcz, hg1⟩ := hrel
  have htn := turn_any (Md.s.re 2 (by omega)).at'
  have gh2 := Md.hh
  obtain ⟨bt, hbt⟩ : ∃ bt, decide ((X2 2).s.cur < (X2 2).s.rows) = bt := ⟨_, rfl⟩
  rw [hbt] at htn
  have HBT := hideIt hbt
  have HMd := hideIt Md
  have HCZ := hideIt hcz
  clear Md hbt hcz
  obtain ⟨w14, hw14⟩ : ∃ w14, w14 = wr := ⟨_, rfl⟩
  subst hw14
  go_wp2_with fail
  go_loopg [131, 17] 1 (fun gg v v17 wr => ∃ i : Nat, i + gg = 1 ∧ v = .int .i64 (i : Int) ∧ (i = 0 → v17 = .bool false ∧ wr = w14) ∧ (i = 1 → v17 = .bool bt ∧ RelAt wr (D.rb 2) (D.nm 2) { (X2 2).s with old := (X2 2).s.cur, cur := (X2 2).s.rows } ∧ Wr (D.rb 2) w14 wr))
  case atStart => exact ⟨0, by omega, rfl, fun _ => ⟨rfl, rfl⟩, fun h => by omega⟩
  case round =>
  obtain ⟨i, hi, rfl, hI0, hI1⟩ := hrel
  by_cases hin : i < 1
  · have hi0 : i = 0 := by omega
    subst hi0
    obtain ⟨rfl, ew⟩ := hI0 rfl
    replace ew := ew.symm
    subst ew
    clear hI0 hI1
    go_wp2_with fail
    refine htn.mono ?_
    rintro e w15 ⟨rfl, hx, hw⟩
    have HX := hideIt (And.intro hx hw)
    clear hx hw htn
    cases bt
    · go_wp2
      go_roundg 0
      case measure => omega
      case rel => exact ⟨1, by omega, by go_num, fun h => by omega, fun _ => ⟨rfl, HX.out⟩⟩
    · go_wp2
      go_roundg 0
      case measure => omega
      case rel => exact ⟨1, by omega, by go_num, fun h => by omega, fun _ => ⟨rfl, HX.out⟩⟩
  have ein : i = 1 := by omega
  obtain ⟨rfl, Hh15, W15⟩ := hI1 ein
  have i1 : ¬ ((i : Int) < 1) := by omega
  clear hI0 hI1 hin hi ein htn gh2
  have Md := HMd.out.turn W15 Hh15
  obtain ⟨w15, hw15⟩ : ∃ w15, w15 = wr := ⟨_, rfl⟩
  subst hw15
  obtain ⟨R, hg, hgn, hel⟩ := HQ.out
  cases bt
  · have HO := hideIt (Md.out R.A.1)
    clear Md R hg hgn hel W15 Hh15
    go_wp2
    go_ret
    exact ⟨rfl, _, _, HO.out⟩
  · have hb : (X2 2).s.cur < (X2 2).s.rows := by simpa using HBT.out
    have hg1' : g0 = 1 := by
      rcases (by omega : g0 = 0 ∨ g0 = 1) with e | e
      · have := HCZ.out e; omega
      · exact e
    have hrf := Md.refresh R.c5 R.ix R.r0.2.2 hel
    obtain ⟨a, c17⟩ := Md.c17
    have e17 := Md.s.e.get c17 (by omega)
    have ef := Md.s.e.fz
    obtain ⟨a', ha'⟩ : ∃ a', IntKind.i64.wrap (a + 1) = a' := ⟨_, rfl⟩
    have HMz := hideIt (Md.put a')
    clear Md R hg hgn hel W15 Hh15 hb
    go_wp2_with fail
    refine hrf.mono ?_
    rintro e wq ⟨rfl, ew⟩
    replace ew := ew.symm
    subst ew
    clear hrf
    go_upto_region 43 with fail
    generalize w15.setCell ⟨D.E, 17, none⟩ (.int .i64 a') = w16 at *
    clear e17 ef
    go_wp2_with fail
    go_loopg [153] 0 (fun gg v wr => v = .int .i64 0 ∧ wr = w16)
    case atStart => exact ⟨rfl, rfl⟩
    case round =>
      obtain ⟨rfl, ew⟩ := hrel
      replace ew := ew.symm
      subst ew
      go_wp2
      go_roundg 0
      case measure => omega
      case rel => exact ⟨0, _, _, rfl, HMz.out, fun _ => by rw [updX_same], by omega⟩
end Go.Proofs.Qxb6500880aGreat
