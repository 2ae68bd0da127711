import Derived.Deep.CutBlock
import Derived.OwnWalk
import Derived.Maps.AppendAt
import Derived.Maps.OwnSet
import Derived.Maps.OwnOps
import Derived.Laws.ResultCell
import Derived.Test.Qxb6500880aGreatPK
set_option linter.unusedVariables false
set_option linter.unusedSimpArgs false
namespace Go.Proofs.Qxb6500880aGreat
open Go.RowKit

theorem info177 : (Tryz.prog.info? 177).map (fun i => (i.zero, i.size, i.bytes)) = some (some (.agg #[.int .i64 0, .int .i64 0]), 2, 16) := by kernel_rfl
set_option maxRecDepth 20000 in
set_option maxHeartbeats 8000000 in
theorem closeC_any {w : World} {ge ce : Nat} (he : w.cell? ⟨ge, 0, none⟩ = some (.slice none 0 0)) :
    Calls Tryz.prog 47 #[.slice (some ⟨ge, 0, none⟩) 1 ce] w fun e w' => ∃ g, e = .returned (.tuple #[.slice (some ⟨g, 0, none⟩) 1 1, .int .i64 1]) ∧ w.heap.size ≤ g ∧ w'.cell? ⟨g, 0, none⟩ = some (.int .i64 0) ∧ Below w.heap.size w w' := by
  obtain ⟨i3, hi3, hz0, hz1, hz2⟩ := info_parts info3
  obtain ⟨i9, hi9, hx0, hx1, hx2⟩ := info_parts info177
  have hge : ge < w.heap.size := World.block_lt_of_cell? _ _ he
  go_enter Tryz.func47, Tryz.ntmps47
  go_wp2_with (first | (at_make; refine wpList_make_full _ rfl _ _ 41 rfl w.heap.size 3 i3 _ 1 Tryz.underlying41 hi3 hz0 hz1 .i64 .i64 1 1 1 rfl rfl rfl rfl (by rw [hz2]; omega) (by unfold maxLen; omega) (Nat.le_refl _) ?_) | go_in)
  intro w1 own1 grow1
  have b1 : Below w.heap.size w w1 := ⟨grow1.os, grow1.tape, grow1.output, grow1.size, fun k hk => grow1.block k hk (by simp)⟩
  have hg1 : w.heap.size < w1.heap.size := (own1.lt w.heap.size rfl).2
  have g1 : w1.cell? ⟨w.heap.size, 0, none⟩ = some (.int .i64 0) := by
    have e := own1.cellAt 0 (by omega)
    rw [made_one, List.getElem?_replicate, if_pos (by omega)] at e
    exact e
  have gf1 : ∀ o, w1.frozen? ⟨w.heap.size, o, none⟩ = false := fun o => own1.frozenAt o
  have e1 := cell_later b1 he
  have H1 := hideIt (And.intro b1 hg1)
  clear own1 grow1 b1 he
  go_wp2_with (first | (at_make; refine wpList_make_full _ rfl _ _ 41 rfl w1.heap.size 3 i3 _ 1 Tryz.underlying41 hi3 hz0 hz1 .i64 .i64 1 1 1 rfl rfl rfl rfl (by rw [hz2]; omega) (by unfold maxLen; omega) (Nat.le_refl _) ?_) | go_in)
  intro w2 own2 grow2
  have b2 : Below w1.heap.size w1 w2 := ⟨grow2.os, grow2.tape, grow2.output, grow2.size, fun k hk => grow2.block k hk (by simp)⟩
  have hg2 : w1.heap.size < w2.heap.size := (own2.lt w1.heap.size rfl).2
  have o2 : w2.cell? ⟨w1.heap.size, 0, none⟩ = some (.int .i64 0) := by
    have e := own2.cellAt 0 (by omega)
    rw [made_one, List.getElem?_replicate, if_pos (by omega)] at e
    exact e
  have of2 : ∀ o, w2.frozen? ⟨w1.heap.size, o, none⟩ = false := fun o => own2.frozenAt o
  have e2 := cell_later b2 e1
  have g2 := cell_later b2 g1
  have gf2 : ∀ o, w2.frozen? ⟨w.heap.size, o, none⟩ = false := fun o => (World.frozen?_of_block (a := ⟨w.heap.size, o, none⟩) (b2.block _ hg1)).trans (gf1 o)
  have H2 := hideIt (then_ H1.out.1 b2)
  have hsz : w.heap.size < w1.heap.size ∧ w1.heap.size < w2.heap.size := ⟨hg1, hg2⟩
  clear own2 grow2 b2 e1 g1 gf1 H1 hg1 hg2
  generalize hO : w1.heap.size = O at *
  generalize hG : w.heap.size = G at *
  have hOG : ¬ (O = G) := by omega
  have hGO : ¬ (G = O) := by omega
  go_wp2_with fail
  go_loopg [23] 1 (fun gg v wr => ∃ i : Nat, i + gg = 1 ∧ v = .int .i64 (i : Int) ∧ (i = 0 → wr = w2) ∧ (i = 1 → wr = (w2.setCell ⟨G, 0, none⟩ (.int .i64 (-1))).setCell ⟨O, 0, none⟩ (.int .i64 (-1))))
  case atStart => exact ⟨0, by omega, rfl, fun _ => rfl, fun h => by omega⟩
  case round =>
  obtain ⟨i, hi, rfl, hI0, hI1⟩ := hrel
  by_cases hin : i < 1
  · have hi0 : i = 0 := by omega
    subst hi0
    have ew := (hI0 rfl).symm
    subst ew
    clear hI0 hI1
    go_wp2
    go_roundg 0
    case measure => omega
    case rel => exact ⟨1, by omega, by go_num, fun h => by omega, fun _ => rfl⟩
  have ein : i = 1 := by omega
  have ew := (hI1 ein).symm
  subst ew
  have i1 : ¬ ((i : Int) < 1) := by omega
  clear hI0 hI1 hin hi ein
  have G4 : ((w2.setCell ⟨G, 0, none⟩ (.int .i64 (-1))).setCell ⟨O, 0, none⟩ (.int .i64 (-1))).cell? ⟨G, 0, none⟩ = some (.int .i64 (-1)) := (World.cell?_of_block (a := ⟨G, 0, none⟩) (far_set hGO)).trans (World.cell?_setCell_same _ _ _ g2)
  have O4 : ((w2.setCell ⟨G, 0, none⟩ (.int .i64 (-1))).setCell ⟨O, 0, none⟩ (.int .i64 (-1))).cell? ⟨O, 0, none⟩ = some (.int .i64 (-1)) := World.cell?_setCell_same _ _ _ ((World.cell?_of_block (a := ⟨O, 0, none⟩) (far_set hOG)).trans o2)
  have Gf : ∀ o, ((w2.setCell ⟨G, 0, none⟩ (.int .i64 (-1))).setCell ⟨O, 0, none⟩ (.int .i64 (-1))).frozen? ⟨G, o, none⟩ = false := fun o => ((World.frozen?_setCell _ _ _ _).trans (World.frozen?_setCell _ _ _ _)).trans (gf2 o)
  have Of : ∀ o, ((w2.setCell ⟨G, 0, none⟩ (.int .i64 (-1))).setCell ⟨O, 0, none⟩ (.int .i64 (-1))).frozen? ⟨O, o, none⟩ = false := fun o => ((World.frozen?_setCell _ _ _ _).trans (World.frozen?_setCell _ _ _ _)).trans (of2 o)
  have hgeO : ge ≠ O := by omega
  have hgeG : ge ≠ G := by omega
  have E4 : ((w2.setCell ⟨G, 0, none⟩ (.int .i64 (-1))).setCell ⟨O, 0, none⟩ (.int .i64 (-1))).cell? ⟨ge, 0, none⟩ = some (.slice none 0 0) := (World.cell?_of_block (a := ⟨ge, 0, none⟩) ((far_set hgeO).trans (far_set hgeG))).trans e2
  have B4 : Below G w ((w2.setCell ⟨G, 0, none⟩ (.int .i64 (-1))).setCell ⟨O, 0, none⟩ (.int .i64 (-1))) := below_cell (below_cell (by rw [← hG] at H2 ⊢; exact H2.out) (Nat.le_refl _) _) (by omega) _
  have S4 : G < ((w2.setCell ⟨G, 0, none⟩ (.int .i64 (-1))).setCell ⟨O, 0, none⟩ (.int .i64 (-1))).heap.size ∧ O < ((w2.setCell ⟨G, 0, none⟩ (.int .i64 (-1))).setCell ⟨O, 0, none⟩ (.int .i64 (-1))).heap.size := ⟨World.block_lt_of_cell? _ _ G4, World.block_lt_of_cell? _ _ O4⟩
  clear g2 o2 gf2 of2 e2 H2
  generalize ((w2.setCell ⟨G, 0, none⟩ (.int .i64 (-1))).setCell ⟨O, 0, none⟩ (.int .i64 (-1))) = w4 at *
  have HB4 := hideIt B4
  clear B4
  go_wp2_with fail
  go_loopg [34, 7, 8, 9, 10, 3] 1 (fun gg v v7 v8 v9 v10 v3 wr => ∃ i : Nat, i + gg = 1 ∧ v = .int .i64 (i : Int) ∧ (i = 0 → v7 = .slice none 0 0 ∧ v8 = .slice none 0 0 ∧ v9 = .slice none 0 0 ∧ v10 = .int .i64 0 ∧ v3 = .int .i64 0 ∧ wr = w4) ∧ (i = 1 → v3 = .int .i64 1 ∧ wr.cell? ⟨G, 0, none⟩ = some (.int .i64 0) ∧ Below G w wr))
  case atStart => exact ⟨0, by omega, rfl, fun _ => ⟨rfl, rfl, rfl, rfl, rfl, rfl⟩, fun h => by omega⟩
  case round =>
  obtain ⟨i, hi, rfl, hI0, hI1⟩ := hrel
  by_cases hin : i < 1
  · have hi0 : i = 0 := by omega
    subst hi0
    obtain ⟨rfl, rfl, rfl, rfl, rfl, ew⟩ := hI0 rfl
    replace ew := ew.symm
    subst ew
    clear hI0 hI1
    have hw4s : G ≤ w4.heap.size := by omega
    go_wp2_with (first | (at_builtin; refine wpList_append_own_at _ rfl (.tmp 42) (.tmp 45) 175 rfl w4.heap.size 177 i9 (.agg #[.int .i64 0, .int .i64 0]) 2 16 Tryz.underlying175 hi9 hx0 hx1 hx2 rfl (by decide) (.slice none 0 0) 0 [] rfl (own_nil _ _ _ _) ⟨w4.heap.size, 0, none⟩ 1 1 [.int .i64 0, .int .i64 0] rfl rfl (cell_new_2 _ _ _ _) (by simp [Value.oneCell']) (by unfold maxLen; omega) (by omega) (by simp <;> omega) ?_) | go_in)
    intro v' w5 hown' hgrow hiff hblk
    have bN := one_alloc w4 (.cells #[.int .i64 0, .int .i64 0] 177)
    have b5 : Below w4.heap.size w4 w5 := ⟨hgrow.os.trans bN.os, hgrow.tape.trans bN.tape, hgrow.output.trans bN.output, Nat.le_trans bN.size hgrow.size, fun q hq => (hgrow.block q (by have := bN.size; omega) (by simp [Value.ownBlock])).trans (bN.block q hq)⟩
    obtain ⟨gt, ct, rfl, hct, hgt, hgtl, hcl, hcf⟩ := own_full hown' (by omega)
    have t0 : w5.cell? ⟨gt, 0, none⟩ = some (.int .i64 0) := hcl 0 (by omega)
    have t1 : w5.cell? ⟨gt, 1, none⟩ = some (.int .i64 0) := hcl 1 (by omega)
    have G5 := cell_later b5 G4
    have O5 := cell_later b5 O4
    have E5 := cell_later b5 E4
    have Gf5 : ∀ o, w5.frozen? ⟨G, o, none⟩ = false := fun o => (World.frozen?_of_block (a := ⟨G, o, none⟩) (b5.block _ S4.1)).trans (Gf o)
    have Of5 : ∀ o, w5.frozen? ⟨O, o, none⟩ = false := fun o => (World.frozen?_of_block (a := ⟨O, o, none⟩) (b5.block _ S4.2)).trans (Of o)
    have hs5 := b5.size
    have HB5 := hideIt (HB4.out.trans (b5.mono (by omega)))
    have hgtG : ¬ (gt = G) := by omega
    have hgtO : ¬ (gt = O) := by omega
    have hsz5 : G < w5.heap.size ∧ O < w5.heap.size ∧ gt < w5.heap.size := by omega
    clear hown' hgrow hiff hblk bN b5 hcl hcf G4 O4 Gf Of E4 HB4
    go_wp2_with fail
    go_loopg [7, 8, 9, 10, 3] 1 (fun gg v7 v8 v9 v10 v3 wr => (gg = 1 ∧ v7 = .slice (some ⟨gt, 0, none⟩) 1 ct ∧ v8 = .slice none 0 0 ∧ v9 = .slice none 0 0 ∧ v10 = .int .i64 0 ∧ v3 = .int .i64 0 ∧ wr = w5) ∨ (gg = 0 ∧ (∃ p c, v7 = .slice p 0 c) ∧ v3 = .int .i64 1 ∧ wr.cell? ⟨G, 0, none⟩ = some (.int .i64 0) ∧ Below G w wr))
    case atStart => exact .inl ⟨rfl, rfl, rfl, rfl, rfl, rfl, rfl⟩
    case round =>
      rcases hrel with ⟨rfl, rfl, rfl, rfl, rfl, rfl, ew⟩ | ⟨rfl, ⟨p, c7, rfl⟩, rfl, hG0, hBw⟩
      · replace ew := ew.symm
        subst ew
        have O6 : (w5.setCell ⟨O, 0, none⟩ (.int .i64 0)).cell? ⟨O, 0, none⟩ = some (.int .i64 0) := World.cell?_setCell_same _ _ _ O5
        have G6 : (w5.setCell ⟨O, 0, none⟩ (.int .i64 0)).cell? ⟨G, 0, none⟩ = some (.int .i64 (-1)) := (World.cell?_of_block (a := ⟨G, 0, none⟩) (far_set hGO)).trans G5
        have T6 : (w5.setCell ⟨O, 0, none⟩ (.int .i64 0)).cell? ⟨gt, 1, none⟩ = some (.int .i64 0) := (World.cell?_of_block (a := ⟨gt, 1, none⟩) (far_set hgtO)).trans t1
        have E6 : (w5.setCell ⟨O, 0, none⟩ (.int .i64 0)).cell? ⟨ge, 0, none⟩ = some (.slice none 0 0) := (World.cell?_of_block (a := ⟨ge, 0, none⟩) (far_set hgeO)).trans E5
        have Gf6 : ∀ o, (w5.setCell ⟨O, 0, none⟩ (.int .i64 0)).frozen? ⟨G, o, none⟩ = false := fun o => (World.frozen?_setCell _ _ _ _).trans (Gf5 o)
        have B6 : Below G w (w5.setCell ⟨O, 0, none⟩ (.int .i64 0)) := below_cell HB5.out (by omega) _
        have S6 : G < (w5.setCell ⟨O, 0, none⟩ (.int .i64 0)).heap.size ∧ gt < (w5.setCell ⟨O, 0, none⟩ (.int .i64 0)).heap.size := by simp; omega
        have H6 := hideIt (And.intro O6 (And.intro G6 (And.intro T6 (And.intro E6 (And.intro Gf6 (And.intro B6 S6))))))
        clear O6 G6 T6 E6 Gf6 B6 S6
        go_upto_region 24 with fail
        clear t0 t1 O5 G5 E5 Gf5 Of5
        generalize w5.setCell ⟨O, 0, none⟩ (.int .i64 0) = w6 at *
        go_wp2_with (first | (at_builtin; refine wpList_append_own_at _ rfl (.tmp 77) (.tmp 79) 41 rfl w6.heap.size 3 i3 (.int .i64 0) 1 8 Tryz.underlying41 hi3 hz0 hz1 hz2 rfl (by decide) (.slice none 0 0) 0 [] rfl (own_nil _ _ _ _) ⟨w6.heap.size, 0, none⟩ 1 1 [.int .i64 0] rfl rfl (cell_new1 _ _ _) (by simp [Value.oneCell']) (by unfold maxLen; omega) (by omega) (by simp <;> omega) ?_) | go_in)
        intro v8' w7 own8 hgrow hiff hblk
        have bN := one_alloc w6 (.cells #[.int .i64 0] 3)
        have b7 : Below w6.heap.size w6 w7 := ⟨hgrow.os.trans bN.os, hgrow.tape.trans bN.tape, hgrow.output.trans bN.output, Nat.le_trans bN.size hgrow.size, fun q hq => (hgrow.block q (by have := bN.size; omega) (by simp [Value.ownBlock])).trans (bN.block q hq)⟩
        obtain ⟨gp, cp, rfl, hcp, hgp, hgpl, hcl, hcf⟩ := own_full own8 (by omega)
        have p7 : w7.cell? ⟨gp, 0, none⟩ = some (.int .i64 0) := hcl 0 (by omega)
        have H7 := hideIt b7
        clear own8 hgrow hiff hblk bN b7 hcl hcf
        go_wp2_with (first | (at_builtin; refine wpList_append_own_at _ rfl (.tmp 81) (.tmp 83) 41 rfl w7.heap.size 3 i3 (.int .i64 0) 1 8 Tryz.underlying41 hi3 hz0 hz1 hz2 rfl (by decide) (.slice none 0 0) 0 [] rfl (own_nil _ _ _ _) ⟨w7.heap.size, 0, none⟩ 1 1 [.int .i64 0] rfl rfl (cell_new1 _ _ _) (by simp [Value.oneCell']) (by unfold maxLen; omega) (by omega) (by simp <;> omega) ?_) | go_in)
        intro v9' w8 own9 hgrow hiff hblk
        have bN := one_alloc w7 (.cells #[.int .i64 0] 3)
        have b8 : Below w7.heap.size w7 w8 := ⟨hgrow.os.trans bN.os, hgrow.tape.trans bN.tape, hgrow.output.trans bN.output, Nat.le_trans bN.size hgrow.size, fun q hq => (hgrow.block q (by have := bN.size; omega) (by simp [Value.ownBlock])).trans (bN.block q hq)⟩
        obtain ⟨gb, cb, rfl, hcb, hgb, hgbl, hcl, hcf⟩ := own_full own9 (by omega)
        have q8 : w8.cell? ⟨gb, 0, none⟩ = some (.int .i64 0) := hcl 0 (by omega)
        have b68 := then_ H7.out b8
        obtain ⟨O6, G6, T6, E6, Gf6, B6, S6⟩ := H6.out
        have p8 := cell_later b8 p7
        have y1 := cell_later b68 T6
        have y2 := cell_later b68 E6
        have G8 := cell_later b68 G6
        have Gf8 : ∀ o, w8.frozen? ⟨G, o, none⟩ = false := fun o => (World.frozen?_of_block (a := ⟨G, o, none⟩) (b68.block _ S6.1)).trans (Gf6 o)
        have B8 := hideIt (B6.trans (b68.mono (by omega)))
        have hgpG : ¬ (gp = G) := by omega
        have hcp0 : (0 : Int) ≤ (cp : Int) := by omega
        have hcb0 : (0 : Int) ≤ (cb : Int) := by omega
        have hct0 : (0 : Int) ≤ (ct : Int) := by omega
        clear own9 hgrow hiff hblk bN b8 hcl hcf O6 G6 T6 E6 Gf6 B6 b68 p7 H7 H6
        go_upto_region 26 with fail
        refine wp_region_held_drew (S := (fun w' => w'.cell? ⟨gt, 1, none⟩ = some (.int .i64 0) ∧ w'.cell? ⟨ge, 0, none⟩ = some (.slice none 0 0))) (by kernel_rfl) ⟨y1, y2⟩ (fun hHeld => ?_)
        refine wpAnyH_take (i := 0) (oi := { dst := some 85, op := Go.Op.move (Go.Operand.tmp 12), type := 178, pos := _, after := #[], guard := none }) (v := ?vv37001) rfl (by kernel_rfl) (by kernel_rfl) (by kernel_rfl) (fun _ _ _ h => h) (Or.inl ⟨by rfl, ?hy37001⟩) (by assumption) ?tk37001
        case hy37001 => (intro w hSw; (try dsimp only at hSw); go_simp; (try with_reducible rfl))
        try simp only [Act.put, List.setIfInBounds_toArray, List.set_cons_zero, List.set_cons_succ]
        refine wpAnyH_take (i := 1) (oi := { dst := some 86, op := Go.Op.nilCheck (Go.Operand.tmp 85), type := 0, pos := _, after := #[{ on := 0, ground := Go.Ground.data }], guard := none }) (v := ?vv37002) rfl (by kernel_rfl) (by kernel_rfl) (by kernel_rfl) (fun _ _ _ h => h) (Or.inl ⟨by rfl, ?hy37002⟩) (by assumption) ?tk37002
        case hy37002 => (intro w hSw; (try dsimp only at hSw); go_simp; (try with_reducible rfl))
        try simp only [Act.put, List.setIfInBounds_toArray, List.set_cons_zero, List.set_cons_succ]
        refine wpAnyH_take (i := 2) (oi := { dst := some 87, op := Go.Op.fieldAddr 177 (Go.Operand.tmp 86) 1, type := 0, pos := _, after := #[{ on := 1, ground := Go.Ground.data }], guard := none }) (v := ?vv37003) rfl (by kernel_rfl) (by kernel_rfl) (by kernel_rfl) (fun _ _ _ h => h) (Or.inl ⟨by rfl, ?hy37003⟩) (by assumption) ?tk37003
        case hy37003 => (intro w hSw; (try dsimp only at hSw); go_simp; (try with_reducible rfl))
        try simp only [Act.put, List.setIfInBounds_toArray, List.set_cons_zero, List.set_cons_succ]
        refine wpAnyH_take (i := 3) (oi := { dst := some 88, op := Go.Op.load 3 (Go.Operand.tmp 87), type := 3, pos := _, after := #[{ on := 2, ground := Go.Ground.data }], guard := none }) (v := ?vv37004) rfl (by kernel_rfl) (by kernel_rfl) (by kernel_rfl) (fun _ _ _ h => h) (Or.inl ⟨by rfl, ?hy37004⟩) (by assumption) ?tk37004
        case hy37004 => (intro w hSw; (try dsimp only at hSw); go_simp; (try with_reducible rfl))
        try simp only [Act.put, List.setIfInBounds_toArray, List.set_cons_zero, List.set_cons_succ]
        refine wpAnyH_take (i := 4) (oi := { dst := some 89, op := Go.Op.move (Go.Operand.tmp 0), type := 159, pos := _, after := #[], guard := none }) (v := ?vv37005) rfl (by kernel_rfl) (by kernel_rfl) (by kernel_rfl) (fun _ _ _ h => h) (Or.inl ⟨by rfl, ?hy37005⟩) (by assumption) ?tk37005
        case hy37005 => (intro w hSw; (try dsimp only at hSw); go_simp; (try with_reducible rfl))
        try simp only [Act.put, List.setIfInBounds_toArray, List.set_cons_zero, List.set_cons_succ]
        refine wpAnyH_take (i := 5) (oi := { dst := some 90, op := Go.Op.move (Go.Operand.tmp 13), type := 3, pos := _, after := #[], guard := none }) (v := ?vv37006) rfl (by kernel_rfl) (by kernel_rfl) (by kernel_rfl) (fun _ _ _ h => h) (Or.inl ⟨by rfl, ?hy37006⟩) (by assumption) ?tk37006
        case hy37006 => (intro w hSw; (try dsimp only at hSw); go_simp; (try with_reducible rfl))
        try simp only [Act.put, List.setIfInBounds_toArray, List.set_cons_zero, List.set_cons_succ]
        refine wpAnyH_take (i := 6) (oi := { dst := some 91, op := Go.Op.indexAddr 159 (Go.Operand.tmp 89) (Go.Operand.tmp 90), type := 0, pos := _, after := #[{ on := 4, ground := Go.Ground.data }, { on := 5, ground := Go.Ground.data }], guard := none }) (v := ?vv37007) rfl (by kernel_rfl) (by kernel_rfl) (by kernel_rfl) (fun _ _ _ h => h) (Or.inl ⟨by rfl, ?hy37007⟩) (by assumption) ?tk37007
        case hy37007 => (intro w hSw; (try dsimp only at hSw); go_simp; (try with_reducible rfl))
        try simp only [Act.put, List.setIfInBounds_toArray, List.set_cons_zero, List.set_cons_succ]
        refine wpAnyH_take (i := 7) (oi := { dst := some 92, op := Go.Op.load 41 (Go.Operand.tmp 91), type := 41, pos := _, after := #[{ on := 6, ground := Go.Ground.data }], guard := none }) (v := ?vv37008) rfl (by kernel_rfl) (by kernel_rfl) (by kernel_rfl) (fun _ _ _ h => h) (Or.inl ⟨by rfl, ?hy37008⟩) (by assumption) ?tk37008
        case hy37008 => (intro w hSw; (try dsimp only at hSw); go_simp; (try with_reducible rfl))
        try simp only [Act.put, List.setIfInBounds_toArray, List.set_cons_zero, List.set_cons_succ]
        refine wpAnyH_take (i := 8) (oi := { dst := some 93, op := Go.Op.call { callee := Go.Callee.builtin Go.Builtin.len, args := #[Go.Operand.tmp 92], argTypes := #[41] }, type := 3, pos := _, after := #[{ on := 7, ground := Go.Ground.data }], guard := none }) (v := ?vv37009) rfl (by kernel_rfl) (by kernel_rfl) (by kernel_rfl) (fun _ _ _ h => h) (Or.inl ⟨by rfl, ?hy37009⟩) (by assumption) ?tk37009
        case hy37009 => (intro w hSw; (try dsimp only at hSw); go_simp; (try with_reducible rfl))
        try simp only [Act.put, List.setIfInBounds_toArray, List.set_cons_zero, List.set_cons_succ]
        refine wpAnyH_take (i := 9) (oi := { dst := some 94, op := Go.Op.binOp Go.BinOp.lss 3 (Go.Operand.tmp 88) (Go.Operand.tmp 93) 3, type := 4, pos := _, after := #[{ on := 3, ground := Go.Ground.data }, { on := 8, ground := Go.Ground.data }], guard := none }) (v := ?vv37010) rfl (by kernel_rfl) (by kernel_rfl) (by kernel_rfl) (fun _ _ _ h => h) (Or.inl ⟨by rfl, ?hy37010⟩) (by assumption) ?tk37010
        case hy37010 => (intro w hSw; (try dsimp only at hSw); go_simp; (try with_reducible rfl))
        try simp only [Act.put, List.setIfInBounds_toArray, List.set_cons_zero, List.set_cons_succ]
        refine wpAnyH_done (by kernel_rfl) ?_ _
        clear hHeld
        obtain ⟨w9, hw9⟩ : ∃ w9, w8.drew = w9 := ⟨_, rfl⟩
        have G9 : w9.cell? ⟨G, 0, none⟩ = some (.int .i64 (-1)) := by rw [← hw9]; exact G8
        have Gf9 : ∀ o, w9.frozen? ⟨G, o, none⟩ = false := by rw [← hw9]; exact Gf8
        have p9 : w9.cell? ⟨gp, 0, none⟩ = some (.int .i64 0) := by rw [← hw9]; exact p8
        have q9 : w9.cell? ⟨gb, 0, none⟩ = some (.int .i64 0) := by rw [← hw9]; exact q8
        have B9 : Hid (Below G w w9) := hideIt (by rw [← hw9]; exact below_dr B8.out)
        rw [hw9]
        clear hw9 G8 Gf8 p8 q8 B8 y1 y2
        go_wp2_with fail
        go_loopg [8] 0 (fun gg v8 wr => v8 = .slice (some ⟨gp, 0, none⟩) 1 cp ∧ wr = w9)
        case atStart => exact ⟨rfl, rfl⟩
        case round =>
          obtain ⟨rfl, ew⟩ := hrel
          replace ew := ew.symm
          subst ew
          go_wp2
          go_roundg 0
          case measure => omega
          case rel => exact .inr ⟨rfl, ⟨_, _, rfl⟩, rfl, World.cell?_setCell_same _ _ _ G9, below_cell B9.out (Nat.le_refl _) _⟩
      · have HE := hideIt (And.intro hG0 hBw)
        clear hG0 hBw
        go_wp2
        go_roundg 0
        case measure => omega
        case rel => exact ⟨1, by omega, by go_num, fun h => by omega, fun _ => ⟨rfl, HE.out.1, HE.out.2⟩⟩
  · have ein : i = 1 := by omega
    obtain ⟨rfl, hG0, hBw⟩ := hI1 ein
    have i1 : ¬ ((i : Int) < 1) := by omega
    have HE := hideIt (And.intro hG0 hBw)
    clear hI0 hI1 hG0 hBw ein hi hin
    go_wp2
    go_ret2
    exact ⟨G, rfl, Nat.le_refl _, HE.out.1, HE.out.2⟩
end Go.Proofs.Qxb6500880aGreat
