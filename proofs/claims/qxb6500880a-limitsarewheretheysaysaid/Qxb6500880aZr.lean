import Derived.Deep.CutBlock
import Derived.OwnWalk
import Derived.Maps.AppendAt
import Derived.Maps.OwnSet
import Derived.Maps.OwnOps
import Derived.Laws.ResultCell
import Derived.Laws.AppendOwnNone
import Derived.Test.Qxb6500880aZq
set_option linter.unusedVariables false
set_option linter.unusedSimpArgs false
namespace Go.Proofs.Qxb6500880a
open Go.RowKit

/-- The engine as New leaves it. -/
structure Rdy (w : World) (ρ : Rl) (E GR GC RL cr B : Nat) (c : Nat → Value) (nmh nmr : ByteArray) (sh sr : RelS) (f : Nat → Int) (kn : Nat → Bool) : Prop where
  eng : EngAt w E c
  c0 : c 0 = .int .i64 (B : Int)
  c1 : c 1 = .int .u8 0
  c3 : c 3 = .bool false
  c5 : c 5 = .slice (some ⟨RL, 0, none⟩) 2 cr
  c12 : c 12 = .slice none 0 0
  c14 : c 14 = .slice none 0 0
  c16 : c 16 = .int .i64 1
  c17 : c 17 = .int .i64 0
  c18 : c 18 = .int .i64 0
  c19 : c 19 = .int .i64 0
  c21 : c 21 = .slice (some ⟨GR, 0, none⟩) ρ.R ρ.R
  c22 : c 22 = .slice (some ⟨GC, 0, none⟩) ρ.m ρ.m
  c23 : c 23 = .slice none 0 0
  rl0 : w.cell? ⟨RL, 0, none⟩ = some (.pointer (some ⟨ρ.hb, 0, none⟩))
  rl1 : w.cell? ⟨RL, 1, none⟩ = some (.pointer (some ⟨ρ.rb, 0, none⟩))
  ru : RuX w ρ
  hh : RelAt w ρ.hb nmh sh
  hA : sh.A = 0
  h0 : sh.rows = 0
  hd : sh.data = .slice none 0 0
  hs : sh.slots = .slice none 0 0
  hy : sh.why = .slice none 0 0
  hcu : sh.cur = 0
  rr : RelAt w ρ.rb nmr sr
  rA : sr.A = ρ.n
  r1 : sr.rows = 1
  rcu : sr.cur = 1
  rsp : sr.spr = .slice none 0 0
  dz : SymZ w sr.data ρ.n
  sl : SlotAt w sr.slots f
  f1 : f (slotZ ρ.n) = 1
  rz : RegZ w GR ρ.R
  cn : ∀ k, k < ρ.m → CurN w GC k
  cf : ∀ o, w.frozen? ⟨GC, o, none⟩ = false
  kn : RlK ρ kn
  hm : ρ.m ≤ 100
  hn : ρ.n ≤ 100
  hR : ρ.R ≤ 1000
  d1 : GC ≠ E
  d2 : GC ≠ ρ.hb
  d3 : GC ≠ ρ.rb
  d4 : E ≠ ρ.hb
  d5 : E ≠ ρ.rb
  d6 : ρ.hb ≠ ρ.rb
  fx : ∀ q, ρ.has q ∨ q = GR ∨ sr.data.ownBlock = some q ∨ sr.slots.ownBlock = some q ∨ q = RL → q ≠ GC ∧ q ≠ E ∧ q ≠ ρ.hb ∧ q ≠ ρ.rb
theorem info150 : (Try.prog.info? 150).map (fun i => (i.zero, i.size, i.bytes)) = some (some (.pointer none), 1, 8) := by kernel_rfl
theorem below_app {w w1 w2 : World} {o : Obj} (h : (w.alloc o).grownBy w2 none) : Below w.heap.size w w2 := by
  have bN := one_alloc w o
  exact ⟨h.os.trans bN.os, h.tape.trans bN.tape, h.output.trans bN.output, Nat.le_trans bN.size h.size, fun q hq => (h.block q (by have := bN.size; omega) (by simp)).trans (bN.block q hq)⟩
set_option maxRecDepth 20000 in
set_option maxHeartbeats 8000000 in
theorem evaluate_any {w : World} {ρ : Rl} {E GR GC RL cr B gr cgr : Nat} {c : Nat → Value} {nmh nmr : ByteArray} {sh sr : RelS} {f : Nat → Int} {kn : Nat → Bool} (R : Rdy w ρ E GR GC RL cr B c nmh nmr sh sr f kn) (hg : w.cell? ⟨gr, 0, none⟩ = some (.pointer (some ⟨ρ.RB, 0, none⟩))) (hgn : gr ≠ GC ∧ gr ≠ E ∧ gr ≠ ρ.hb ∧ gr ≠ ρ.rb) :
    Calls Try.prog 32 #[.pointer (some ⟨E, 0, none⟩), .slice (some ⟨gr, 0, none⟩) 1 cgr] w fun e w' => e = .returned (.bool (decide (2 ≤ B))) ∧ ∃ c' sh', EngAt w' E c' ∧ HbOk w' ρ.hb nmh sh' ∧ (∀ q, sh'.slots.ownBlock = some q → w.heap.size ≤ q) ∧ (∀ i, i ≠ 12 → i ≠ 14 → i ≠ 16 → i ≠ 17 → i ≠ 18 → i ≠ 19 → i ≠ 23 → c' i = c i) ∧ Ws (fun q => q = GC ∨ q = E ∨ q = ρ.hb ∨ q = ρ.rb) w w' := by
  obtain ⟨i8, hi8, hy0, hy1, hy2⟩ := info_parts info89
  obtain ⟨i5, hi5, hz0, hz1, hz2⟩ := info_parts info150
  have bM := one_alloc w (.map #[] 0)
  have P0 := PM0_new w
  have bP := one_alloc (w.alloc (.map #[] 0)) (.cells #[.pointer (some ⟨E, 0, none⟩), .map (some w.heap.size)] 149)
  have b1 := then_ bM bP
  have P1 : PM0 ((w.alloc (.map #[] 0)).alloc (.cells #[.pointer (some ⟨E, 0, none⟩), .map (some w.heap.size)] 149)) w.heap.size := (bP.block w.heap.size (by simp)).trans P0
  have a0 : ((w.alloc (.map #[] 0)).alloc (.cells #[.pointer (some ⟨E, 0, none⟩), .map (some w.heap.size)] 149)).cell? ⟨w.heap.size + 1, 0, none⟩ = some (.pointer (some ⟨E, 0, none⟩)) := new_cell (by simp) _ _ _
  have a1 : ((w.alloc (.map #[] 0)).alloc (.cells #[.pointer (some ⟨E, 0, none⟩), .map (some w.heap.size)] 149)).cell? ⟨w.heap.size + 1, 1, none⟩ = some (.map (some w.heap.size)) := new_cell (by simp) _ _ _
  have g1 := cell_later b1 hg
  have rb1 := cell_later b1 R.ru.c1
  have hs1 : ((w.alloc (.map #[] 0)).alloc (.cells #[.pointer (some ⟨E, 0, none⟩), .map (some w.heap.size)] 149)).heap.size = w.heap.size + 2 := by simp
  have hmm := @run_makeMap Try.prog
  have hrbl : ρ.rb < w.heap.size := R.rr.lt
  have hhbl : ρ.hb < w.heap.size := R.hh.lt
  have hEl : E < w.heap.size := R.eng.lt
  have hgl : gr < w.heap.size := World.block_lt_of_cell? _ _ hg
  have hm := R.hm
  have HQ := hideIt (And.intro R (And.intro hg hgn))
  have HS1 := hideIt (And.intro hs1 b1)
  clear R hg hgn bM P0 bP b1 hs1
  go_enter Try.func32, Try.ntmps32
  go_upto_region 2 with fail
  generalize ((w.alloc (.map #[] 0)).alloc (.cells #[.pointer (some ⟨E, 0, none⟩), .map (some w.heap.size)] 149)) = w1 at *
  have hlk := P1.lookB (b := ρ.hb)
  obtain ⟨w2, hrun, P2, W2⟩ := P1.put (hb := ρ.hb) 147 (.inr rfl) (.bool true)
  have hs2 := W2.size
  obtain ⟨hs1, b1⟩ := HS1.out
  have b2 : Below w.heap.size w w2 := ⟨W2.os.trans b1.os, W2.tape.trans b1.tape, W2.output.trans b1.output, Nat.le_trans b1.size W2.size, fun q hq => (W2.block q (by omega) (by omega)).trans (b1.block q hq)⟩
  have e2 : w2.heap[w.heap.size + 1]? = w1.heap[w.heap.size + 1]? := W2.block _ (by omega) (by omega)
  have d0 := (World.cell?_of_block (a := ⟨w.heap.size + 1, 0, none⟩) e2).trans a0
  have d1 := (World.cell?_of_block (a := ⟨w.heap.size + 1, 1, none⟩) e2).trans a1
  have hs2' : w.heap.size + 2 ≤ w2.heap.size := by omega
  have H2 := hideIt (And.intro P2 (And.intro b2 (And.intro d0 d1)))
  clear W2 P2 b2 d0 d1 e2 b1 hs1 hs2 P1
  obtain ⟨M, hM⟩ : ∃ M, w.heap.size = M := ⟨_, rfl⟩
  obtain ⟨PL, hPL⟩ : ∃ PL, M + 1 = PL := ⟨_, rfl⟩
  have HMM := hideIt (And.intro hM hPL)
  rw [hM] at a0 a1 hlk hrun hrbl hhbl hEl hgl hs2' H2
  rw [hPL] at a0 a1 H2
  rw [hM, hPL]
  have hPLM : M < PL ∧ PL < w2.heap.size := by omega
  clear hM hPL
  go_wp2_with fail
  go_loopg [28, 6] 1 (fun gg v v6 wr => ∃ i : Nat, i + gg = 1 ∧ v = .int .i64 (i : Int) ∧ (i = 0 → v6 = .slice none 0 0 ∧ wr = w1) ∧ (i = 1 → ∃ gh ch, v6 = .slice (some ⟨gh, 0, none⟩) 1 ch ∧ wr.cell? ⟨gh, 0, none⟩ = some (.pointer (some ⟨ρ.hb, 0, none⟩)) ∧ PL < gh ∧ PM1 wr M ρ.hb (.bool true) ∧ wr.cell? ⟨PL, 0, none⟩ = some (.pointer (some ⟨E, 0, none⟩)) ∧ wr.cell? ⟨PL, 1, none⟩ = some (.map (some M)) ∧ Below M w wr))
  case atStart => exact ⟨0, by omega, rfl, fun _ => ⟨rfl, rfl⟩, fun h => by omega⟩
  case round =>
  obtain ⟨i, hi, rfl, hI0, hI1⟩ := hrel
  by_cases hin : i < 1
  · have hi0 : i = 0 := by omega
    subst hi0
    obtain ⟨rfl, ew⟩ := hI0 rfl
    replace ew := ew.symm
    subst ew
    clear hI0 hI1
    go_wp2_with (first | (at_builtin; refine wpList_append_own_at _ rfl (.tmp 49) (.tmp 51) 65 rfl w2.heap.size 89 i8 (.pointer none) 1 8 Try.underlying65 hi8 hy0 hy1 hy2 rfl (by decide) (.slice none 0 0) 0 [] rfl (own_nil _ _ _ _) ⟨w2.heap.size, 0, none⟩ 1 1 [.pointer (some ⟨ρ.hb, 0, none⟩)] rfl rfl (cell_new1 _ _ _) (by simp [Value.oneCell']) (by unfold maxLen; omega) (by omega) (by simp <;> omega) ?_) | go_in)
    intro v' w3 hown' hgrow hiff hblk
    have b3 := below_app (w1 := w3) hgrow
    obtain ⟨gh, ch, rfl, hch, hgh, hghl, hcl, hcf⟩ := own_full hown' (by omega)
    have t0 : w3.cell? ⟨gh, 0, none⟩ = some (.pointer (some ⟨ρ.hb, 0, none⟩)) := hcl 0 (by omega)
    obtain ⟨P2, b2, d0, d1⟩ := H2.out
    have H3 := hideIt (And.intro t0 (And.intro (P2.below b3) (And.intro (cell_later b3 d0) (And.intro (cell_later b3 d1) (b2.trans (b3.mono (by omega)))))))
    clear hown' hgrow hiff hblk b3 hcl hcf t0 P2 b2 d0 d1
    go_wp2
    go_roundg 0
    case measure => omega
    case rel =>
      obtain ⟨z1, z2, z3, z4, z5⟩ := H3.out
      exact ⟨1, by omega, by go_num, fun h => by omega, fun _ => ⟨gh, ch, rfl, z1, by omega, z2, z3, z4, z5⟩⟩
  have ein : i = 1 := by omega
  obtain ⟨gh, ch, rfl, z1, z2, z3, z4, z5, z6⟩ := hI1 ein
  have i1 : ¬ ((i : Int) < 1) := by omega
  clear hI0 hI1 hin hi ein hlk hrun a0 a1 g1 rb1 H2
  obtain ⟨w5, hw5⟩ : ∃ w5, w5 = wr := ⟨_, rfl⟩
  subst hw5
  obtain ⟨R, hg, hgn⟩ := HQ.out
  have bw5 : Below w.heap.size w w5 := by rw [HMM.out.1]; exact z6
  have g5 := cell_later bw5 hg
  have hpl := plan_any (S := fun q => q = GC ∨ q = E ∨ q = ρ.hb ∨ q = ρ.rb) (PL := PL) (E := E) z4 (cell_later bw5 (R.eng.get R.c1 (by omega))) (cell_later bw5 (R.eng.get R.c3 (by omega))) (R.ru.below bw5) R.kn (R.rr.below bw5) R.r1 R.rA (R.dz.below bw5) (fun e => (R.fx ρ.rb (.inr (.inr (.inl e)))).2.2.2 rfl) (.inl R.rsp) (fun q hq => by
    have h1 := R.eng.lt
    have h2 := bw5.size
    have h3 : GC < w.heap.size := World.block_lt_of_cell? _ _ (R.cn 0 R.ru.m0).c0
    rcases hq with e | e | e | e
    · rw [e]; omega
    · rw [e]; omega
    · rw [e]; have := R.hh.lt; omega
    · rw [e]; have := R.rr.lt; omega) (.inr (.inr (.inr rfl))) (fun q hq => (R.fx q (.inl hq)).2.2.2) ⟨by omega, R.d5⟩ R.hm R.hn R.hR
  have r4 := (R.ru.below bw5).c4
  have hMs : M ≤ w5.heap.size := by have := bw5.size; have := HMM.out.1; omega
  have hPLl : PL < w5.heap.size := World.block_lt_of_cell? _ _ z4
  have hRBl : ρ.RB < w5.heap.size := (R.ru.below bw5).lt (.inl rfl)
  have hRBne : ρ.RB ≠ ρ.rb := (R.fx ρ.RB (.inl (.inl rfl))).2.2.2
  have HZ5 := hideIt (And.intro z1 (And.intro z3 (And.intro z4 (And.intro z5 z6))))
  clear R hg hgn bw5 z1 z3 z4 z5 z6
  go_wp2_with fail
  go_loopg [56, 10, 11] 1 (fun gg v v10 v11 wr => ∃ i : Nat, i + gg = 1 ∧ v = .int .i64 (i : Int) ∧ (i = 0 → v10 = .slice none 0 0 ∧ v11 = .slice none 0 0 ∧ wr = w5) ∧ (i = 1 → v11 = .slice none 0 0 ∧ ∃ gf cf sv ky ac sp sa, v10 = .slice (some ⟨gf, 0, none⟩) 1 cf ∧ wr.cell? ⟨gf, 0, none⟩ = some (.pointer (some ⟨w5.heap.size, 0, none⟩)) ∧ w5.heap.size < gf ∧ PlI wr w5.heap.size (w5.heap.size + 1) ρ kn ρ.m sv ky ac ∧ RelAt wr ρ.rb nmr { sr with spr := sp, sat := sa } ∧ Wr ρ.rb w5 wr))
  case atStart => exact ⟨0, by omega, rfl, fun _ => ⟨rfl, rfl, rfl⟩, fun h => by omega⟩
  case round =>
  obtain ⟨i, hi, rfl, hI0, hI1⟩ := hrel
  by_cases hin : i < 1
  · have hi0 : i = 0 := by omega
    subst hi0
    obtain ⟨rfl, rfl, ew⟩ := hI0 rfl
    replace ew := ew.symm
    subst ew
    clear hI0 hI1
    go_wp2_with fail
    refine hpl.mono ?_
    rintro e w6 ⟨rfl, ⟨sv, ky, ac, I6⟩, sp, sa, H6, S6, W6⟩
    have hs6 := W6.size
    have hP6 : w5.heap.size < w6.heap.size := World.block_lt_of_cell? _ _ I6.c0
    have q4 := (World.cell?_of_block (a := ⟨ρ.RB, 4, none⟩) (W6.block _ hRBl hRBne)).trans r4
    have HX6 := hideIt (And.intro I6 (And.intro H6 W6))
    clear I6 H6 S6 W6 hpl
    go_wp2_with (first | (at_builtin; refine wpList_append_own_at _ rfl (.tmp 60) (.tmp 64) 67 rfl w6.heap.size 150 i5 (.pointer none) 1 8 Try.underlying67 hi5 hz0 hz1 hz2 rfl (by decide) (.slice none 0 0) 0 [] rfl (own_nil _ _ _ _) ⟨w6.heap.size, 0, none⟩ 1 1 [.pointer (some ⟨w5.heap.size, 0, none⟩)] rfl rfl (cell_new1 _ _ _) (by simp [Value.oneCell']) (by unfold maxLen; omega) (by omega) (by simp <;> omega) ?_) | go_in)
    intro v' w7 hown' hgrow hiff hblk
    have b7 := below_app (w1 := w7) hgrow
    obtain ⟨gf, cf, rfl, hcf', hgf, hgfl, hcl, hcf⟩ := own_full hown' (by omega)
    have t0 : w7.cell? ⟨gf, 0, none⟩ = some (.pointer (some ⟨w5.heap.size, 0, none⟩)) := hcl 0 (by omega)
    obtain ⟨I6, H6, W6⟩ := HX6.out
    have q47 := cell_later b7 q4
    have H7 := hideIt (And.intro t0 (And.intro (I6.keep (fun q hq => b7.block q (I6.lt hq).2) : PlI w7 _ _ _ _ _ _ _ _) (And.intro (H6.below b7) (W6.below b7))))
    clear hown' hgrow hiff hblk b7 hcl hcf t0 I6 H6 W6 HX6 q4
    go_wp2_with fail
    go_loopg [71, 11] ρ.m (fun gg v v11 wr => ∃ k : Nat, k + gg = ρ.m ∧ v = .int .i64 (k : Int) ∧ v11 = .slice none 0 0 ∧ Below w7.heap.size w7 wr)
    case atStart => exact ⟨0, by omega, rfl, rfl, Below.refl _ _⟩
    case round =>
      obtain ⟨k, hk, rfl, rfl, bw⟩ := hrel
      by_cases hkn : k < ρ.m
      · have k0 : (0 : Int) ≤ k := by omega
        have k1 : (k : Int) < (ρ.m : Int) := by omega
        obtain ⟨t0, I7, H7', W7⟩ := H7.out
        obtain ⟨z1, z3, z4, z5, z6⟩ := HZ5.out
        obtain ⟨R, hg, hgn⟩ := HQ.out
        have bw5 : Below w.heap.size w w5 := by rw [HMM.out.1]; exact z6
        have W5r : Wr ρ.rb w5 wr := W7.below bw
        have R5 := R.ru.below bw5
        have RR : RuX wr ρ := R5.keep (fun q hq => W5r.block q (R5.lt hq) (R.fx q (.inl hq)).2.2.2)
        have y1 := (World.cell?_of_block (a := ⟨PL, 1, none⟩) (W5r.block PL hPLl (by omega))).trans z5
        have y2 := RR.c4
        have y3 := (RR.j k hkn).1
        have P5 : PM1 wr M ρ.hb (.bool true) := z3.blk (W5r.block M z3.lt (by omega))
        have HH := (R.hh.below bw5).blk (W5r.block ρ.hb (R.hh.below bw5).lt R.d6)
        have HR7 := H7'.below bw
        have hms : ∀ w' : World, w'.heap[M]? = wr.heap[M]? → w'.heap[ρ.hb]? = wr.heap[ρ.hb]? → w'.heap[ρ.rb]? = wr.heap[ρ.rb]? → (Instr.lookup 147 (.map (some M)) (.pointer (some ⟨ρ.rb, 0, none⟩)) false).run Try.prog w' = .ok (.bool false) w' := fun w' e1 e2 e3 => (P5.blk e1).missB (fun e => R.d6 e.symm) (HR7.blk e3).nm (HR7.blk e3).fz (HH.blk e2).nm (HH.blk e2).fz
        have HB := hideIt bw
        clear t0 I7 H7' W7 z1 z3 z4 z5 z6 R hg hgn bw5 W5r R5 RR P5 HH HR7 bw
        go_upto_region 19 with fail
        refine wp_region_held_drew (S := (fun w' => w'.cell? ⟨PL, 1, none⟩ = some (.map (some M)) ∧ w'.cell? ⟨ρ.RB, 4, none⟩ = some (.slice (some ⟨ρ.gj, 0, none⟩) ρ.m ρ.cj) ∧ w'.cell? ⟨ρ.gj, k * 3, none⟩ = some (.pointer (some ⟨ρ.rb, 0, none⟩)) ∧ w'.heap[M]? = wr.heap[M]? ∧ w'.heap[ρ.hb]? = wr.heap[ρ.hb]? ∧ w'.heap[ρ.rb]? = wr.heap[ρ.rb]?)) (by kernel_rfl) ⟨y1, y2, y3, rfl, rfl, rfl⟩ (fun hHeld => ?_)
        refine wpAnyH_take (i := 0) (oi := { dst := some 74, op := Go.Op.move (Go.Operand.tmp 5), type := 146, pos := _, after := #[], guard := none }) (v := ?vv39001) rfl (by kernel_rfl) (by kernel_rfl) (by kernel_rfl) (fun _ _ _ h => h) (Or.inl ⟨by rfl, ?hy39001⟩) (by assumption) ?tk39001
        case hy39001 => (intro w hSw; (try dsimp only at hSw); go_simp; (try with_reducible rfl))
        try simp only [Act.put, List.setIfInBounds_toArray, List.set_cons_zero, List.set_cons_succ]
        refine wpAnyH_take (i := 1) (oi := { dst := some 75, op := Go.Op.nilCheck (Go.Operand.tmp 74), type := 0, pos := _, after := #[{ on := 0, ground := Go.Ground.data }], guard := none }) (v := ?vv39002) rfl (by kernel_rfl) (by kernel_rfl) (by kernel_rfl) (fun _ _ _ h => h) (Or.inl ⟨by rfl, ?hy39002⟩) (by assumption) ?tk39002
        case hy39002 => (intro w hSw; (try dsimp only at hSw); go_simp; (try with_reducible rfl))
        try simp only [Act.put, List.setIfInBounds_toArray, List.set_cons_zero, List.set_cons_succ]
        refine wpAnyH_take (i := 2) (oi := { dst := some 76, op := Go.Op.fieldAddr 149 (Go.Operand.tmp 75) 1, type := 0, pos := _, after := #[{ on := 1, ground := Go.Ground.data }], guard := none }) (v := ?vv39003) rfl (by kernel_rfl) (by kernel_rfl) (by kernel_rfl) (fun _ _ _ h => h) (Or.inl ⟨by rfl, ?hy39003⟩) (by assumption) ?tk39003
        case hy39003 => (intro w hSw; (try dsimp only at hSw); go_simp; (try with_reducible rfl))
        try simp only [Act.put, List.setIfInBounds_toArray, List.set_cons_zero, List.set_cons_succ]
        refine wpAnyH_take (i := 3) (oi := { dst := some 77, op := Go.Op.load 147 (Go.Operand.tmp 76), type := 147, pos := _, after := #[{ on := 2, ground := Go.Ground.data }], guard := none }) (v := ?vv39004) rfl (by kernel_rfl) (by kernel_rfl) (by kernel_rfl) (fun _ _ _ h => h) (Or.inl ⟨by rfl, ?hy39004⟩) (by assumption) ?tk39004
        case hy39004 => (intro w hSw; (try dsimp only at hSw); go_simp; (try with_reducible rfl))
        try simp only [Act.put, List.setIfInBounds_toArray, List.set_cons_zero, List.set_cons_succ]
        refine wpAnyH_take (i := 4) (oi := { dst := some 78, op := Go.Op.move (Go.Operand.tmp 13), type := 81, pos := _, after := #[], guard := none }) (v := ?vv39005) rfl (by kernel_rfl) (by kernel_rfl) (by kernel_rfl) (fun _ _ _ h => h) (Or.inl ⟨by rfl, ?hy39005⟩) (by assumption) ?tk39005
        case hy39005 => (intro w hSw; (try dsimp only at hSw); go_simp; (try with_reducible rfl))
        try simp only [Act.put, List.setIfInBounds_toArray, List.set_cons_zero, List.set_cons_succ]
        refine wpAnyH_take (i := 5) (oi := { dst := some 79, op := Go.Op.nilCheck (Go.Operand.tmp 78), type := 0, pos := _, after := #[{ on := 4, ground := Go.Ground.data }], guard := none }) (v := ?vv39006) rfl (by kernel_rfl) (by kernel_rfl) (by kernel_rfl) (fun _ _ _ h => h) (Or.inl ⟨by rfl, ?hy39006⟩) (by assumption) ?tk39006
        case hy39006 => (intro w hSw; (try dsimp only at hSw); go_simp; (try with_reducible rfl))
        try simp only [Act.put, List.setIfInBounds_toArray, List.set_cons_zero, List.set_cons_succ]
        refine wpAnyH_take (i := 6) (oi := { dst := some 80, op := Go.Op.fieldAddr 96 (Go.Operand.tmp 79) 2, type := 0, pos := _, after := #[{ on := 5, ground := Go.Ground.data }], guard := none }) (v := ?vv39007) rfl (by kernel_rfl) (by kernel_rfl) (by kernel_rfl) (fun _ _ _ h => h) (Or.inl ⟨by rfl, ?hy39007⟩) (by assumption) ?tk39007
        case hy39007 => (intro w hSw; (try dsimp only at hSw); go_simp; (try with_reducible rfl))
        try simp only [Act.put, List.setIfInBounds_toArray, List.set_cons_zero, List.set_cons_succ]
        refine wpAnyH_take (i := 7) (oi := { dst := some 81, op := Go.Op.load 93 (Go.Operand.tmp 80), type := 93, pos := _, after := #[{ on := 6, ground := Go.Ground.data }], guard := none }) (v := ?vv39008) rfl (by kernel_rfl) (by kernel_rfl) (by kernel_rfl) (fun _ _ _ h => h) (Or.inl ⟨by rfl, ?hy39008⟩) (by assumption) ?tk39008
        case hy39008 => (intro w hSw; (try dsimp only at hSw); go_simp; (try with_reducible rfl))
        try simp only [Act.put, List.setIfInBounds_toArray, List.set_cons_zero, List.set_cons_succ]
        refine wpAnyH_take (i := 8) (oi := { dst := some 82, op := Go.Op.move (Go.Operand.tmp 14), type := 3, pos := _, after := #[], guard := none }) (v := ?vv39009) rfl (by kernel_rfl) (by kernel_rfl) (by kernel_rfl) (fun _ _ _ h => h) (Or.inl ⟨by rfl, ?hy39009⟩) (by assumption) ?tk39009
        case hy39009 => (intro w hSw; (try dsimp only at hSw); go_simp; (try with_reducible rfl))
        try simp only [Act.put, List.setIfInBounds_toArray, List.set_cons_zero, List.set_cons_succ]
        refine wpAnyH_take (i := 9) (oi := { dst := some 83, op := Go.Op.indexAddr 93 (Go.Operand.tmp 81) (Go.Operand.tmp 82), type := 0, pos := _, after := #[{ on := 7, ground := Go.Ground.data }, { on := 8, ground := Go.Ground.data }], guard := none }) (v := ?vv39010) rfl (by kernel_rfl) (by kernel_rfl) (by kernel_rfl) (fun _ _ _ h => h) (Or.inl ⟨by rfl, ?hy39010⟩) (by assumption) ?tk39010
        case hy39010 => (intro w hSw; (try dsimp only at hSw); go_simp; (try with_reducible rfl))
        try simp only [Act.put, List.setIfInBounds_toArray, List.set_cons_zero, List.set_cons_succ]
        refine wpAnyH_take (i := 10) (oi := { dst := some 84, op := Go.Op.fieldAddr 92 (Go.Operand.tmp 83) 0, type := 0, pos := _, after := #[{ on := 9, ground := Go.Ground.data }], guard := none }) (v := ?vv39011) rfl (by kernel_rfl) (by kernel_rfl) (by kernel_rfl) (fun _ _ _ h => h) (Or.inl ⟨by rfl, ?hy39011⟩) (by assumption) ?tk39011
        case hy39011 => (intro w hSw; (try dsimp only at hSw); go_simp; (try with_reducible rfl))
        try simp only [Act.put, List.setIfInBounds_toArray, List.set_cons_zero, List.set_cons_succ]
        refine wpAnyH_take (i := 11) (oi := { dst := some 85, op := Go.Op.load 89 (Go.Operand.tmp 84), type := 89, pos := _, after := #[{ on := 10, ground := Go.Ground.data }], guard := none }) (v := ?vv39012) rfl (by kernel_rfl) (by kernel_rfl) (by kernel_rfl) (fun _ _ _ h => h) (Or.inl ⟨by rfl, ?hy39012⟩) (by assumption) ?tk39012
        case hy39012 => (intro w hSw; (try dsimp only at hSw); go_simp; (try with_reducible rfl))
        try simp only [Act.put, List.setIfInBounds_toArray, List.set_cons_zero, List.set_cons_succ]
        refine wpAnyH_take (i := 12) (oi := { dst := some 86, op := Go.Op.lookup 147 (Go.Operand.tmp 77) (Go.Operand.tmp 85) false, type := 4, pos := _, after := #[{ on := 3, ground := Go.Ground.data }, { on := 11, ground := Go.Ground.data }], guard := none }) (v := ?vv39013) rfl (by kernel_rfl) (by kernel_rfl) (by kernel_rfl) (fun _ _ _ h => h) (Or.inl ⟨by rfl, ?hy39013⟩) (by assumption) ?tk39013
        case hy39013 => (intro w hSw; have hl7 := hms w hSw.2.2.2.1 hSw.2.2.2.2.1 hSw.2.2.2.2.2; (try dsimp only at hSw); go_simp; (try with_reducible rfl))
        try simp only [Act.put, List.setIfInBounds_toArray, List.set_cons_zero, List.set_cons_succ]
        refine wpAnyH_done (by kernel_rfl) ?_ _
        clear hHeld hms
        go_wp2
        go_roundg (ρ.m - (k + 1))
        case measure => omega
        case rel => exact ⟨k + 1, by omega, by go_num, rfl, below_dr HB.out⟩
      · have k1 : ¬ ((k : Int) < (ρ.m : Int)) := by omega
        have HB := hideIt bw
        clear bw
        go_wp2
        go_roundg 0
        case measure => omega
        case rel =>
          obtain ⟨t0, I7, H7', W7⟩ := H7.out
          have bw := HB.out
          exact ⟨1, by omega, by go_num, fun h => by omega, fun _ => ⟨rfl, gf, cf, sv, ky, ac, sp, sa, rfl, cell_later bw t0, by omega, I7.keep (fun q hq => bw.block q (I7.lt hq).2), H7'.below bw, W7.below bw⟩⟩
  have ein : i = 1 := by omega
  obtain ⟨rfl, gf, cf, sv, ky, ac, sp, sa, rfl, t0, hgf, I8, H8, W8⟩ := hI1 ein
  have i1 : ¬ ((i : Int) < 1) := by omega
  clear hI0 hI1 hin hi ein hpl g5 r4
  obtain ⟨w8, hw8⟩ : ∃ w8, w8 = wr := ⟨_, rfl⟩
  subst hw8
  obtain ⟨R, hg, hgn⟩ := HQ.out
  obtain ⟨z1, z3, z4, z5, z6⟩ := HZ5.out
  have bw5 : Below w.heap.size w w5 := by rw [HMM.out.1]; exact z6
  have W08 : Wr ρ.rb w w8 := (Wr.of_below bw5).trans W8
  have k8 : ∀ q, q < w.heap.size → q ≠ ρ.rb → w8.heap[q]? = w.heap[q]? := fun q h1 h2 => W08.block q h1 h2
  obtain ⟨gs, cs, rfl, hcs, hgs, hgsl, hst⟩ := I8.shape R.ru.m0
  obtain ⟨τ, hτ⟩ : ∃ τ : Rt, τ = ⟨E, GR, GC, w5.heap.size, w5.heap.size + 1, gs, cs, ky, ac, kn, nmr, { sr with spr := sp, sat := sa }, f⟩ := ⟨_, rfl⟩
  have hGCl : GC < w.heap.size := World.block_lt_of_cell? _ _ (R.cn 0 R.ru.m0).c0
  have hGRl : GR < w.heap.size := World.block_lt_of_cell? _ _ (R.rz.c _ (R.ru.r 0 0 R.ru.m0 R.ru.n0))
  have hws := bw5.size
  have hMe := HMM.out.1
  have C : EnvC ρ τ := by
    subst hτ
    refine ⟨R.kn, R.rcu, R.r1, R.rA, R.f1, R.hm, R.hn, R.hR, R.ru.n0, R.ru.m0, hcs, R.d1, R.d2, R.d4, fun q hq => ?_⟩
    rcases hq with z | z | z | (z | ⟨j, hj, z⟩) | z | z | z
    · have := R.fx q (.inl z); exact ⟨this.1, this.2.1, this.2.2.1⟩
    · have := R.fx q (.inr (.inl z)); exact ⟨this.1, this.2.1, this.2.2.1⟩
    · change q = w5.heap.size at z; exact ⟨by show q ≠ GC; omega, by show q ≠ E; omega, by omega⟩
    · change q = gs at z; exact ⟨by show q ≠ GC; omega, by show q ≠ E; omega, by omega⟩
    · have := ((I8.ka j hj).lt z).1
      exact ⟨by show q ≠ GC; omega, by show q ≠ E; omega, by omega⟩
    · have := R.fx q (.inr (.inr (.inl z))); exact ⟨this.1, this.2.1, this.2.2.1⟩
    · have := R.fx q (.inr (.inr (.inr (.inl z)))); exact ⟨this.1, this.2.1, this.2.2.1⟩
    · subst z; exact ⟨fun e => R.d3 e.symm, fun e => R.d5 e.symm, fun e => R.d6 e.symm⟩
  have D8 : Dyn w8 ρ τ c (fun _ => none) := by
    subst hτ
    refine ⟨⟨R.ru.keep (fun q hq => k8 q (R.ru.lt hq) (R.fx q (.inl hq)).2.2.2), I8, hst, R.rz.blk (k8 GR hGRl (R.fx GR (.inr (.inl rfl))).2.2.2), H8, R.dz.keep (fun q hq hl => k8 q hl (R.fx q (.inr (.inr (.inl hq)))).2.2.2), R.sl.keep (fun q hq hl => k8 q hl (R.fx q (.inr (.inr (.inr (.inl hq))))).2.2.2)⟩, R.eng.blk (k8 E R.eng.lt R.d5), R.c21, R.c22, fun k hk _ => (R.cn k hk).blk (k8 GC hGCl R.d3), fun k hk r h => by simp at h, fun o => (World.frozen?_of_block (a := ⟨GC, o, none⟩) (k8 GC hGCl R.d3)).trans (R.cf o)⟩
  have Hh8 : RelAt w8 ρ.hb nmh sh := R.hh.blk (k8 ρ.hb R.hh.lt R.d6)
  have hRLl : RL < w.heap.size := World.block_lt_of_cell? _ _ R.rl0
  have hRLn := R.fx RL (.inr (.inr (.inr (.inr rfl))))
  have rl08 := (World.cell?_of_block (a := ⟨RL, 0, none⟩) (k8 RL hRLl hRLn.2.2.2)).trans R.rl0
  have rl18 := (World.cell?_of_block (a := ⟨RL, 1, none⟩) (k8 RL hRLl hRLn.2.2.2)).trans R.rl1
  have hτE : τ.E = E := by rw [hτ]
  have hτG : τ.GC = GC := by rw [hτ]
  have hτP : τ.P = w5.heap.size := by rw [hτ]
  have hτn : τ.nm = nmr := by rw [hτ]
  have hτk : τ.kn = kn := by rw [hτ]
  have gh8 := (World.cell?_of_block (a := ⟨gh, 0, none⟩) (W8.block gh (World.block_lt_of_cell? _ _ z1) (by omega))).trans z1
  have hW8s := W8.size
  have hgfl : gf < w8.heap.size := World.block_lt_of_cell? _ _ t0
  have hghl : gh < w5.heap.size := World.block_lt_of_cell? _ _ z1
  have e12 := D8.eng.get R.c12 (by omega)
  have ef := D8.eng.fz
  rw [hτE] at e12 ef
  have nw : ∀ j u, ([.pointer (some ⟨w5.heap.size, 0, none⟩)] : List Value)[j]? = some u → w8.cell? ((⟨gf, 0, none⟩ : Addr).add j) = some u := by
    intro j u h
    match j, h with
    | 0, h => simp at h; subst h; simpa [Addr.add] using t0
    | j + 1, h => simp at h
  have HT := hideIt (And.intro hτE (And.intro hτG (And.intro hτP (And.intro hτn (And.intro hτk hMe)))))
  have HY8 := hideIt (And.intro D8 (And.intro C (And.intro Hh8 (And.intro W08 (And.intro rl08 (And.intro rl18 (And.intro gh8 t0)))))))
  clear R hg hgn z1 z3 z4 z5 z6 bw5 W08 k8 I8 hst C D8 Hh8 rl08 rl18 hτE hτG hτP hτn hτk gh8 H8 W8 hτ hMe t0 HZ5
  go_wp2_with (first | (at_builtin; refine wpList_append_own_at _ rfl (.tmp 100) (.tmp 101) 67 rfl w8.heap.size 150 i5 (.pointer none) 1 8 Try.underlying67 hi5 hz0 hz1 hz2 rfl (by decide) (.slice none 0 0) 0 [] rfl (own_nil _ _ _ _) ⟨gf, 0, none⟩ 1 cf [.pointer (some ⟨w5.heap.size, 0, none⟩)] rfl rfl nw (by simp [Value.oneCell']) (by unfold maxLen; omega) (by omega) (Nat.le_refl _) ?_) | go_in)
  intro v' w9 hown' hgrow hiff hblk
  have b9 : Below w8.heap.size w8 w9 := ⟨hgrow.os, hgrow.tape, hgrow.output, hgrow.size, fun q hq => hgrow.block q hq (by simp [Value.ownBlock])⟩
  obtain ⟨p9, c9, rfl⟩ := own_shape hown'
  have hE8 : E < w8.heap.size := World.block_lt_of_cell? _ _ e12
  have e12' := cell_later b9 e12
  have ef9 : ∀ o, w9.frozen? ⟨E, o, none⟩ = false := fun o => (World.frozen?_of_block (a := ⟨E, o, none⟩) (b9.block _ hE8)).trans (ef o)
  have HO := hideIt hown'
  have HB9 := hideIt b9
  clear hown' hgrow hiff hblk b9 e12 ef nw
  go_upto_region 24 with (first | (at_builtin; refine wpList_append_own_none rfl (.tmp 102) (.tmp 103) 67 rfl w8.heap.size 150 i5 1 Try.underlying67 hi5 (.slice p9 (0 + 1) c9) (0 + 1) [.pointer (some ⟨w5.heap.size, 0, none⟩)] rfl HO.out rfl ?_) | fail)
  obtain ⟨D8, C, Hh8, W08, rl08, rl18, gh8, t0⟩ := HY8.out
  obtain ⟨hτE, hτG, hτP, hτn, hτk, hMe⟩ := HT.out
  obtain ⟨R, hg, hgn⟩ := HQ.out
  have b9 := HB9.out
  have D10 := (D8.below C b9).put C (o := 12) (by omega) (by omega) (by omega) (.slice p9 (0 + 1) c9)
  rw [hτE] at D10
  have Hh10 : RelAt (w9.setCell ⟨E, 12, none⟩ (.slice p9 (0 + 1) c9)) ρ.hb nmh sh := (Hh8.below b9).blk (far_set (fun e => R.d4 e.symm))
  have rl0 : (w9.setCell ⟨E, 12, none⟩ (.slice p9 (0 + 1) c9)).cell? ⟨RL, 0, none⟩ = some (.pointer (some ⟨ρ.hb, 0, none⟩)) := (World.cell?_of_block (a := ⟨RL, 0, none⟩) (far_set hRLn.2.1)).trans (cell_later b9 rl08)
  have rl1 : (w9.setCell ⟨E, 12, none⟩ (.slice p9 (0 + 1) c9)).cell? ⟨RL, 1, none⟩ = some (.pointer (some ⟨ρ.rb, 0, none⟩)) := (World.cell?_of_block (a := ⟨RL, 1, none⟩) (far_set hRLn.2.1)).trans (cell_later b9 rl18)
  have hghE : gh ≠ E := by omega
  have hgfE : gf ≠ E := by omega
  have gh10 : (w9.setCell ⟨E, 12, none⟩ (.slice p9 (0 + 1) c9)).cell? ⟨gh, 0, none⟩ = some (.pointer (some ⟨ρ.hb, 0, none⟩)) := (World.cell?_of_block (a := ⟨gh, 0, none⟩) (far_set hghE)).trans (cell_later b9 gh8)
  have t10 : (w9.setCell ⟨E, 12, none⟩ (.slice p9 (0 + 1) c9)).cell? ⟨gf, 0, none⟩ = some (.pointer (some ⟨w5.heap.size, 0, none⟩)) := (World.cell?_of_block (a := ⟨gf, 0, none⟩) (far_set hgfE)).trans (cell_later b9 t0)
  have hEw : E < w.heap.size := R.eng.lt
  have W10' : Ws (fun q => q = GC ∨ q = E ∨ q = ρ.hb ∨ q = ρ.rb) w (w9.setCell ⟨E, 12, none⟩ (.slice p9 (0 + 1) c9)) := ((Ws.of_wr W08 (.inr (.inr (.inr rfl)))).below b9).set (.inl (.inr (.inl rfl)))
  clear D8 Hh8 W08 rl08 rl18 gh8 t0 b9 HY8 HB9 HO e12' ef9
  generalize (w9.setCell ⟨E, 12, none⟩ (.slice p9 (0 + 1) c9)) = w10 at *
  have hE10 := D10.eng.get ((updV_other c _ (by omega)).trans R.c5) (by omega)
  have hE17 := D10.eng.get ((updV_other c _ (by omega)).trans R.c17) (by omega)
  have ef10 := D10.eng.fz
  rw [hτE] at hE10 hE17 ef10
  have x7 := D10.env.rel.ix
  have hrf := refresh_any hE10 rl0 rl1 Hh10.ix x7
  have HY10 := hideIt (And.intro D10 (And.intro C (And.intro Hh10 (And.intro rl0 (And.intro rl1 (And.intro gh10 (And.intro t10 W10')))))))
  clear D10 C Hh10 rl0 rl1 gh10 t10 W10' R hg hgn x7 hE10 hτE hτG hτP hτn hτk hMe
  go_wp2_with fail
  refine hrf.mono ?_
  rintro e wq ⟨rfl, ew⟩
  replace ew := ew.symm
  subst ew
  clear hrf
  go_upto_region 26 with fail
  obtain ⟨D10, C, Hh10, rl0, rl1, gh10, t10, W10'⟩ := HY10.out
  obtain ⟨hτE, hτG, hτP, hτn, hτk, hMe⟩ := HT.out
  obtain ⟨R, hg, hgn⟩ := HQ.out
  have D11 := D10.put C (o := 17) (by omega) (by omega) (by omega) (.int .i64 1)
  rw [hτE] at D11
  have Hh11 : RelAt (w10.setCell ⟨E, 17, none⟩ (.int .i64 1)) ρ.hb nmh sh := Hh10.blk (far_set (fun e => R.d4 e.symm))
  have rl0' : (w10.setCell ⟨E, 17, none⟩ (.int .i64 1)).cell? ⟨RL, 0, none⟩ = some (.pointer (some ⟨ρ.hb, 0, none⟩)) := (World.cell?_of_block (a := ⟨RL, 0, none⟩) (far_set hRLn.2.1)).trans rl0
  have gh11 : (w10.setCell ⟨E, 17, none⟩ (.int .i64 1)).cell? ⟨gh, 0, none⟩ = some (.pointer (some ⟨ρ.hb, 0, none⟩)) := (World.cell?_of_block (a := ⟨gh, 0, none⟩) (far_set hghE)).trans gh10
  have t11 : (w10.setCell ⟨E, 17, none⟩ (.int .i64 1)).cell? ⟨gf, 0, none⟩ = some (.pointer (some ⟨w5.heap.size, 0, none⟩)) := (World.cell?_of_block (a := ⟨gf, 0, none⟩) (far_set hgfE)).trans t10
  have W11 : Ws (fun q => q = GC ∨ q = E ∨ q = ρ.hb ∨ q = ρ.rb) w (w10.setCell ⟨E, 17, none⟩ (.int .i64 1)) := W10'.set (.inl (.inr (.inl rfl)))
  clear D10 Hh10 rl0 rl1 gh10 t10 W10' HY10 hE17 ef10
  generalize (w10.setCell ⟨E, 17, none⟩ (.int .i64 1)) = w11 at *
  obtain ⟨c11, hc11⟩ : ∃ c11, updV (updV c 12 (.slice p9 (0 + 1) c9)) 17 (.int .i64 1) = c11 := ⟨_, rfl⟩
  have ag : ∀ i, i ≠ 12 → i ≠ 17 → c11 i = c i := fun i h1 h2 => by rw [← hc11, updV_other _ _ h2, updV_other _ _ h1]
  have c1117 : c11 17 = .int .i64 1 := by rw [← hc11]; exact updV_same _ _ _
  rw [hc11] at D11
  clear hc11
  have hrn := run_any (v := 0) (B := B) D11 C Hh11 R.hA R.h0 R.hd R.hs R.hy ((ag 0 (by omega) (by omega)).trans R.c0) ((ag 14 (by omega) (by omega)).trans R.c14) ((ag 16 (by omega) (by omega)).trans R.c16) ((ag 18 (by omega) (by omega)).trans R.c18) ((ag 19 (by omega) (by omega)).trans R.c19) ((ag 23 (by omega) (by omega)).trans R.c23) (by omega)
  rw [hτE, hτG, hτP] at hrn
  have hsw11 := W11.size
  have hgf11 : gf < w11.heap.size := World.block_lt_of_cell? _ _ t11
  have hgh11 : gh < w11.heap.size := World.block_lt_of_cell? _ _ gh11
  have HY11 := hideIt (And.intro C (And.intro gh11 (And.intro W11 (And.intro ag c1117))))
  clear D11 Hh11 C rl0' gh11 W11 ag c1117 R hg hgn hτE hτG hτP hτn hτk hMe
  obtain ⟨bo, hbo⟩ : ∃ bo, decide (2 ≤ B) = bo := ⟨_, rfl⟩
  rw [hbo] at hrn
  have HBO := hideIt hbo
  clear hbo
  go_wp2_with fail
  go_loopg [120] 1 (fun gg v wr => ∃ i : Nat, i + gg = 1 ∧ v = .int .i64 (i : Int) ∧ (i = 0 → wr = w11) ∧ (i = 1 → bo = true ∧ ∃ c' sh', Dyn wr ρ τ c' (cuD τ.kn) ∧ HbOk wr ρ.hb nmh sh' ∧ sh'.old = sh.old ∧ sh'.cur = sh.cur ∧ (∀ q, sh'.slots.ownBlock = some q → w11.heap.size ≤ q) ∧ (∀ i, i ≠ 14 → i ≠ 16 → i ≠ 18 → i ≠ 19 → i ≠ 23 → c' i = c11 i) ∧ Ws (fun q => q = GC ∨ q = E ∨ q = ρ.hb) w11 wr))
  case atStart => exact ⟨0, by omega, rfl, fun _ => rfl, fun h => by omega⟩
  case round =>
  obtain ⟨i, hi, rfl, hI0, hI1⟩ := hrel
  by_cases hin : i < 1
  · have hi0 : i = 0 := by omega
    subst hi0
    have ew := (hI0 rfl).symm
    subst ew
    clear hI0 hI1
    go_wp2_with fail
    refine hrn.mono ?_
    rintro e w12 ⟨rfl, hx⟩
    have HX := hideIt hx
    clear hx hrn t11
    cases bo
    · go_wp2
      go_ret
      obtain ⟨c', sh', D, K, ho, hcc, hq, ha, W⟩ := HX.out
      obtain ⟨C, gh11, W11, ag, c1117⟩ := HY11.out
      have hτE := HT.out.1
      have hb := HBO.out
      rw [hb]
      refine ⟨rfl, c', sh', by rw [← hτE]; exact D.eng, K, fun q h => Nat.le_trans hsw11 (hq q h), fun i h1 h2 h3 h4 h5 h6 h7 => (ha i h2 h3 h5 h6 h7).trans (ag i h1 h4), W11.trans (W.mono (fun q _ z => by rcases z with z | z | z; exact .inl z; exact .inr (.inl z); exact .inr (.inr (.inl z))))⟩
    · go_wp2
      go_roundg 0
      case measure => omega
      case rel => exact ⟨1, by omega, by go_num, fun h => by omega, fun _ => ⟨by first | exact rfl | exact trivial, HX.out⟩⟩
  have ein : i = 1 := by omega
  obtain ⟨hbo1, c', sh', D, K, ho, hcc, hq, ha, W⟩ := hI1 ein
  have i1 : ¬ ((i : Int) < 1) := by omega
  clear hI0 hI1 hin hi ein hrn t11
  have HBO1 := hideIt hbo1
  clear hbo1
  obtain ⟨w13, hw13⟩ : ∃ w13, w13 = wr := ⟨_, rfl⟩
  subst hw13
  obtain ⟨C, gh11, W11, ag, c1117⟩ := HY11.out
  obtain ⟨hτE, hτG, hτP, hτn, hτk, hMe⟩ := HT.out
  obtain ⟨R, hg, hgn⟩ := HQ.out
  have St : ∃ c' sh' s', EngAt w13 E c' ∧ HbOk w13 ρ.hb nmh sh' ∧ sh'.cur + 1 = 1 ∧ (∀ q, sh'.slots.ownBlock = some q → w11.heap.size ≤ q) ∧ c' 17 = .int .i64 ((1 : Nat) : Int) ∧ (∀ i, i ≠ 12 → i ≠ 14 → i ≠ 16 → i ≠ 17 → i ≠ 18 → i ≠ 19 → i ≠ 23 → c' i = c i) ∧ RelAt w13 ρ.rb nmr s' ∧ w13.cell? ⟨gh, 0, none⟩ = some (.pointer (some ⟨ρ.hb, 0, none⟩)) ∧ Ws (fun q => q = GC ∨ q = E ∨ q = ρ.hb ∨ q = ρ.rb) w w13 := by
    refine ⟨c', sh', τ.s, by rw [← hτE]; exact D.eng, K, by rw [hcc, R.hcu], hq, (ha 17 (by omega) (by omega) (by omega) (by omega) (by omega)).trans c1117, fun i h1 h2 h3 h4 h5 h6 h7 => (ha i h2 h3 h5 h6 h7).trans (ag i h1 h4), by rw [← hτn]; exact D.env.rel, (World.cell?_of_block (a := ⟨gh, 0, none⟩) (W.block gh hgh11 (fun e => by omega))).trans gh11, W11.trans (W.mono (fun q _ z => by rcases z with z | z | z; exact .inl z; exact .inr (.inl z); exact .inr (.inr (.inl z))))⟩
  have HST := hideIt St
  clear St D K ho hcc hq ha W C gh11 W11 ag c1117 hτE hτG hτP hτn hτk hMe R hg hgn HY11
  go_wp2_with fail
  go_loopg [] 1 (fun gg wr => ∃ c' sh' s', EngAt wr E c' ∧ HbOk wr ρ.hb nmh sh' ∧ sh'.cur + gg = 1 ∧ (∀ q, sh'.slots.ownBlock = some q → w11.heap.size ≤ q) ∧ c' 17 = .int .i64 ((2 - gg : Nat) : Int) ∧ (∀ i, i ≠ 12 → i ≠ 14 → i ≠ 16 → i ≠ 17 → i ≠ 18 → i ≠ 19 → i ≠ 23 → c' i = c i) ∧ RelAt wr ρ.rb nmr s' ∧ wr.cell? ⟨gh, 0, none⟩ = some (.pointer (some ⟨ρ.hb, 0, none⟩)) ∧ Ws (fun q => q = GC ∨ q = E ∨ q = ρ.hb ∨ q = ρ.rb) w wr)
  case atStart => exact HST.out
  case round =>
  clear HST
  obtain ⟨g0, hg0⟩ : ∃ g0, g0 = gk := ⟨_, rfl⟩
  subst hg0
  obtain ⟨c2, s2, sx, Eg, K, hcu, hq, h17, ha, Hx, gh2, W⟩ := hrel
  have htn := turn_any K.r
  have hro := K.ro
  obtain ⟨bt, hbt⟩ : ∃ bt, decide (s2.cur < s2.rows) = bt := ⟨_, rfl⟩
  rw [hbt] at htn
  have HBT := hideIt hbt
  have HY := hideIt (And.intro Eg (And.intro K (And.intro hcu (And.intro hq (And.intro h17 (And.intro ha (And.intro Hx (And.intro gh2 (And.intro W hro)))))))))
  obtain ⟨w14, hw14⟩ : ∃ w14, w14 = wr := ⟨_, rfl⟩
  subst hw14
  clear Eg K hcu hq h17 ha Hx W hbt hro
  go_wp2_with fail
  go_loopg [131, 17] 1 (fun gg v v17 wr => ∃ i : Nat, i + gg = 1 ∧ v = .int .i64 (i : Int) ∧ (i = 0 → v17 = .bool false ∧ wr = w14) ∧ (i = 1 → v17 = .bool bt ∧ RelAt wr ρ.hb nmh { s2 with old := s2.cur, cur := s2.rows } ∧ Wr ρ.hb w14 wr))
  case atStart => exact ⟨0, by omega, rfl, fun _ => ⟨rfl, rfl⟩, fun h => by omega⟩
  case round =>
  obtain ⟨i, hi, rfl, hI0, hI1⟩ := hrel
  by_cases hin : i < 1
  · have hi0 : i = 0 := by omega
    subst hi0
    obtain ⟨rfl, ew⟩ := hI0 rfl
    replace ew := ew.symm
    subst ew
    clear hI0 hI1
    go_wp2_with fail
    refine htn.mono ?_
    rintro e w15 ⟨rfl, hx, hw⟩
    have HX := hideIt (And.intro hx hw)
    clear hx hw htn
    cases bt
    · go_wp2
      go_roundg 0
      case measure => omega
      case rel => exact ⟨1, by omega, by go_num, fun h => by omega, fun _ => ⟨rfl, HX.out⟩⟩
    · go_wp2
      go_roundg 0
      case measure => omega
      case rel => exact ⟨1, by omega, by go_num, fun h => by omega, fun _ => ⟨rfl, HX.out⟩⟩
  have ein : i = 1 := by omega
  obtain ⟨rfl, Hh15, W15⟩ := hI1 ein
  have i1 : ¬ ((i : Int) < 1) := by omega
  clear hI0 hI1 hin hi ein htn gh2
  obtain ⟨Eg, K, hcu, hq, h17, ha, Hx, gh2, W, hro⟩ := HY.out
  obtain ⟨R, hg, hgn⟩ := HQ.out
  have hh14 := K.r.lt
  have hEE := Eg.lt
  have Eg5 := Eg.blk (W15.block E hEE R.d4)
  have K5 : HbOk wr ρ.hb nmh { s2 with old := s2.cur, cur := s2.rows } := ⟨Hh15, K.A, K.ro, K.d.zero, K.sl.keep (fun q hq' hl => W15.block q hl (by have := hq q hq'; omega))⟩
  have Hx5 := Hx.blk (W15.block ρ.rb Hx.lt (fun e => R.d6 e.symm))
  have gh5 := (World.cell?_of_block (a := ⟨gh, 0, none⟩) (W15.block gh (World.block_lt_of_cell? _ _ gh2) (by omega))).trans gh2
  have W5 : Ws (fun q => q = GC ∨ q = E ∨ q = ρ.hb ∨ q = ρ.rb) w wr := W.trans (Ws.of_wr W15 (.inr (.inr (.inl rfl))))
  have rl0 := (World.cell?_of_block (a := ⟨RL, 0, none⟩) (W5.block RL hRLl (fun e => by rcases e with e | e | e | e; exact hRLn.1 e; exact hRLn.2.1 e; exact hRLn.2.2.1 e; exact hRLn.2.2.2 e))).trans R.rl0
  have rl1 := (World.cell?_of_block (a := ⟨RL, 1, none⟩) (W5.block RL hRLl (fun e => by rcases e with e | e | e | e; exact hRLn.1 e; exact hRLn.2.1 e; exact hRLn.2.2.1 e; exact hRLn.2.2.2 e))).trans R.rl1
  have e5 := Eg5.get ((ha 5 (by omega) (by omega) (by omega) (by omega) (by omega) (by omega) (by omega)).trans R.c5) (by omega)
  have e17 := Eg5.get h17 (by omega)
  have ef5 := Eg5.fz
  have hrf := refresh_any e5 rl0 rl1 K5.r.ix Hx5.ix
  have HYY := hideIt (And.intro Eg5 (And.intro K5 (And.intro Hx5 (And.intro gh5 (And.intro W5 (And.intro hq (And.intro ha (And.intro hcu hro))))))))
  clear Eg K hq h17 ha Hx gh2 W R hg hgn Eg5 K5 Hx5 gh5 W5 rl0 rl1 e5 W15 Hh15 HY
  cases bt
  · have hb := HBT.out
    go_wp2
    go_ret
    obtain ⟨Eg5, K5, Hx5, gh5, W5, hq, ha, hcu, hro⟩ := HYY.out
    have hb := HBO.out
    rw [hb]
    have hb1 := HBO1.out
    rw [hb1]
    first | exact ⟨rfl, c2, _, Eg5, K5, fun q h => Nat.le_trans hsw11 (hq q h), ha, W5⟩ | exact ⟨rfl, c2, Eg5, _, K5, fun q h => Nat.le_trans hsw11 (hq q h), ha, W5⟩
  · have hb : s2.cur < s2.rows := by simpa using HBT.out
    have hg1 : g0 = 1 := by omega
    subst hg1
    replace e17 : wr.cell? ⟨E, 17, none⟩ = some (.int .i64 1) := e17
    clear hcu hro hb
    go_wp2_with fail
    refine hrf.mono ?_
    rintro e wq ⟨rfl, ew⟩
    replace ew := ew.symm
    subst ew
    clear hrf
    go_upto_region 43 with fail
    obtain ⟨Eg5, K5, Hx5, gh5, W5, hq, ha, hcu', hro'⟩ := HYY.out
    obtain ⟨R, hg, hgn⟩ := HQ.out
    have Eg6 := Eg5.put (k := 17) (by omega) (.int .i64 2)
    have K6 : HbOk (wr.setCell ⟨E, 17, none⟩ (.int .i64 2)) ρ.hb nmh { s2 with old := s2.cur, cur := s2.rows } := K5.keep (fun q hq' => far_set (by rcases hq' with z | z; have := hq q z; omega; intro e; exact R.d4 (e.symm.trans z)))
    have Hx6 : RelAt (wr.setCell ⟨E, 17, none⟩ (.int .i64 2)) ρ.rb nmr sx := Hx5.blk (far_set (fun e => R.d5 e.symm))
    have gh6 : (wr.setCell ⟨E, 17, none⟩ (.int .i64 2)).cell? ⟨gh, 0, none⟩ = some (.pointer (some ⟨ρ.hb, 0, none⟩)) := (World.cell?_of_block (a := ⟨gh, 0, none⟩) (far_set hghE)).trans gh5
    have W6 : Ws (fun q => q = GC ∨ q = E ∨ q = ρ.hb ∨ q = ρ.rb) w (wr.setCell ⟨E, 17, none⟩ (.int .i64 2)) := W5.set (.inl (.inr (.inl rfl)))
    have HZZ := hideIt (And.intro Eg6 (And.intro K6 (And.intro Hx6 (And.intro gh6 (And.intro W6 (And.intro hq (And.intro ha hro')))))))
    clear Eg5 K5 Hx5 gh5 W5 hq ha hcu' hro' R hg hgn Eg6 K6 Hx6 gh6 W6 HYY e17 ef5
    generalize wr.setCell ⟨E, 17, none⟩ (.int .i64 2) = w16 at *
    go_wp2_with fail
    go_loopg [153] 0 (fun gg v wr => v = .int .i64 0 ∧ wr = w16)
    case atStart => exact ⟨rfl, rfl⟩
    case round =>
      obtain ⟨rfl, ew⟩ := hrel
      replace ew := ew.symm
      subst ew
      go_wp2
      go_roundg 0
      case measure => omega
      case rel =>
        obtain ⟨Eg6, K6, Hx6, gh6, W6, hq, ha, hro'⟩ := HZZ.out
        exact ⟨_, _, sx, Eg6, K6, by show s2.rows + 0 = 1; omega, hq, updV_same _ _ _, fun i h1 h2 h3 h4 h5 h6 h7 => (updV_other _ _ h4).trans (ha i h1 h2 h3 h4 h5 h6 h7), Hx6, gh6, W6⟩
end Go.Proofs.Qxb6500880a
