import Derived.Deep.CutBlock
import Derived.OwnWalk
import Derived.Maps.AppendAt
import Derived.Maps.OwnSet
import Derived.Maps.OwnOps
import Derived.Laws.ResultCell
import Derived.Test.Qxb6500880aGreatP
set_option linter.unusedVariables false
set_option linter.unusedSimpArgs false
namespace Go.Proofs.Qxb6500880aGreat
open Go.RowKit

/-- rule at work: its argument, its fault. -/
structure RlF (w : World) (p5 p7 : Nat) (kh : Fin 4) (ha bv : Value) : Prop where
  a0 : w.cell? ⟨p5, 0, none⟩ = some (.string (nmS kh))
  a1 : w.cell? ⟨p5, 1, none⟩ = some (ha)
  a2 : w.cell? ⟨p5, 2, none⟩ = some (bv)
  z0 : w.cell? ⟨p7, 0, none⟩ = some (.int .u8 0)
  z1 : w.cell? ⟨p7, 1, none⟩ = some (.int .i64 0)
  z2 : w.cell? ⟨p7, 2, none⟩ = some (.int .i64 0)
  zf : ∀ o, w.frozen? ⟨p7, o, none⟩ = false
theorem RlF.keep {w w' : World} {p5 p7 : Nat} {kh : Fin 4} {ha bv : Value} (h : RlF w p5 p7 kh ha bv) (e5 : w'.heap[p5]? = w.heap[p5]?) (e7 : w'.heap[p7]? = w.heap[p7]?) : RlF w' p5 p7 kh ha bv :=
  ⟨(World.cell?_of_block (a := ⟨p5, 0, none⟩) e5).trans h.a0, (World.cell?_of_block (a := ⟨p5, 1, none⟩) e5).trans h.a1, (World.cell?_of_block (a := ⟨p5, 2, none⟩) e5).trans h.a2, (World.cell?_of_block (a := ⟨p7, 0, none⟩) e7).trans h.z0, (World.cell?_of_block (a := ⟨p7, 1, none⟩) e7).trans h.z1, (World.cell?_of_block (a := ⟨p7, 2, none⟩) e7).trans h.z2, fun o => (World.frozen?_of_block (a := ⟨p7, o, none⟩) e7).trans (h.zf o)⟩
theorem RlF.lt {w : World} {p5 p7 : Nat} {kh : Fin 4} {ha bv : Value} (h : RlF w p5 p7 kh ha bv) : p5 < w.heap.size ∧ p7 < w.heap.size := ⟨World.block_lt_of_cell? _ _ h.a0, World.block_lt_of_cell? _ _ h.z0⟩
theorem RlF.below {w w' : World} {p5 p7 : Nat} {kh : Fin 4} {ha bv : Value} (h : RlF w p5 p7 kh ha bv) (hb : Below w.heap.size w w') : RlF w' p5 p7 kh ha bv := h.keep (hb.block p5 h.lt.1) (hb.block p7 h.lt.2)
theorem Env.wr {w w' : World} {CB E nb kk : Nat} {fn : Fin 4 → Option Nat} {sf : Fin 4 → RelS} (h : Env w CB E nb kk fn sf) (W : Wr CB w w') (c0 : w'.cell? ⟨CB, 0, none⟩ = some (.pointer (some ⟨E, 0, none⟩))) (h2 : CB ≠ nb) (h3 : ∀ k, fn k ≠ some CB) (h1 : CB ≠ E) : Env w' CB E nb kk fn sf := by
  obtain ⟨_, l1, l2⟩ := h.lt
  exact ⟨c0, (World.cell?_of_block (a := ⟨E, 6, none⟩) (W.block E l1 (fun e => h1 e.symm))).trans h.e6, h.mn.blk (W.block nb l2 (fun e => h2 e.symm)), fun k b hb => (h.rel k b hb).blk (W.block b (h.rel k b hb).lt (fun e => h3 k (e ▸ hb)))⟩
theorem RuF.regs {w : World} {RB hb base : Nat} {rb : Nat → Nat} {hv J : Value} {l : Nat → Value} {i : Nat} {rg : Int} (h : RuF w RB hb rb base hv J l i rg) (hRB : RB < base) (x : Int) : RuF (w.setCell ⟨RB, 7, none⟩ (.int .i64 x)) RB hb rb base hv J l i x := by
  have o : ∀ j, j ≠ 7 → (w.setCell ⟨RB, 7, none⟩ (.int .i64 x)).cell? ⟨RB, j, none⟩ = w.cell? ⟨RB, j, none⟩ := fun j hj => World.cell?_setCell_other _ _ _ _ (by simp <;> omega)
  exact ⟨(o 0 (by omega)).trans h.id, (o 1 (by omega)).trans h.hr, (o 2 (by omega)).trans h.ha, (o 3 (by omega)).trans h.hl, (o 4 (by omega)).trans h.jo, (o 5 (by omega)).trans h.fi, (o 6 (by omega)).trans h.fo, World.cell?_setCell_same _ _ _ h.rg, fun o => (World.frozen?_setCell _ _ _ _).trans (h.fz o), own_one h.own (fun q hq => far_set (fun e => by have := (h.own.lt q hq).1; omega))⟩
/-- A compiled rule that stays, as long as the blocks from lo on do. -/
def RuSt (lo : Nat) (w : World) (RB : Nat) (u : RuS) : Prop := ∀ wx : World, (∀ q, lo ≤ q → q < w.heap.size → wx.heap[q]? = w.heap[q]?) → RuAt wx RB u
theorem RuSt.at {lo : Nat} {w : World} {RB : Nat} {u : RuS} (h : RuSt lo w RB u) : RuAt w RB u := h w (fun _ _ _ => rfl)
theorem RuSt.keep {lo : Nat} {w w' : World} {RB : Nat} {u : RuS} (h : RuSt lo w RB u) (hs : w.heap.size ≤ w'.heap.size) (hk : ∀ q, lo ≤ q → q < w.heap.size → w'.heap[q]? = w.heap[q]?) : RuSt lo w' RB u :=
  fun wx hx => h wx (fun q h1 h2 => (hx q h1 (by omega)).trans (hk q h1 h2))
theorem RuSt.below {lo : Nat} {w w' : World} {RB : Nat} {u : RuS} (h : RuSt lo w RB u) (hb' : Below w.heap.size w w') : RuSt lo w' RB u := h.keep hb'.size (fun q _ h2 => hb'.block q h2)
theorem idM_zero : idM 0 = fun _ => none := by funext j; exact if_neg (by omega)
/-- The fresh rule block. -/
structure Ru0 (w : World) (RB : Nat) : Prop where
  c : w.cell? ⟨RB, 0, none⟩ = some (.int .i64 0) ∧ w.cell? ⟨RB, 1, none⟩ = some (.pointer none) ∧ w.cell? ⟨RB, 2, none⟩ = some (.slice none 0 0) ∧ w.cell? ⟨RB, 3, none⟩ = some (.int .i64 0) ∧ w.cell? ⟨RB, 4, none⟩ = some (.slice none 0 0) ∧ w.cell? ⟨RB, 5, none⟩ = some (.slice none 0 0) ∧ w.cell? ⟨RB, 6, none⟩ = some (.slice none 0 0) ∧ w.cell? ⟨RB, 7, none⟩ = some (.int .i64 0)
  fz : ∀ o, w.frozen? ⟨RB, o, none⟩ = false
theorem Ru0.blk {w w' : World} {RB : Nat} (h : Ru0 w RB) (e : w'.heap[RB]? = w.heap[RB]?) : Ru0 w' RB :=
  ⟨⟨(World.cell?_of_block (a := ⟨RB, 0, none⟩) e).trans h.c.1, (World.cell?_of_block (a := ⟨RB, 1, none⟩) e).trans h.c.2.1, (World.cell?_of_block (a := ⟨RB, 2, none⟩) e).trans h.c.2.2.1, (World.cell?_of_block (a := ⟨RB, 3, none⟩) e).trans h.c.2.2.2.1, (World.cell?_of_block (a := ⟨RB, 4, none⟩) e).trans h.c.2.2.2.2.1, (World.cell?_of_block (a := ⟨RB, 5, none⟩) e).trans h.c.2.2.2.2.2.1, (World.cell?_of_block (a := ⟨RB, 6, none⟩) e).trans h.c.2.2.2.2.2.2.1, (World.cell?_of_block (a := ⟨RB, 7, none⟩) e).trans h.c.2.2.2.2.2.2.2⟩, fun o => (World.frozen?_of_block (a := ⟨RB, o, none⟩) e).trans (h.fz o)⟩
theorem ru0_new (w : World) : Ru0 (w.alloc (.cells #[.int .i64 0, .pointer none, .slice none 0 0, .int .i64 0, .slice none 0 0, .slice none 0 0, .slice none 0 0, .int .i64 0] 106)) w.heap.size := ⟨⟨by simp, by simp, by simp, by simp, by simp, by simp, by simp, by simp⟩, fun o => by simp⟩
theorem Ru0.head {w : World} {RB hb base : Nat} {rb : Nat → Nat} {hv : Value} (h : Ru0 w RB) (l : Nat → Value) : RuF (((w.setCell ⟨RB, 1, none⟩ (.pointer (some ⟨hb, 0, none⟩))).setCell ⟨RB, 2, none⟩ hv).setCell ⟨RB, 3, none⟩ (.int .i64 (-1))) RB hb rb base hv (.slice none 0 0) l 0 0 := by
  obtain ⟨⟨c0, c1, c2, c3, c4, c5, c6, c7⟩, fz⟩ := h
  have o : ∀ j, j ≠ 1 → j ≠ 2 → j ≠ 3 → (((w.setCell ⟨RB, 1, none⟩ (.pointer (some ⟨hb, 0, none⟩))).setCell ⟨RB, 2, none⟩ hv).setCell ⟨RB, 3, none⟩ (.int .i64 (-1))).cell? ⟨RB, j, none⟩ = w.cell? ⟨RB, j, none⟩ := fun j h1 h2 h3 => by
    rw [World.cell?_setCell_other _ _ _ _ (by simp <;> omega), World.cell?_setCell_other _ _ _ _ (by simp <;> omega), World.cell?_setCell_other _ _ _ _ (by simp <;> omega)]
  refine ⟨(o 0 (by omega) (by omega) (by omega)).trans c0, ?_, ?_, ?_, (o 4 (by omega) (by omega) (by omega)).trans c4, (o 5 (by omega) (by omega) (by omega)).trans c5, (o 6 (by omega) (by omega) (by omega)).trans c6, (o 7 (by omega) (by omega) (by omega)).trans c7, fun o => by rw [World.frozen?_setCell, World.frozen?_setCell, World.frozen?_setCell]; exact fz o, ⟨by simp [jC], .inl ⟨rfl, rfl⟩⟩⟩
  · rw [World.cell?_setCell_other _ _ _ _ (by simp), World.cell?_setCell_other _ _ _ _ (by simp)]
    exact World.cell?_setCell_same _ _ _ c1
  · rw [World.cell?_setCell_other _ _ _ _ (by simp)]
    exact World.cell?_setCell_same _ _ _ (by rw [World.cell?_setCell_other _ _ _ _ (by simp)]; exact c2)
  · exact World.cell?_setCell_same _ _ _ (by rw [World.cell?_setCell_other _ _ _ _ (by simp), World.cell?_setCell_other _ _ _ _ (by simp)]; exact c3)
set_option maxRecDepth 20000 in
set_option maxHeartbeats 8000000 in
theorem rule_any {w w0 : World} {CB E nb kk hb m nh R : Nat} {rb nn Fh : Nat → Nat} {F : Nat → Nat → Nat} {fn : Fin 4 → Option Nat} {sf : Fin 4 → RelS} {key : Nat → Fin 4} {kh : Fin 4} {ha bv : Value} (EV : Env w CB E nb kk fn sf) (hfz : ∀ o, w.frozen? ⟨CB, o, none⟩ = false) (hc1 : ∃ v, w.cell? ⟨CB, 1, none⟩ = some v) (hN : RuN ⟨hb, rb, nn, m, F, nh, Fh, R⟩) (hsf : ∀ t, t < nh → fbs ⟨hb, rb, nn, m, F, nh, Fh, R⟩ m (Fh t) = true) (hfp : ∀ j, j < m → fn (key j) = some (rb j)) (hfh : fn kh = some hb) (hA : ∀ j, j < m → (sf (key j)).A = nn j) (hAh : (sf kh).A = nh) (HTH : TermsAt w0 ha nh Fh) (hhq : ∀ q, ha.ownBlock = some q → q < w0.heap.size) (hkA : kA 0 Fh nh = R) (hkF : ∀ t, t < nh → Fh t ≤ kA 0 Fh t) (HB : BodyAt w0 bv m key nn F) (hb0 : Below w0.heap.size w0 w) (h0CB : w0.heap.size ≤ CB) (hne : CB ≠ E ∧ CB ≠ nb ∧ ∀ k, fn k ≠ some CB) :
    Calls Tryz.prog 13 #[.pointer (some ⟨CB, 0, none⟩), .int .i64 0, .agg #[.string (nmS kh), ha, bv]] w fun e w' => ∃ RB, e = .returned (.tuple #[.pointer (some ⟨RB, 0, none⟩), .agg #[.int .u8 0, .int .i64 0, .int .i64 0]]) ∧ RuSt w.heap.size w' RB ⟨hb, rb, nn, m, F, nh, Fh, R⟩ ∧ w.heap.size ≤ RB ∧ w'.cell? ⟨CB, 0, none⟩ = some (.pointer (some ⟨E, 0, none⟩)) ∧ Wr CB w w' := by
  have hm : m ≤ 64 := hN.m
  have hn0 : ∀ j, j < m → 0 < nn j := hN.n0
  have hn1 : ∀ j, j < m → nn j ≤ 32 := hN.n1
  have hh0 : 0 < nh := hN.h0
  have hh1 : nh ≤ 32 := hN.h1
  have hR1 : R ≤ 256 := hN.R
  have hFR : ∀ j t, j < m → t < nn j → F j t < R := hN.f
  obtain ⟨hap, hac, eha, _⟩ := (show TermsAt w0 ha nh Fh from HTH)
  subst eha
  have HHD := hideIt (And.intro HTH (And.intro hhq (And.intro hkA hkF)))
  have HNN := hideIt (And.intro hn0 (And.intro hn1 hFR))
  have HFP := hideIt (And.intro hfp hA)
  have HN2 := hideIt (And.intro hN hsf)
  clear HTH hhq hkA hkF hn0 hn1 hFR hfp hA hN hsf
  obtain ⟨bp, bc, eb, hbc, HB'⟩ := HB
  have HB : BodyAt w0 bv m key nn F := ⟨bp, bc, eb, hbc, HB'⟩
  clear HB'
  subst eb
  obtain ⟨hne1, hne2, hne3⟩ := hne
  obtain ⟨hl1, hl2, hl3⟩ := EV.lt
  obtain ⟨v1, hc1⟩ := hc1
  have hmm := @run_makeMap Tryz.prog
  have hle : ¬ ((m : Int) > 64) := by omega
  have hle' : ¬ ((64 : Int) < (m : Int)) := by omega
  have HQ := hideIt (And.intro EV (And.intro HB hb0))
  have bb : Below w.heap.size w ((w.alloc (.cells #[.string (nmS kh), .slice hap nh hac, .slice bp m bc] 54)).alloc (.cells #[.int .u8 0, .int .i64 0, .int .i64 0] 61)) := then_ (one_alloc _ _) (one_alloc _ _)
  have hszA : ((w.alloc (.cells #[.string (nmS kh), .slice hap nh hac, .slice bp m bc] 54)).alloc (.cells #[.int .u8 0, .int .i64 0, .int .i64 0] 61)).heap.size = w.heap.size + 1 + 1 := by simp
  have RL : RlF ((w.alloc (.cells #[.string (nmS kh), .slice hap nh hac, .slice bp m bc] 54)).alloc (.cells #[.int .u8 0, .int .i64 0, .int .i64 0] 61)) w.heap.size (w.heap.size + 1) kh (.slice hap nh hac) (.slice bp m bc) := ⟨cell_later (one_alloc _ _) (by simp), cell_later (one_alloc _ _) (by simp), cell_later (one_alloc _ _) (by simp), by simp, by simp, by simp, fun o => by simp⟩
  have k1 := cell_later bb hc1
  have k0 := cell_later bb EV.c0
  have fk : ∀ o, ((w.alloc (.cells #[.string (nmS kh), .slice hap nh hac, .slice bp m bc] 54)).alloc (.cells #[.int .u8 0, .int .i64 0, .int .i64 0] 61)).frozen? ⟨CB, o, none⟩ = false := fun o => (World.frozen?_of_block (a := ⟨CB, o, none⟩) (bb.block CB hl1)).trans (hfz o)
  have r2 := RL.a2
  obtain ⟨nmh, hnmh⟩ : ∃ nmh, nmS kh = nmh := ⟨_, rfl⟩
  rw [hnmh] at RL bb hszA k0 k1 fk r2 ⊢
  have HNM := hideIt hnmh
  generalize hwa : ((w.alloc (.cells #[.string nmh, .slice hap nh hac, .slice bp m bc] 54)).alloc (.cells #[.int .u8 0, .int .i64 0, .int .i64 0] 61)) = wa at *
  have HRL := hideIt (And.intro RL (And.intro bb hwa))
  clear RL bb EV HB hb0 hc1 hfz hnmh
  subst hwa
  go_enter Tryz.func13, Tryz.ntmps13
  go_upto_region 3 with fail
  generalize ((w.alloc (.cells #[.string nmh, .slice hap nh hac, .slice bp m bc] 54)).alloc (.cells #[.int .u8 0, .int .i64 0, .int .i64 0] 61)) = wa at *
  go_cut [] (fun wd => ∃ mb, wd.cell? ⟨CB, 0, none⟩ = some (.pointer (some ⟨E, 0, none⟩)) ∧ wd.cell? ⟨CB, 1, none⟩ = some (.map (some mb)) ∧ wa.heap.size = mb ∧ Hid (MapR wd mb 0 (idM 0) ∧ Wr CB wa wd ∧ ∀ o, wd.frozen? ⟨CB, o, none⟩ = false))
  case first =>
    have hclA : CB < wa.heap.size := by omega
    have k2 := cell_later (one_alloc wa (.map #[] 0)) k1
    have k3 := cell_later (one_alloc wa (.map #[] 0)) k0
    have fk3 : ∀ o, (wa.alloc (.map #[] 0)).frozen? ⟨CB, o, none⟩ = false := fun o => (World.frozen?_of_block (a := ⟨CB, o, none⟩) ((one_alloc wa (.map #[] 0)).block CB hclA)).trans (fk o)
    have fk2 := fk3 1
    have HFK := hideIt fk3
    clear fk3
    go_wp2
    go_meet
    case rel =>
      have e0 : wa.heap.size ≠ CB := by omega
      refine ⟨wa.heap.size, (World.cell?_setCell_other _ _ _ _ (by simp)).trans k3, ?_, rfl, hideIt ⟨?_, (Wr.of_below (one_alloc wa (.map #[] 0))).set, fun o => (World.frozen?_setCell _ _ _ _).trans (HFK.out o)⟩⟩
      · rw [hszA]
        exact World.cell?_setCell_same _ _ _ k2
      · rw [idM_zero]
        exact (MapR_new wa).blk (far_set e0)
  case rest =>
  obtain ⟨mb, k0', k1', hmb, H3⟩ := hcut
  obtain ⟨RL, bb, _⟩ := HRL.out
  obtain ⟨HM, W3, fk'⟩ := H3.out
  obtain ⟨EV, HB, hb0⟩ := HQ.out
  have hsz3 := W3.size
  have hmbl := HM.lt
  have Wc : Wr CB w wc := (Wr.of_below bb).trans W3
  have b0c : Below w0.heap.size w0 wc := ⟨Wc.os.trans hb0.os, Wc.tape.trans hb0.tape, Wc.output.trans hb0.output, Nat.le_trans hb0.size Wc.size, fun q hq => (Wc.block q (by have := hb0.size; omega) (by omega)).trans (hb0.block q hq)⟩
  have RL3 := RL.keep (W3.block w.heap.size (by omega) (by omega)) (W3.block (w.heap.size + 1) (by omega) (by omega))
  have EV3 : Env wc CB E nb kk fn sf := (EV.below bb).wr W3 k0' hne2 hne3 (fun e => hne1 e)
  have HC3 : CoAt wc CB E mb := ⟨k0', k1'⟩
  have bR := one_alloc wc (.cells #[.int .i64 0, .pointer none, .slice none 0 0, .int .i64 0, .slice none 0 0, .slice none 0 0, .slice none 0 0, .int .i64 0] 106)
  have RU0 := ru0_new wc
  have hszR : (wc.alloc (.cells #[.int .i64 0, .pointer none, .slice none 0 0, .int .i64 0, .slice none 0 0, .slice none 0 0, .slice none 0 0, .int .i64 0] 106)).heap.size = wc.heap.size + 1 := by simp
  have hat := atom_any (w := wc.alloc (.cells #[.int .i64 0, .pointer none, .slice none 0 0, .int .i64 0, .slice none 0 0, .slice none 0 0, .slice none 0 0, .int .i64 0] 106)) (n := nh) (key := kh) (v := .slice hap nh hac) (f := Fh) (-1) (HC3.blk (bR.block CB HC3.lt)) (cell_later bR EV3.e6) (EV3.mn.below bR) hfh ((EV3.rel kh hb hfh).below bR) hAh ((HHD.out.1.below b0c).below bR) (HM.below bR) HHD.out.2.2.2 (by omega) (fun e => by have := HHD.out.2.1 _ e; have := b0c.size; have := hb0.size; omega) (by omega) (by omega)
  rw [HNM.out] at hat
  have r0 := cell_later bR RL3.a0
  have r1 := cell_later bR RL3.a1
  rw [HNM.out] at r0
  have HX3 := hideIt (And.intro bR (And.intro RU0 (And.intro RL3 (And.intro EV3 (And.intro HC3 (And.intro Wc b0c))))))
  clear RL bb HM W3 fk' EV HB hb0 RL3 EV3 HC3 bR RU0 Wc b0c k0 k1 r2 fk
  go_wp2_with fail
  refine hat.mono ?_
  rintro e w5 ⟨hv, rfl, HO5, ⟨q5, ho5, hq5⟩, HM5, W5⟩
  rw [HHD.out.2.2.1] at HM5
  obtain ⟨ph, chh, rfl⟩ : ∃ ph chh, hv = .slice ph nh chh := by
    obtain ⟨ph, chh, e, _⟩ := HO5
    exact ⟨ph, chh, e⟩
  have HO6 := hideIt (And.intro HO5 (And.intro ho5 (And.intro hq5 (And.intro HM5 W5))))
  have hsz5 := W5.size
  have hRB5 : wc.heap.size < w5.heap.size := by omega
  clear HO5 ho5 hq5 HM5 W5 hat r0 r1
  go_upto_region 8 with fail
  obtain ⟨bR, RU0, RL3, EV3, HC3, Wc, b0c⟩ := HX3.out
  obtain ⟨HO5, ho5, hq5, HM5, W5⟩ := HO6.out
  have b6 := one_alloc w5 (.cells #[.pointer (some ⟨hb, 0, none⟩), .slice ph nh chh, .int .i64 (-1)] 102)
  have hsz6 : (w5.alloc (.cells #[.pointer (some ⟨hb, 0, none⟩), .slice ph nh chh, .int .i64 (-1)] 102)).heap.size = w5.heap.size + 1 := by simp
  have l0 : (w5.alloc (.cells #[.pointer (some ⟨hb, 0, none⟩), .slice ph nh chh, .int .i64 (-1)] 102)).cell? ⟨w5.heap.size, 0, none⟩ = some (.pointer (some ⟨hb, 0, none⟩)) := by simp
  have l1 : (w5.alloc (.cells #[.pointer (some ⟨hb, 0, none⟩), .slice ph nh chh, .int .i64 (-1)] 102)).cell? ⟨w5.heap.size, 1, none⟩ = some (.slice ph nh chh) := by simp
  have l2 : (w5.alloc (.cells #[.pointer (some ⟨hb, 0, none⟩), .slice ph nh chh, .int .i64 (-1)] 102)).cell? ⟨w5.heap.size, 2, none⟩ = some (.int .i64 (-1)) := by simp
  have W6 : Wr CB w (w5.alloc (.cells #[.pointer (some ⟨hb, 0, none⟩), .slice ph nh chh, .int .i64 (-1)] 102)) := ⟨b6.os.trans (W5.os.trans (bR.os.trans Wc.os)), b6.tape.trans (W5.tape.trans (bR.tape.trans Wc.tape)), b6.output.trans (W5.output.trans (bR.output.trans Wc.output)), by have := Wc.size; omega, fun q h1 h2 => (b6.block q (by omega)).trans ((W5.block q (by omega) (by omega)).trans ((bR.block q (by omega)).trans (Wc.block q h1 h2)))⟩
  have kp6 : ∀ q, q < wc.heap.size + 1 → q ≠ mb → (w5.alloc (.cells #[.pointer (some ⟨hb, 0, none⟩), .slice ph nh chh, .int .i64 (-1)] 102)).heap[q]? = (wc.alloc (.cells #[.int .i64 0, .pointer none, .slice none 0 0, .int .i64 0, .slice none 0 0, .slice none 0 0, .slice none 0 0, .int .i64 0] 106)).heap[q]? := fun q h1 h2 => (b6.block q (by omega)).trans (W5.block q (by omega) h2)
  have kp7 : ∀ q, q < wc.heap.size → q ≠ mb → (w5.alloc (.cells #[.pointer (some ⟨hb, 0, none⟩), .slice ph nh chh, .int .i64 (-1)] 102)).heap[q]? = wc.heap[q]? := fun q h1 h2 => (kp6 q (by omega) h2).trans (bR.block q h1)
  have RU6 := RU0.blk (kp6 wc.heap.size (by omega) (by omega))
  have EV6 := EV3.keep (fun q hq => kp7 q (EV3.qlt hq) (by have := HQ.out.1.qlt hq; omega))
  have hq5l : q5 < w5.heap.size := by
    obtain ⟨p0, c0, e0, _, h0⟩ := HO5
    simp only [Value.slice.injEq] at e0
    rcases h0 with h0 | ⟨g0, e1, h0⟩
    · omega
    · rw [e0.1, e1] at ho5
      have : g0 = q5 := Option.some.inj ho5
      rw [← this]
      exact World.block_lt_of_cell? _ _ (h0 0 hh0).1
  have hq5r : wc.heap.size + 1 ≤ q5 := by rw [← hszR]; exact hq5
  have HOH6 := hideIt (And.intro (HO5.below b6) (And.intro ho5 (And.intro hq5r hq5l)))
  clear hq5l hq5r
  have HC6 := HC3.blk (kp7 CB (by omega) (by omega))
  have RL6 := RL3.keep (kp7 w.heap.size (by omega) (by omega)) (kp7 (w.heap.size + 1) (by omega) (by omega))
  have HM6 : MapR (w5.alloc (.cells #[.pointer (some ⟨hb, 0, none⟩), .slice ph nh chh, .int .i64 (-1)] 102)) mb R (idM R) := HM5.below b6
  have b06 : Below w0.heap.size w0 (w5.alloc (.cells #[.pointer (some ⟨hb, 0, none⟩), .slice ph nh chh, .int .i64 (-1)] 102)) := ⟨b6.os.trans (W5.os.trans (bR.os.trans b0c.os)), b6.tape.trans (W5.tape.trans (bR.tape.trans b0c.tape)), b6.output.trans (W5.output.trans (bR.output.trans b0c.output)), by have := b0c.size; omega, fun q hq => (kp7 q (by have := b0c.size; omega) (by omega)).trans (b0c.block q hq)⟩
  clear HX3 HO6 bR RU0 RL3 EV3 HC3 Wc b0c HO5 ho5 hq5 HM5 W5 b6 kp6 kp7 H3 k0' k1' HRL
  generalize hw6 : w5.alloc (.cells #[.pointer (some ⟨hb, 0, none⟩), .slice ph nh chh, .int .i64 (-1)] 102) = w6 at *
  clear hw6
  obtain ⟨hr0, hr1, hr2, hr3, hr4, hr5, hr6, hr7⟩ := RU6.c
  have hrf := RU6.fz
  have HX := hideIt (And.intro W6 (And.intro RU6 (And.intro EV6 (And.intro HC6 (And.intro RL6 (And.intro HM6 b06))))))
  clear W6 RU6 EV6 HC6 RL6 HM6 b06
  generalize hRB : wc.heap.size = RB at *
  generalize hp9 : w5.heap.size = p9 at *
  go_cut [] (fun wd => RuF wd RB hb rb w6.heap.size (.slice ph nh chh) (.slice none 0 0) (fun _ => undef) 0 0 ∧ Hid (Wr RB w6 wd))
  case first =>
    go_wp2
    go_meet
    case rel => exact ⟨HX.out.2.1.head _, hideIt (((Wr.refl _ _).set).set).set⟩
  case rest =>
  clear hr0 hr1 hr2 hr3 hr4 hr5 hr6 hr7 hrf l0 l1 l2 hszR hsz5
  obtain ⟨U0, HW0⟩ := hcut
  obtain ⟨W6, _, EV6, HC6, RL6, HM6, b06⟩ := HX.out
  have W7 := HW0.out
  have hs7 := W7.size
  have hs6w := W6.size
  have kp7 : ∀ q, q < w6.heap.size → q ≠ RB → wc.heap[q]? = w6.heap[q]? := W7.block
  have EV7 := EV6.keep (fun q hq => kp7 q (EV6.qlt hq) (by have := HQ.out.1.qlt hq; omega))
  have HOH7 := hideIt (And.intro (HOH6.out.1.keep (w' := wc) (fun q hq hl => kp7 q hl (by rw [HOH6.out.2.1] at hq; have := Option.some.inj hq; have := HOH6.out.2.2.1; omega))) HOH6.out.2)
  clear HOH6
  have HC7 := HC6.blk (kp7 CB (by omega) (by omega))
  have RL7 := RL6.keep (kp7 w.heap.size (by omega) (by omega)) (kp7 (w.heap.size + 1) (by omega) (by omega))
  have HM7 : MapR wc mb R (idM R) := HM6.blk (kp7 mb (by omega) (by omega))
  have hs0 := b06.size
  have b07 : Below w0.heap.size w0 wc := ⟨W7.os.trans b06.os, W7.tape.trans b06.tape, W7.output.trans b06.output, by omega, fun q hq => (kp7 q (by omega) (by have := HX.out.1.size; have := HQ.out.2.2.size; omega)).trans (b06.block q hq)⟩
  have W8 : Wr CB w wc := ⟨W7.os.trans W6.os, W7.tape.trans W6.tape, W7.output.trans W6.output, by omega, fun q h1 h2 => (kp7 q (by omega) (by omega)).trans (W6.block q h1 h2)⟩
  have ra2 := RL7.a2
  have HX7 := hideIt (And.intro W8 (And.intro EV7 (And.intro HC7 (And.intro RL7 (And.intro HM7 (And.intro b07 U0))))))
  have hw0 : w0.heap.size ≤ w.heap.size := HQ.out.2.2.size
  clear HW0 W6 EV6 HC6 RL6 HM6 b06 W7 kp7 EV7 HC7 RL7 HM7 b07 W8 HX U0
  obtain ⟨base, hbase⟩ : ∃ base, w6.heap.size = base := ⟨_, rfl⟩
  rw [hbase] at HX7
  go_wp2_with fail
  go_loopg [48] m (fun gg v wr => ∃ i : Nat, i + gg = m ∧ v = .int .i64 (i : Int) ∧ ∃ J l, RuF wr RB hb rb base (.slice ph nh chh) J l i 0 ∧ MapR wr mb R (idM R) ∧ (∀ j, j < i → OpsAt wr (l j) (nn j) (F j) ∧ ∃ q, (l j).ownBlock = some q ∧ base ≤ q ∧ q < wr.heap.size ∧ J.ownBlock ≠ some q) ∧ Ws (fun q => q = mb ∨ q = RB ∨ base ≤ q) wc wr)
  case atStart =>
    obtain ⟨W8, EV7, HC7, RL7, HM7, b07, U0⟩ := HX7.out
    exact ⟨0, by omega, rfl, _, _, U0, HM7, fun j hj => by omega, Ws.refl _ _⟩
  case round =>
    obtain ⟨i, hi, rfl, J, l, U, HMr, HOr, WS⟩ := hrel
    have hsr := WS.size
    have kpr : ∀ q, q < base → q ≠ mb → q ≠ RB → wr.heap[q]? = wc.heap[q]? := fun q h1 h2 h3 => WS.block q (by omega) (fun e => by omega)
    obtain ⟨W8, EV7, HC7, RL7, HM7, b07, U0⟩ := HX7.out
    have EVr := EV7.keep (fun q hq => by
      have z := HQ.out.1.qlt hq
      exact kpr q (by omega) (by omega) (by omega))
    have HOHr := hideIt (And.intro (HOH7.out.1.keep (w' := wr) (fun q hq hl => by
      have z := HOH7.out.2
      rw [z.1] at hq
      have := Option.some.inj hq
      exact kpr q (by omega) (by omega) (by omega))) HOH7.out.2)
    have HCr := HC7.blk (kpr CB (by omega) (by omega) (by omega))
    have RLr := RL7.keep (kpr w.heap.size (by omega) (by omega) (by omega)) (kpr (w.heap.size + 1) (by omega) (by omega) (by omega))
    have b0r : Below w0.heap.size w0 wr := ⟨WS.os.trans b07.os, WS.tape.trans b07.tape, WS.output.trans b07.output, by have := b07.size; omega, fun q hq => (kpr q (by omega) (by omega) (by omega)).trans (b07.block q hq)⟩
    have Wr8 : Wr CB w wr := ⟨WS.os.trans W8.os, WS.tape.trans W8.tape, WS.output.trans W8.output, by have := W8.size; omega, fun q h1 h2 => (kpr q (by omega) (by omega) (by omega)).trans (W8.block q h1 h2)⟩
    clear W8 EV7 HC7 RL7 HM7 b07 U0
    by_cases him : i < m
    · have i0 : (0 : Int) ≤ i := by omega
      have i1 : (i : Int) < (m : Int) := by omega
      obtain ⟨g, rfl, c0, c1, c2, av, c3, HT, qa, hqa, hqa'⟩ : ∃ g, bp = some ⟨g, 0, none⟩ ∧ w0.cell? ⟨g, i * 4, none⟩ = some (.int .u8 0) ∧ w0.cell? ⟨g, i * 4 + 1, none⟩ = some (.int .u8 0) ∧ w0.cell? ⟨g, i * 4 + 2, none⟩ = some (.string (nmS (key i))) ∧ ∃ av, w0.cell? ⟨g, i * 4 + 3, none⟩ = some av ∧ TermsAt w0 av (nn i) (F i) ∧ (∃ q, av.ownBlock = some q ∧ q < w0.heap.size) := by
        obtain ⟨p, c, e, _, h⟩ := HQ.out.2.1
        simp only [Value.slice.injEq] at e
        obtain ⟨rfl, _, rfl⟩ := e
        rcases h with h | ⟨g, e, h⟩
        · omega
        · exact ⟨g, e, h i him⟩
      have d0 := cell_later b0r c0
      have d1 := cell_later b0r c1
      have d2 := cell_later b0r c2
      have d3 := cell_later b0r c3
      obtain ⟨pa, ca, ea, hca, HT'⟩ := HT
      have HT : TermsAt w0 av (nn i) (F i) := ⟨pa, ca, ea, hca, HT'⟩
      clear HT'
      subst ea
      obtain ⟨nm, hnm⟩ : ∃ nm, nmS (key i) = nm := ⟨_, rfl⟩
      have hni0 := HNN.out.1 i him
      have hni1 := HNN.out.2.1 i him
      have hriq : fn (key i) = some (rb i) := HFP.out.1 i him
      have hria := HFP.out.2 i him
      have hril := EVr.rlt ⟨_, hriq⟩
      have hril0 := HQ.out.1.rlt ⟨_, hriq⟩
      have hhbl0 := HQ.out.1.rlt ⟨_, hfh⟩
      have bL := one_alloc wr (.cells #[.int .u8 0, .int .u8 0, .string (nmS (key i)), .slice pa (nn i) ca] 36)
      have hml := HMr.lt
      have hlit := literal_any (HCr.blk (bL.block CB HCr.lt)) (cell_later bL EVr.e6) (EVr.mn.below bL) hriq rfl ((EVr.rel _ _ hriq).below bL) ((EVr.rel _ _ hfh).below bL) hria ((HT.below b0r).below bL) (HMr.below bL) (fun t ht => by rw [kA_const t (fun x hx => HNN.out.2.2 i x him (by omega))]; exact Nat.le_of_lt (HNN.out.2.2 i t him ht)) (by rw [hqa]; simp; omega) (by omega) hni0 (by omega) (U.below bL) (by omega) ⟨by omega, by omega, by omega, by omega, by omega, by simp; omega, by omega⟩
      rw [hnm] at hlit d2
      rw [kA_const (nn i) (fun x hx => HNN.out.2.2 i x him hx)] at hlit
      have HXr := hideIt (And.intro bL (And.intro U (And.intro HMr (And.intro HOr (And.intro WS (And.intro RLr hnm))))))
      clear bL U HMr HOr WS RLr EVr HCr b0r Wr8 HT c0 c1 c2 c3 hnm kpr hqa hqa'
      go_wp2_with fail
      refine hlit.mono ?_
      rintro e w4 ⟨rfl, v', J', HO4, ⟨q4, hq4, hq4', hq4J⟩, U4, HM4, hJ4, WS4⟩
      have hv4 : q4 < w4.heap.size := by
        obtain ⟨p0, c0, e0, _, h0⟩ := HO4
        subst e0
        rcases h0 with h0 | ⟨g0, e1, h0⟩
        · omega
        · subst e1
          have : g0 = q4 := Option.some.inj hq4
          rw [← this]
          exact World.block_lt_of_cell? _ _ (h0 0 hni0).1
      have HX4 := hideIt (And.intro HO4 (And.intro U4 (And.intro HM4 (And.intro hJ4 (And.intro WS4 (And.intro hq4 (And.intro hq4' hq4J)))))))
      clear HO4 U4 HM4 hJ4 WS4 hq4 hq4' hq4J hlit d0 d1 d2 d3
      go_wp2
      go_roundg (m - (i + 1))
      case measure => omega
      case rel =>
        obtain ⟨HO4, U4, HM4, hJ4, WS4, hq4, hq4', hq4J⟩ := HX4.out
        obtain ⟨bL, U, HMr, HOr, WS, RLr, hnm⟩ := HXr.out
        rw [hnm] at bL
        have hsL : (wr.alloc (.cells #[.int .u8 0, .int .u8 0, .string nm, .slice pa (nn i) ca] 36)).heap.size = wr.heap.size + 1 := by simp
        have hs4 := WS4.size
        have hsr' := WS.size
        have k4 : ∀ q, q < wr.heap.size → q ≠ mb → q ≠ RB → J.ownBlock ≠ some q → w4.heap[q]? = wr.heap[q]? := fun q h1 h2 h3 h4 => (WS4.block q (by omega) (fun e => by rcases e with e | e | e; exact h2 e; exact h3 e; exact h4 e)).trans (bL.block q h1)
        refine ⟨i + 1, by omega, by go_num, J', updV l i v', U4, HM4, fun j hj => ?_, ?_⟩
        · by_cases hji : j < i
          · have e1 : updV l i v' j = l j := if_neg (by omega)
            rw [e1]
            obtain ⟨a1, qj, a2, a3, a4, a5⟩ := HOr j hji
            refine ⟨a1.keep (fun q hq hl => ?_), qj, a2, a3, by omega, fun e => ?_⟩
            · rw [a2] at hq
              have e2 : qj = q := Option.some.inj hq
              subst e2
              exact k4 qj a4 (by omega) (by omega) a5
            · rcases hJ4 with z | ⟨q, z, z'⟩
              · exact a5 (z ▸ e)
              · rw [z] at e
                have := Option.some.inj e
                omega
          · have e0 : j = i := by omega
            subst e0
            have e1 : updV l j v' j = v' := if_pos rfl
            rw [e1]
            exact ⟨HO4, q4, hq4, by omega, hv4, hq4J⟩
        · refine WS.trans ⟨WS4.os.trans bL.os, WS4.tape.trans bL.tape, WS4.output.trans bL.output, by omega, fun q h1 h2 => k4 q h1 (fun e => h2 (.inl e)) (fun e => h2 (.inr (.inl e))) (fun e => h2 (.inr (.inr (U.own.lt q e).1)))⟩
    · have e : i = m := by omega
      subst e
      have c1 := HCr.c1
      have hlen := fun ty => HMr.len ty
      have u7 := U.rg
      have uf := U.fz
      have z0 := RLr.z0
      have z1 := RLr.z1
      have z2 := RLr.z2
      have zf := RLr.zf
      have HXr := hideIt (And.intro U (And.intro HMr (And.intro HOr (And.intro RLr Wr8))))
      have hcr0 := HCr.c0
      have HCR := hideIt hcr0
      clear hcr0
      have hne5 : RB ≠ w.heap.size + 1 := by omega
      have hne6 : CB ≠ RB := by omega
      clear U HMr HOr WS RLr EVr HCr b0r Wr8 kpr
      go_upto_region 17 with fail
      obtain ⟨U, HMr, HOr, RLr, Wr8⟩ := HXr.out
      have WS9 : Wr RB wr (wr.setCell ⟨RB, 7, none⟩ (.int .i64 (R : Int))) := (Wr.refl _ _).set
      have U9 := U.regs (by omega) (R : Int)
      have hlr := U.lt
      have p7l := RLr.lt.2
      have RL9 := RLr.keep (WS9.block w.heap.size (by omega) (by omega)) (WS9.block (w.heap.size + 1) (by omega) (by omega))
      have HO9 : ∀ j, j < i → OpsAt (wr.setCell ⟨RB, 7, none⟩ (.int .i64 (R : Int))) (l j) (nn j) (F j) ∧ ∀ q, (l j).ownBlock = some q → RB ≤ q := fun j hj => by
        obtain ⟨a1, qj, a2, a3, a4, a5⟩ := HOr j hj
        refine ⟨?_, fun q hq => by rw [a2] at hq; have := Option.some.inj hq; omega⟩
        exact a1.keep (fun q hq hl => WS9.block q hl (by rw [a2] at hq; have := Option.some.inj hq; omega))
      have HOH9 : OpsAt (wr.setCell ⟨RB, 7, none⟩ (.int .i64 (R : Int))) (.slice ph nh chh) nh Fh := HOHr.out.1.keep (fun q hq hl => WS9.block q hl (by rw [HOHr.out.2.1] at hq; have := Option.some.inj hq; have := HOHr.out.2.2; omega))
      have Wr9 : Wr CB w (wr.setCell ⟨RB, 7, none⟩ (.int .i64 (R : Int))) := Wr8.other (by omega)
      have hc9 : (wr.setCell ⟨RB, 7, none⟩ (.int .i64 (R : Int))).cell? ⟨CB, 0, none⟩ = some (.pointer (some ⟨E, 0, none⟩)) := (World.cell?_of_block (a := ⟨CB, 0, none⟩) (far_set hne6)).trans HCR.out
      have HC9 := hideIt hc9
      clear hc9 HCR
      clear U HMr HOr RLr Wr8 WS9 HXr hlen u7 uf z0 z1 z2 zf c1
      generalize wr.setCell ⟨RB, 7, none⟩ (.int .i64 (R : Int)) = ws at *
      have u7 := U9.rg
      have z0 := RL9.z0
      have z1 := RL9.z1
      have z2 := RL9.z2
      have zf := RL9.zf
      have HX9 := hideIt (And.intro U9 (And.intro RL9 (And.intro HO9 (And.intro Wr9 HOH9))))
      clear U9 RL9 HO9 Wr9 HOH9
      have hbig' : ¬ ((R : Int) > 256) := by omega
      have hbig2 : ¬ ((256 : Int) < (R : Int)) := by omega
      have RS : ∀ wx : World, (∀ q, RB ≤ q → q < ws.heap.size → wx.heap[q]? = ws.heap[q]?) → RuAt wx RB ⟨hb, rb, nn, i, F, nh, Fh, R⟩ := by
        intro wx hwx
        obtain ⟨U9, RL9, HO9, Wr9, HOH9⟩ := HX9.out
        have UX := U9.keep (hwx RB (Nat.le_refl _) U9.lt) (fun q hq => hwx q (by have := (U9.own.lt q hq).1; omega) (U9.own.lt q hq).2)
        exact ⟨⟨_, J, l, ⟨UX.id, UX.hr, UX.ha, UX.hl, UX.jo, UX.fi, UX.fo, UX.rg⟩, JnAt.of_own UX.own, fun j hj => (HO9 j hj).1.keep (fun q hq hl => hwx q ((HO9 j hj).2 q hq) hl), HOH9.keep (fun q hq hl => hwx q (by rw [HOHr.out.2.1] at hq; have := Option.some.inj hq; have := HOHr.out.2.2; omega) hl)⟩, UX.fz⟩
      have RA := RS ws (fun _ _ _ => rfl)
      have HRS := hideIt RS
      clear RS
      have p7l : w.heap.size + 1 < ws.heap.size := HX9.out.2.1.lt.2
      have hsafe := safe_any RA HN2.out.1 HN2.out.2
      have HRA := hideIt RA
      clear RA
      go_wp2_with fail
      refine hsafe.mono ?_
      rintro e wt ⟨rfl, hbt⟩
      have y0 := cell_later hbt z0
      have y1 := cell_later hbt z1
      have y2 := cell_later hbt z2
      have yf : ∀ o, wt.frozen? ⟨w.heap.size + 1, o, none⟩ = false := fun o => (World.frozen?_of_block (a := ⟨w.heap.size + 1, o, none⟩) (hbt.block _ p7l)).trans (zf o)
      have HBT := hideIt hbt
      clear hbt hsafe z0 z1 z2 zf u7
      go_wp2
      refine bodyPost_ret (v := .tuple #[.pointer (some ⟨RB, 0, none⟩), .agg #[.int .u8 0, .int .i64 0, .int .i64 0]]) ?_ rfl ?_
      · rw [results_tmp_cell rfl]
        go_simp
      · have hbt := HBT.out
        have hsb := hbt.size
        have WT : Wr CB w wt := HX9.out.2.2.2.1.below hbt
        refine ⟨RB, rfl, ?_, by omega, ?_, ((WT.other (by omega)).other (by omega)).other (by omega)⟩
        · refine fun wx hx => HRS.out wx (fun q h1 h2 => (hx q (by omega) (by simp; omega)).trans ?_)
          exact (far_set (by omega)).trans ((far_set (by omega)).trans ((far_set (by omega)).trans (hbt.block q h2)))
        · refine (World.cell?_of_block (a := ⟨CB, 0, none⟩) ?_).trans (cell_later hbt HC9.out)
          have z : ∀ (w1 : World) (o : Nat) (v : Value), (w1.setCell ⟨w.heap.size + 1, o, none⟩ v).heap[CB]? = w1.heap[CB]? := fun _ _ _ => far_set (by omega)
          exact (z _ _ _).trans ((z _ _ _).trans (z _ _ _))
end Go.Proofs.Qxb6500880aGreat
