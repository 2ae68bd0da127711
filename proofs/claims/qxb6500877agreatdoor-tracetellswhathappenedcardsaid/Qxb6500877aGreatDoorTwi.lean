import Derived.Deep.CutBlock
import Derived.OwnWalk
import Derived.Maps.AppendAt
import Derived.Test.Qxb6500877aGreatDoorTwg
import Derived.Test.Qxb6500877aGreatDoorEa
set_option linter.unusedVariables false
set_option linter.unusedSimpArgs false
namespace Go.Proofs.Qxb6500877aGreatDoor
open Go.RowKit

theorem fired_at0 : ∀ (l : List FiredS) (i : Nat) (x : FiredS), l[i]? = some x → (firedCells l)[i * 5]? = some (.int .u64 x.id)
  | [], i, x, h => by simp at h
  | y :: l, 0, x, h => by
    simp at h
    subst h
    simp [firedCells]
  | y :: l, i + 1, x, h => by
    have h' : l[i]? = some x := by simpa using h
    have := fired_at0 l i x h'
    have e1 : (i + 1) * 5 = (i * 5) + 5 := by omega
    have e3 : firedCells (y :: l) = [.int .u64 y.id, .int .i64 y.core, .int .u64 y.dl, .int .u64 y.ck, .int .u64 y.t] ++ firedCells l := by simp [firedCells]
    rw [e1, e3]
    rw [List.getElem?_append_right (by simp)]
    simpa using this
def fdE (t : Nat) (l : List FiredS) : List EvS := l.map (fun f => evM t 7 f.t f.core f.id)
theorem fdE_take {t : Nat} {l : List FiredS} {i : Nat} {x : FiredS} (h : l[i]? = some x) : fdE t (l.take (i + 1)) = fdE t (l.take i) ++ [evM t 7 x.t x.core x.id] := by
  unfold fdE
  rw [List.take_add_one, h]
  simp
/-- What is told of the clock. -/
def tellC (t n : Nat) (l : List FiredS) : List EvS := if n = 0 then [] else bl t 8 :: fdE t l
namespace W
theorem Mach.advance {w w' : World} {B mb t t' k base : Nat} {ν : Net} {τ τ' : TSt} {σ : Sg} {Λ : LS} (h : Mach w B mb t k ν τ σ Λ) (M : Mut3 B 0 1939 mb base w w') (hb : w.heap.size ≤ base) (ht' : t' < 18446744073709551616) (hc : w'.cell? ⟨B, 0, none⟩ = some (.int .u64 (t' : Int))) (ht : ∃ s L fr f, TimersAt w' B k s f ∧ WInv s L fr f [] ∧ s.now = t' ∧ s.mb = mb ∧ TW s L fr f τ' k) : Mach w' B mb t' k ν τ' σ Λ := by
  obtain ⟨s, L, fr, f, T1, r⟩ := ht
  have h1 := h.lt
  exact h.lift3 M hb (by omega) (h.h.m.advance (M.blank (by omega) ⟨_, h.h.s⟩ h.ne) (by omega) ht' (by rw [blk_cell (by omega)]; exact hc) ⟨s, L, fr, f, T1.mut (blk_mut w' B) (by omega), r⟩)
set_option maxHeartbeats 8000000 in
theorem advance_m {w : World} {B mb t k : Nat} {ν : Net} {τ : TSt} {σ : Sg} {Λ : LS} {n : Nat} (M : Mach w B mb t k ν τ σ Λ) (hl : Λ.l.length < 999999000) (hn : n < 18446744073709551616) : Calls Tryz.prog 43 #[.pointer (some ⟨B, 0, none⟩), .int .u64 (n : Int)] w fun e w' => ∃ (v : Value) (l : List FiredS) (τ' : TSt), e = .returned v ∧ FiredAt w' w.heap.size v l ∧ (∃ Λ', Done w w' B mb (afterF t n) k ν τ' (firedSg σ l) Λ Λ' ∧ Λ'.l = Λ.l ++ tellC (afterF t n) n l) ∧ AdvanceR τ τ' t n l := by
  by_cases h0 : n = 0
  · subst h0
    have e0 : afterF t 0 = t := by unfold afterF; rw [if_neg (by omega)]; rfl
    rw [e0]
    clear e0
    go_enter Tryz.func43, Tryz.ntmps43
    go_wp2
    go_ret
    exact ⟨.slice none 0 0, [], τ, rfl, FiredAt.nil _ _, ⟨Λ, Done.refl M, (List.append_nil _).symm⟩, rfl, .inl ⟨rfl, rfl, rfl⟩⟩
  · have hb0 : ((n : Int) == 0) = false := by simp; omega
    have HN0 := hideIt h0
    clear h0
    obtain ⟨s, L, fr, f, T, I, en, em, tw⟩ := M.tim
    have HTW := hideIt tw
    clear tw
    have FL : ∀ q, w.heap.size ≤ q → Far Λ q := fun q hq => M.far hq
    have hlt := M.lt
    have hml := M.mlt
    have hne := M.ne
    have h2 := M.hB
    have hm2 := M.hm
    have ha := clockAdvance_any (n := n) M.clk M.frz M.tlt hn
    obtain ⟨q1, q2⟩ := afterF_lt t n M.tlt
    obtain ⟨til, HTL⟩ : ∃ til, Hid (afterF t n = til) := ⟨_, hideIt rfl⟩
    obtain ⟨ft, HFT⟩ : ∃ ft, Hid (afterF t 1 = ft) := ⟨_, hideIt rfl⟩
    rw [HTL.out] at ha q1 q2
    rw [HTL.out]
    have M1 : Mut B 0 1 w (w.setCell ⟨B, 0, none⟩ (.int .u64 (til : Int))) := (Mut.refl B 0 1 w).setCell (by omega) (by omega) _
    have c1 : (w.setCell ⟨B, 0, none⟩ (.int .u64 (til : Int))).cell? ⟨B, 0, none⟩ = some (.int .u64 (til : Int)) := World.cell?_setCell_same _ _ _ M.clk
    generalize w.setCell ⟨B, 0, none⟩ (.int .u64 (til : Int)) = W at ha M1 c1
    have T1 := T.mut M1 (by omega)
    have TB1 := M.tab.mut M1 h2
    have sz := M1.size
    go_enter Tryz.func43, Tryz.ntmps43
    go_wp2_with fail
    refine ha.mono ?_
    rintro e w1 ⟨rfl, hw1⟩
    rw [← hw1] at T1 M1 c1 TB1 sz
    clear hw1 ha
    go_wp2_with fail
    refine (advance_t (τ0 := τ.tm) (ft := ft) (base := w1.heap.size) T1 I TB1 h2 (by omega) (by omega) (by omega) (Nat.le_refl _) en q2 q1 HTW.out.wo HTW.out.tm HFT.out).mono ?_
    rintro e w2 ⟨v, s2, L2, fr2, f2, l, rfl, A, en2, nid2, wo2, hR2⟩
    obtain ⟨τ', hτ'⟩ : ∃ τ' : TSt, τ' = ⟨tmOf s2 f2, τ.nx⟩ := ⟨_, rfl⟩
    have tw2 : TW s2 L2 fr2 f2 τ' k := ⟨wo2, by rw [hτ'], by rw [hτ', nid2]; exact HTW.out.nx, by rw [nid2]; exact HTW.out.n0, by rw [nid2]; exact HTW.out.n1⟩
    have HAR : Hid (AdvanceR τ τ' t n l) := hideIt (by
      refine ⟨by rw [hτ'], .inr ⟨HN0.out, ?_⟩⟩
      rw [HTL.out, HFT.out, hτ']
      exact hR2)
    clear hR2 hτ' wo2 nid2
    have c2 : w2.cell? ⟨B, 0, none⟩ = some (.int .u64 (til : Int)) := by rw [A.M.cell 0 (by omega)]; exact c1
    have AM := A.M
    rw [em] at AM
    have M2 : Mut3 B 0 1939 mb w.heap.size w w2 := (((M1.mono (lo' := 0) (hi' := 1939) (by omega) (by omega))).to3 (Nat.le_refl _)).trans ⟨AM.os, AM.tape, AM.output, AM.size, fun k hk => AM.block k (by omega), AM.frz, fun o ho => AM.cell o (by omega)⟩
    have D2 : Done w w2 B mb til k ν τ' σ Λ Λ := (Done.refl M).mut3 M2 (Nat.le_refl _) (by omega) (M.advance M2 (Nat.le_refl _) q1 c2 ⟨s2, L2, fr2, f2, A.T, A.I, en2, A.mb.trans em, tw2⟩)
    have hco := A.co
    have h64 : l.length ≤ 64 := by
      rcases HAR.out.2 with ⟨_, _, rfl⟩ | ⟨_, AA⟩
      · simp
      · exact AA.len M.h.m
    have hF : w2.ownsRow w1.heap.size 86 5 v l.length (firedCells l) := A.F
    have hll := A.short
    have HFA : Hid (FiredAt w2 w.heap.size v l) := hideIt ⟨hF.1, hF.2.imp id (fun ⟨g, cap, cur, h1, h2, h3⟩ => ⟨g, cap, cur, h1, by omega, h3⟩)⟩
    clear A AM M2 c2 T1 TB1 M1 c1 T I en em en2 tw2
    go_wp2_with fail
    refine (noteClock_any D2.m (by omega)).mono ?_
    rintro e w3 ⟨rfl, Λ3, N3, e3⟩
    have hkp : ∀ q, v.ownBlock = some q → w3.heap[q]? = w2.heap[q]? := fun q hq => by
      have := hF.lt q hq
      exact N3.f.block q this.2 (by omega) (by omega) (FL q (by omega))
    have hfar : ∀ q, v.ownBlock = some q → Far Λ3 q := fun q hq => by
      have := hF.lt q hq
      exact N3.f.row q this.2 (FL q (by omega))
    have hF := own_one hF hkp
    have HFA : Hid (FiredAt w3 w.heap.size v l) := hideIt (own_one HFA.out hkp)
    have D2 := D2.trans N3
    have HE3 := hideIt e3
    have hl3 : Λ3.l.length < 999999010 := by rw [e3]; simp; omega
    clear hkp N3 e3
    have hF2 := hF.2
    rcases hF2 with ⟨rfl, hl0⟩ | ⟨g, cap, cur, rfl, hg, hheap, hcap, hmax, _, _⟩
    · clear hF hco
      go_wp2
      go_loopg [24] 0 (fun g v wr => v = .int .i64 0 ∧ wr = w3)
      case atStart => exact ⟨rfl, rfl⟩
      case round =>
        obtain ⟨rfl, rfl⟩ := hrel
        have hl' : l = [] := List.length_eq_zero_iff.1 hl0
        go_wp2
        go_ret
        exact ⟨_, l, τ', rfl, HFA.out, ⟨Λ3, by rw [hl']; exact D2, by rw [HE3.out, hl', tellC, if_neg HN0.out]; rfl⟩, HAR.out⟩
    · have FG : Far Λ3 g := hfar g rfl
      have hgB : ¬ (g = B) := by omega
      have hgm : ¬ (g = mb) := by omega
      have hBg : ¬ (B = g) := by omega
      have RD : ∀ i, i < l.length → ∃ (c : Nat) (u d : Int), c < 4 ∧ Hid (∃ x, l[i]? = some x ∧ x.core = c ∧ x.t = u ∧ x.id = d) ∧ w3.cell? ⟨g, i * 5 + 1, none⟩ = some (.int .i64 (c : Int)) ∧ w3.cell? ⟨g, i * 5 + 4, none⟩ = some (.int .u64 u) ∧ w3.cell? ⟨g, i * 5, none⟩ = some (.int .u64 d) := fun i hi => by
        obtain ⟨x, hx⟩ : ∃ x, l[i]? = some x := ⟨l[i], by simp [hi]⟩
        obtain ⟨e1, e2⟩ := fired_at l i x hx
        have e0 := fired_at0 l i x hx
        have hc := hco x (List.mem_of_getElem? hx)
        have r1 := hF.cells (g := g) rfl _ _ e1
        have r2 := hF.cells (g := g) rfl _ _ e2
        have r0 := hF.cells (g := g) rfl _ _ e0
        refine ⟨x.core.toNat, x.t, x.id, by omega, hideIt ⟨x, hx, by omega, rfl, rfl⟩, ?_, ?_, ?_⟩
        · rw [show ((x.core.toNat : Nat) : Int) = x.core by omega]
          simpa [Addr.add] using r1
        · simpa [Addr.add] using r2
        · by_cases q : i * 5 = 0
          · simpa [Addr.add, q] using r0
          · simpa [Addr.add, q] using r0
      clear hF hco hheap
      have hcap' : l.length ≤ cap := hcap
      go_wp2
      go_loopg [24] l.length (fun gg v wr => ∃ (i : Nat) (Λi : LS), i + gg = l.length ∧ v = .int .i64 (i : Int) ∧ (Done w wr B mb til k ν τ' (firedSg σ (l.take i)) Λ Λi ∧ Far Λi g ∧ Hid (Λi.l = Λ.l ++ bl til 8 :: fdE til (l.take i))) ∧ wr.heap[g]? = w3.heap[g]?)
      case atStart => exact ⟨0, Λ3, by omega, rfl, ⟨by rw [List.take_zero]; exact D2, FG, hideIt (by rw [HE3.out, List.take_zero]; rfl)⟩, rfl⟩
      case round =>
        clear D2
        obtain ⟨i, Λi, hi, rfl, ⟨DR, FI, EI⟩, hrow⟩ := hrel
        have RD := hideIt RD
        by_cases hil : i < l.length
        · obtain ⟨c, u, d, hc, HX, r1, r2, r0⟩ := RD.out i hil
          have hli : Λi.l.length < 999999500 := by rw [EI.out]; simp [fdE]; omega
          have r1' : wr.cell? ⟨g, i * 5 + 1, none⟩ = some (.int .i64 (c : Int)) := (World.cell?_of_block (a := ⟨g, i * 5 + 1, none⟩) hrow).trans r1
          have r2' : wr.cell? ⟨g, i * 5 + 4, none⟩ = some (.int .u64 u) := (World.cell?_of_block (a := ⟨g, i * 5 + 4, none⟩) hrow).trans r2
          obtain ⟨v1, E1, hv1⟩ := DR.m.cntf (f := 6) hc (by omega)
          have fz := DR.m.frz
          have i0 : (0 : Int) ≤ i := by omega
          have i1 : (i : Int) < (l.length : Int) := by omega
          have j0 : (0 : Int) ≤ c := by omega
          have j1 : (c : Int) < 4 := by omega
          clear r1 r2
          go_upto_region 9 with fail
          go_cut [] (fun wd => Done w wd B mb til k ν τ' (firedSg σ (l.take (i + 1))) Λ Λi ∧ wd.heap[g]? = w3.heap[g]?)
          case first =>
            refine wp_region_held_drew (S := (fun _ => True)) (by kernel_rfl) trivial (fun hHeld => ?_)
            refine wpAnyH_take (i := 0) (oi := { dst := some 27, op := Go.Op.move (Go.Operand.tmp 0), type := 24, pos := _, after := #[], guard := none }) (v := ?vv1) rfl (by kernel_rfl) (by kernel_rfl) (by kernel_rfl) (fun _ _ _ h => h) (Or.inl ⟨by rfl, ?hy1⟩) (by assumption) ?tk1
            case hy1 => (intro w hSw; (try dsimp only at hSw); go_simp; (try with_reducible rfl))
            try simp only [Act.put, List.setIfInBounds_toArray, List.set_cons_zero, List.set_cons_succ]
            refine wpAnyH_take (i := 1) (oi := { dst := some 28, op := Go.Op.move (Go.Operand.tmp 6), type := 41, pos := _, after := #[], guard := none }) (v := ?vv2) rfl (by kernel_rfl) (by kernel_rfl) (by kernel_rfl) (fun _ _ _ h => h) (Or.inl ⟨by rfl, ?hy2⟩) (by assumption) ?tk2
            case hy2 => (intro w hSw; (try dsimp only at hSw); go_simp; (try with_reducible rfl))
            try simp only [Act.put, List.setIfInBounds_toArray, List.set_cons_zero, List.set_cons_succ]
            refine wpAnyH_take (i := 2) (oi := { dst := some 29, op := Go.Op.move (Go.Operand.tmp 7), type := 3, pos := _, after := #[], guard := none }) (v := ?vv3) rfl (by kernel_rfl) (by kernel_rfl) (by kernel_rfl) (fun _ _ _ h => h) (Or.inl ⟨by rfl, ?hy3⟩) (by assumption) ?tk3
            case hy3 => (intro w hSw; (try dsimp only at hSw); go_simp; (try with_reducible rfl))
            try simp only [Act.put, List.setIfInBounds_toArray, List.set_cons_zero, List.set_cons_succ]
            refine wpAnyH_take (i := 3) (oi := { dst := some 30, op := Go.Op.indexAddr 41 (Go.Operand.tmp 28) (Go.Operand.tmp 29), type := 0, pos := _, after := #[{ on := 1, ground := Go.Ground.data }, { on := 2, ground := Go.Ground.data }], guard := none }) (v := ?vv4) rfl (by kernel_rfl) (by kernel_rfl) (by kernel_rfl) (fun _ _ _ h => h) (Or.inl ⟨by rfl, ?hy4⟩) (by assumption) ?tk4
            case hy4 => (intro w hSw; (try dsimp only at hSw); go_simp; (try with_reducible rfl))
            try simp only [Act.put, List.setIfInBounds_toArray, List.set_cons_zero, List.set_cons_succ]
            refine wpAnyH_take (i := 4) (oi := { dst := some 31, op := Go.Op.fieldAddr 86 (Go.Operand.tmp 30) 0, type := 0, pos := _, after := #[{ on := 3, ground := Go.Ground.data }], guard := none }) (v := ?vv5) rfl (by kernel_rfl) (by kernel_rfl) (by kernel_rfl) (fun _ _ _ h => h) (Or.inl ⟨by rfl, ?hy5⟩) (by assumption) ?tk5
            case hy5 => (intro w hSw; (try dsimp only at hSw); go_simp; (try with_reducible rfl))
            try simp only [Act.put, List.setIfInBounds_toArray, List.set_cons_zero, List.set_cons_succ]
            refine wpAnyH_take (i := 5) (oi := { dst := some 32, op := Go.Op.fieldAddr 84 (Go.Operand.tmp 31) 1, type := 0, pos := _, after := #[{ on := 4, ground := Go.Ground.data }], guard := none }) (v := ?vv6) rfl (by kernel_rfl) (by kernel_rfl) (by kernel_rfl) (fun _ _ _ h => h) (Or.inl ⟨by rfl, ?hy6⟩) (by assumption) ?tk6
            case hy6 => (intro w hSw; (try dsimp only at hSw); go_simp; (try with_reducible rfl))
            try simp only [Act.put, List.setIfInBounds_toArray, List.set_cons_zero, List.set_cons_succ]
            refine wpAnyH_take (i := 7) (oi := { dst := some 34, op := Go.Op.nilCheck (Go.Operand.tmp 27), type := 0, pos := _, after := #[{ on := 0, ground := Go.Ground.data }], guard := none }) (v := ?vv7) rfl (by kernel_rfl) (by kernel_rfl) (by kernel_rfl) (fun _ _ _ h => h) (Or.inl ⟨by rfl, ?hy7⟩) (by assumption) ?tk7
            case hy7 => (intro w hSw; (try dsimp only at hSw); go_simp; (try with_reducible rfl))
            try simp only [Act.put, List.setIfInBounds_toArray, List.set_cons_zero, List.set_cons_succ]
            refine wpAnyH_take (i := 8) (oi := { dst := some 35, op := Go.Op.fieldAddr 190 (Go.Operand.tmp 34) 4, type := 0, pos := _, after := #[{ on := 7, ground := Go.Ground.data }], guard := none }) (v := ?vv8) rfl (by kernel_rfl) (by kernel_rfl) (by kernel_rfl) (fun _ _ _ h => h) (Or.inl ⟨by rfl, ?hy8⟩) (by assumption) ?tk8
            case hy8 => (intro w hSw; (try dsimp only at hSw); go_simp; (try with_reducible rfl))
            try simp only [Act.put, List.setIfInBounds_toArray, List.set_cons_zero, List.set_cons_succ]
            refine wpAnyH_take (i := 13) (oi := { dst := some 40, op := Go.Op.nilCheck (Go.Operand.tmp 27), type := 0, pos := _, after := #[{ on := 0, ground := Go.Ground.data }], guard := none }) (v := ?vv9) rfl (by kernel_rfl) (by kernel_rfl) (by kernel_rfl) (fun _ _ _ h => h) (Or.inl ⟨by rfl, ?hy9⟩) (by assumption) ?tk9
            case hy9 => (intro w hSw; (try dsimp only at hSw); go_simp; (try with_reducible rfl))
            try simp only [Act.put, List.setIfInBounds_toArray, List.set_cons_zero, List.set_cons_succ]
            refine wpAnyH_take (i := 14) (oi := { dst := some 41, op := Go.Op.fieldAddr 190 (Go.Operand.tmp 40) 4, type := 0, pos := _, after := #[{ on := 13, ground := Go.Ground.data }], guard := none }) (v := ?vv10) rfl (by kernel_rfl) (by kernel_rfl) (by kernel_rfl) (fun _ _ _ h => h) (Or.inl ⟨by rfl, ?hy10⟩) (by assumption) ?tk10
            case hy10 => (intro w hSw; (try dsimp only at hSw); go_simp; (try with_reducible rfl))
            try simp only [Act.put, List.setIfInBounds_toArray, List.set_cons_zero, List.set_cons_succ]
            refine wpAnyH_ready (rs := [6]) (by kernel_rfl) (by simp) ?_
            refine AllReadyH.cons (o := { dst := some 33, op := Go.Op.load 34 (Go.Operand.tmp 32), type := 34, pos := _, after := #[{ on := 5, ground := Go.Ground.data }], guard := none }) rfl (fun K' hK' => ?_) AllReadyH.nil
            go_simp
            clear hHeld
            refine hK'.out _ _ trivial (fun hHeld => ?_)
            clear hK' K'
            try simp only [Act.put, List.setIfInBounds_toArray, List.set_cons_zero, List.set_cons_succ]
            refine wpAnyH_take (i := 9) (oi := { dst := some 36, op := Go.Op.indexAddr 133 (Go.Operand.tmp 35) (Go.Operand.tmp 33), type := 0, pos := _, after := #[{ on := 8, ground := Go.Ground.data }, { on := 6, ground := Go.Ground.data }], guard := none }) (v := ?vv11) rfl (by kernel_rfl) (by kernel_rfl) (by kernel_rfl) (fun _ _ _ h => h) (Or.inl ⟨by rfl, ?hy11⟩) (by assumption) ?tk11
            case hy11 => (intro w hSw; (try dsimp only at hSw); go_simp; (try with_reducible rfl))
            try simp only [Act.put, List.setIfInBounds_toArray, List.set_cons_zero, List.set_cons_succ]
            refine wpAnyH_take (i := 10) (oi := { dst := some 37, op := Go.Op.fieldAddr 52 (Go.Operand.tmp 36) 6, type := 0, pos := _, after := #[{ on := 9, ground := Go.Ground.data }], guard := none }) (v := ?vv12) rfl (by kernel_rfl) (by kernel_rfl) (by kernel_rfl) (fun _ _ _ h => h) (Or.inl ⟨by rfl, ?hy12⟩) (by assumption) ?tk12
            case hy12 => (intro w hSw; (try dsimp only at hSw); go_simp; (try with_reducible rfl))
            try simp only [Act.put, List.setIfInBounds_toArray, List.set_cons_zero, List.set_cons_succ]
            refine wpAnyH_ready (rs := [11]) (by kernel_rfl) (by simp) ?_
            refine AllReadyH.cons (o := { dst := some 38, op := Go.Op.load 28 (Go.Operand.tmp 37), type := 28, pos := _, after := #[{ on := 10, ground := Go.Ground.data }], guard := none }) rfl (fun K' hK' => ?_) AllReadyH.nil
            go_simp
            clear hHeld
            refine hK'.out _ _ trivial (fun hHeld => ?_)
            clear hK' K'
            try simp only [Act.put, List.setIfInBounds_toArray, List.set_cons_zero, List.set_cons_succ]
            refine wpAnyH_take (i := 12) (oi := { dst := some 39, op := Go.Op.binOp Go.BinOp.add 28 (Go.Operand.tmp 38) (Go.Operand.const (Go.Value.int Go.IntKind.u64 1)) 28, type := 28, pos := _, after := #[{ on := 11, ground := Go.Ground.data }], guard := none }) (v := ?vv13) rfl (by kernel_rfl) (by kernel_rfl) (by kernel_rfl) (fun _ _ _ h => h) (Or.inl ⟨by rfl, ?hy13⟩) (by assumption) ?tk13
            case hy13 => (intro w hSw; (try dsimp only at hSw); go_simp; (try with_reducible rfl))
            try simp only [Act.put, List.setIfInBounds_toArray, List.set_cons_zero, List.set_cons_succ]
            refine wpAnyH_take (i := 15) (oi := { dst := some 42, op := Go.Op.indexAddr 133 (Go.Operand.tmp 41) (Go.Operand.tmp 33), type := 0, pos := _, after := #[{ on := 14, ground := Go.Ground.data }, { on := 6, ground := Go.Ground.data }, { on := 0, ground := Go.Ground.phase }, { on := 1, ground := Go.Ground.phase }, { on := 2, ground := Go.Ground.phase }, { on := 3, ground := Go.Ground.phase }, { on := 4, ground := Go.Ground.phase }, { on := 5, ground := Go.Ground.phase }, { on := 6, ground := Go.Ground.phase }, { on := 7, ground := Go.Ground.phase }, { on := 8, ground := Go.Ground.phase }, { on := 9, ground := Go.Ground.phase }, { on := 10, ground := Go.Ground.phase }, { on := 11, ground := Go.Ground.phase }, { on := 12, ground := Go.Ground.phase }], guard := none }) (v := ?vv14) rfl (by kernel_rfl) (by kernel_rfl) (by kernel_rfl) (fun _ _ _ h => h) (Or.inl ⟨by rfl, ?hy14⟩) (by assumption) ?tk14
            case hy14 => (intro w hSw; (try dsimp only at hSw); go_simp; (try with_reducible rfl))
            try simp only [Act.put, List.setIfInBounds_toArray, List.set_cons_zero, List.set_cons_succ]
            refine wpAnyH_take (i := 16) (oi := { dst := some 43, op := Go.Op.fieldAddr 52 (Go.Operand.tmp 42) 6, type := 0, pos := _, after := #[{ on := 15, ground := Go.Ground.data }, { on := 0, ground := Go.Ground.phase }, { on := 1, ground := Go.Ground.phase }, { on := 2, ground := Go.Ground.phase }, { on := 3, ground := Go.Ground.phase }, { on := 4, ground := Go.Ground.phase }, { on := 5, ground := Go.Ground.phase }, { on := 6, ground := Go.Ground.phase }, { on := 7, ground := Go.Ground.phase }, { on := 8, ground := Go.Ground.phase }, { on := 9, ground := Go.Ground.phase }, { on := 10, ground := Go.Ground.phase }, { on := 11, ground := Go.Ground.phase }, { on := 12, ground := Go.Ground.phase }], guard := none }) (v := ?vv15) rfl (by kernel_rfl) (by kernel_rfl) (by kernel_rfl) (fun _ _ _ h => h) (Or.inl ⟨by rfl, ?hy15⟩) (by assumption) ?tk15
            case hy15 => (intro w hSw; (try dsimp only at hSw); go_simp; (try with_reducible rfl))
            try simp only [Act.put, List.setIfInBounds_toArray, List.set_cons_zero, List.set_cons_succ]
            refine wpAnyH_ready (rs := [17]) (by kernel_rfl) (by simp) ?_
            refine AllReadyH.cons (o := { dst := none, op := Go.Op.store 28 (Go.Operand.tmp 43) (Go.Operand.tmp 39), type := 0, pos := _, after := #[{ on := 16, ground := Go.Ground.data }, { on := 12, ground := Go.Ground.data }, { on := 0, ground := Go.Ground.phase }, { on := 1, ground := Go.Ground.phase }, { on := 2, ground := Go.Ground.phase }, { on := 3, ground := Go.Ground.phase }, { on := 4, ground := Go.Ground.phase }, { on := 5, ground := Go.Ground.phase }, { on := 6, ground := Go.Ground.phase }, { on := 7, ground := Go.Ground.phase }, { on := 8, ground := Go.Ground.phase }, { on := 9, ground := Go.Ground.phase }, { on := 10, ground := Go.Ground.phase }, { on := 11, ground := Go.Ground.phase }, { on := 12, ground := Go.Ground.phase }], guard := none }) rfl (fun K' hK' => ?_) AllReadyH.nil
            go_simp
            clear hHeld
            refine hK'.out _ _ trivial (fun hHeld => ?_)
            clear hK' K'
            try simp only [Act.put, List.setIfInBounds_toArray, List.set_cons_zero, List.set_cons_succ]
            refine wpAnyH_done (by kernel_rfl) ?_ _
            go_wp2
            go_meet
            case rel =>
              obtain ⟨x, hx, ex0, _⟩ := HX.out
              have ex : x.core.toNat = c := by omega
              refine ⟨by rw [firedSg_take hx, ex]; exact (DR.statf hc (f := 6) (by omega) E1).drew, ?_⟩
              rw [← hrow]
              show (wr.setCell ⟨B, 6724 + c * 7 + 6, none⟩ (.int .u64 (IntKind.u64.wrap (v1 + 1)))).heap[g]? = _
              simp only [World.setCell, Array.getElem?_modify]
              rw [if_neg hBg]
          case rest =>
            clear r1' r2' hv1 fz DR hrow
            obtain ⟨DS, hrow⟩ := hcut
            obtain ⟨c', u', d', hc', HX', r1, r2, r0⟩ := RD.out i hil
            have r0' : wc.cell? ⟨g, i * 5, none⟩ = some (.int .u64 d') := (World.cell?_of_block (a := ⟨g, i * 5, none⟩) hrow).trans r0
            have r1' : wc.cell? ⟨g, i * 5 + 1, none⟩ = some (.int .i64 (c' : Int)) := (World.cell?_of_block (a := ⟨g, i * 5 + 1, none⟩) hrow).trans r1
            have r2' : wc.cell? ⟨g, i * 5 + 4, none⟩ = some (.int .u64 u') := (World.cell?_of_block (a := ⟨g, i * 5 + 4, none⟩) hrow).trans r2
            clear r1 r2
            go_upto_region 10 with fail
            refine wp_region_held_drew (S := (fun w' => w'.cell? ⟨g, i * 5 + 4, none⟩ = some (.int .u64 u'))) (by kernel_rfl) r2' (fun hHeld => ?_)
            refine wpAnyH_take (i := 0) (oi := { dst := some 44, op := Go.Op.move (Go.Operand.tmp 0), type := 24, pos := _, after := #[], guard := none }) (v := ?vv5001) rfl (by kernel_rfl) (by kernel_rfl) (by kernel_rfl) (fun _ _ _ h => h) (Or.inl ⟨by rfl, ?hy5001⟩) (by assumption) ?tk5001
            case hy5001 => (intro w hSw; (try dsimp only at hSw); go_simp; (try with_reducible rfl))
            try simp only [Act.put, List.setIfInBounds_toArray, List.set_cons_zero, List.set_cons_succ]
            refine wpAnyH_take (i := 1) (oi := { dst := some 45, op := Go.Op.move (Go.Operand.tmp 6), type := 41, pos := _, after := #[], guard := none }) (v := ?vv5002) rfl (by kernel_rfl) (by kernel_rfl) (by kernel_rfl) (fun _ _ _ h => h) (Or.inl ⟨by rfl, ?hy5002⟩) (by assumption) ?tk5002
            case hy5002 => (intro w hSw; (try dsimp only at hSw); go_simp; (try with_reducible rfl))
            try simp only [Act.put, List.setIfInBounds_toArray, List.set_cons_zero, List.set_cons_succ]
            refine wpAnyH_take (i := 2) (oi := { dst := some 46, op := Go.Op.move (Go.Operand.tmp 7), type := 3, pos := _, after := #[], guard := none }) (v := ?vv5003) rfl (by kernel_rfl) (by kernel_rfl) (by kernel_rfl) (fun _ _ _ h => h) (Or.inl ⟨by rfl, ?hy5003⟩) (by assumption) ?tk5003
            case hy5003 => (intro w hSw; (try dsimp only at hSw); go_simp; (try with_reducible rfl))
            try simp only [Act.put, List.setIfInBounds_toArray, List.set_cons_zero, List.set_cons_succ]
            refine wpAnyH_take (i := 3) (oi := { dst := some 47, op := Go.Op.indexAddr 41 (Go.Operand.tmp 45) (Go.Operand.tmp 46), type := 0, pos := _, after := #[{ on := 1, ground := Go.Ground.data }, { on := 2, ground := Go.Ground.data }], guard := none }) (v := ?vv5004) rfl (by kernel_rfl) (by kernel_rfl) (by kernel_rfl) (fun _ _ _ h => h) (Or.inl ⟨by rfl, ?hy5004⟩) (by assumption) ?tk5004
            case hy5004 => (intro w hSw; (try dsimp only at hSw); go_simp; (try with_reducible rfl))
            try simp only [Act.put, List.setIfInBounds_toArray, List.set_cons_zero, List.set_cons_succ]
            refine wpAnyH_take (i := 4) (oi := { dst := some 48, op := Go.Op.fieldAddr 86 (Go.Operand.tmp 47) 0, type := 0, pos := _, after := #[{ on := 3, ground := Go.Ground.data }], guard := none }) (v := ?vv5005) rfl (by kernel_rfl) (by kernel_rfl) (by kernel_rfl) (fun _ _ _ h => h) (Or.inl ⟨by rfl, ?hy5005⟩) (by assumption) ?tk5005
            case hy5005 => (intro w hSw; (try dsimp only at hSw); go_simp; (try with_reducible rfl))
            try simp only [Act.put, List.setIfInBounds_toArray, List.set_cons_zero, List.set_cons_succ]
            refine wpAnyH_take (i := 5) (oi := { dst := some 49, op := Go.Op.move (Go.Operand.tmp 6), type := 41, pos := _, after := #[], guard := none }) (v := ?vv5006) rfl (by kernel_rfl) (by kernel_rfl) (by kernel_rfl) (fun _ _ _ h => h) (Or.inl ⟨by rfl, ?hy5006⟩) (by assumption) ?tk5006
            case hy5006 => (intro w hSw; (try dsimp only at hSw); go_simp; (try with_reducible rfl))
            try simp only [Act.put, List.setIfInBounds_toArray, List.set_cons_zero, List.set_cons_succ]
            refine wpAnyH_take (i := 6) (oi := { dst := some 50, op := Go.Op.move (Go.Operand.tmp 7), type := 3, pos := _, after := #[], guard := none }) (v := ?vv5007) rfl (by kernel_rfl) (by kernel_rfl) (by kernel_rfl) (fun _ _ _ h => h) (Or.inl ⟨by rfl, ?hy5007⟩) (by assumption) ?tk5007
            case hy5007 => (intro w hSw; (try dsimp only at hSw); go_simp; (try with_reducible rfl))
            try simp only [Act.put, List.setIfInBounds_toArray, List.set_cons_zero, List.set_cons_succ]
            refine wpAnyH_take (i := 7) (oi := { dst := some 51, op := Go.Op.indexAddr 41 (Go.Operand.tmp 49) (Go.Operand.tmp 50), type := 0, pos := _, after := #[{ on := 5, ground := Go.Ground.data }, { on := 6, ground := Go.Ground.data }], guard := none }) (v := ?vv5008) rfl (by kernel_rfl) (by kernel_rfl) (by kernel_rfl) (fun _ _ _ h => h) (Or.inl ⟨by rfl, ?hy5008⟩) (by assumption) ?tk5008
            case hy5008 => (intro w hSw; (try dsimp only at hSw); go_simp; (try with_reducible rfl))
            try simp only [Act.put, List.setIfInBounds_toArray, List.set_cons_zero, List.set_cons_succ]
            refine wpAnyH_take (i := 8) (oi := { dst := some 52, op := Go.Op.fieldAddr 86 (Go.Operand.tmp 51) 1, type := 0, pos := _, after := #[{ on := 7, ground := Go.Ground.data }], guard := none }) (v := ?vv5009) rfl (by kernel_rfl) (by kernel_rfl) (by kernel_rfl) (fun _ _ _ h => h) (Or.inl ⟨by rfl, ?hy5009⟩) (by assumption) ?tk5009
            case hy5009 => (intro w hSw; (try dsimp only at hSw); go_simp; (try with_reducible rfl))
            try simp only [Act.put, List.setIfInBounds_toArray, List.set_cons_zero, List.set_cons_succ]
            refine wpAnyH_take (i := 9) (oi := { dst := some 53, op := Go.Op.load 29 (Go.Operand.tmp 52), type := 29, pos := _, after := #[{ on := 8, ground := Go.Ground.data }], guard := none }) (v := ?vv5010) rfl (by kernel_rfl) (by kernel_rfl) (by kernel_rfl) (fun _ _ _ h => h) (Or.inl ⟨by rfl, ?hy5010⟩) (by assumption) ?tk5010
            case hy5010 => (intro w hSw; (try dsimp only at hSw); go_simp; (try with_reducible rfl))
            try simp only [Act.put, List.setIfInBounds_toArray, List.set_cons_zero, List.set_cons_succ]
            refine wpAnyH_ready (rs := [10]) (by kernel_rfl) (by simp) ?_
            refine AllReadyH.cons (o := { dst := some 54, op := Go.Op.call { callee := Go.Callee.value (Go.Operand.func 105), args := #[Go.Operand.tmp 44, Go.Operand.const (Go.Value.int Go.IntKind.u8 7), Go.Operand.tmp 48, Go.Operand.tmp 53], argTypes := #[24, 121, 210, 29] }, type := 0, pos := _, after := #[{ on := 0, ground := Go.Ground.data }, { on := 4, ground := Go.Ground.data }, { on := 9, ground := Go.Ground.data }], guard := none }) rfl (fun K' hK' => ?_) AllReadyH.nil
            go_simp
            go_at_call 105
            refine (noteTimer_any (kd := 7) (a := u') (c := (c' : Int)) (id := d') (q := g) (o := i * 5) DS.drew.m (by omega) (by omega) r0' r1').mono ?_
            rintro x w4 ⟨rfl, Λ4, N4, e4⟩
            have hgl : g < (World.drew wc).heap.size := World.block_lt_of_cell? (a := ⟨g, i * 5 + 4, none⟩) _ r2'
            have hrow4 := N4.f.block g hgl hgB hgm FI
            have F4 := N4.f.row g hgl FI
            have D4 := DS.drew.trans N4
            have r4 : w4.cell? ⟨g, i * 5 + 4, none⟩ = some (.int .u64 u') := (World.cell?_of_block (a := ⟨g, i * 5 + 4, none⟩) hrow4).trans r2'
            have HE4 : Hid (Λ4.l = Λ.l ++ bl til 8 :: fdE til (l.take (i + 1))) := hideIt (by obtain ⟨x, hx, ex0, ex1, ex2⟩ := HX'.out; rw [e4, EI.out, fdE_take hx, ex0, ex1, ex2]; simp)
            clear N4 e4 hgl
            clear hHeld
            refine hK'.out _ _ r4 (fun hHeld => ?_)
            clear hK' K'
            try simp only [Act.put, List.setIfInBounds_toArray, List.set_cons_zero, List.set_cons_succ]
            refine wpAnyH_done (by kernel_rfl) ?_ _
            go_wp2
            go_roundg (l.length - (i + 1))
            case measure => omega
            case rel => exact ⟨i + 1, Λ4, by omega, by go_num, ⟨D4, F4, HE4⟩, hrow4.trans hrow⟩
        · have e : i = l.length := by omega
          subst e
          go_wp2
          go_ret
          refine ⟨_, l, τ', rfl, ?_, ⟨Λi, by rw [List.take_of_length_le (Nat.le_refl _)] at DR; exact DR, by rw [EI.out, List.take_of_length_le (Nat.le_refl _), tellC, if_neg HN0.out]⟩, HAR.out⟩
          refine ⟨HFA.out.1, ?_⟩
          rcases HFA.out.2 with ⟨e1, e2⟩ | ⟨g', cap', cur', h1, h2, h3, h4⟩
          · exact .inl ⟨e1, e2⟩
          · have hgg : g' = g := by
              have := h1
              simp only [Value.slice.injEq, Option.some.injEq, Addr.mk.injEq] at this
              omega
            subst hgg
            exact .inr ⟨g', cap', cur', h1, h2, hrow.trans h3, h4⟩
set_option maxHeartbeats 1000000 in
theorem tick_m {w : World} {B mb t k : Nat} {ν : Net} {τ : TSt} {σ : Sg} {Λ : LS} (M : Mach w B mb t k ν τ σ Λ) (hl : Λ.l.length < 999999000) : Calls Tryz.prog 50 #[.pointer (some ⟨B, 0, none⟩)] w fun e w' => ∃ (v : Value) (l : List FiredS) (τ' : TSt), e = .returned v ∧ FiredAt w' w.heap.size v l ∧ (∃ Λ', Done w w' B mb (afterF t 1) k ν τ' (firedSg σ l) Λ Λ' ∧ Λ'.l = Λ.l ++ tellC (afterF t 1) 1 l) ∧ AdvanceR τ τ' t 1 l := by
  go_enter Tryz.func50, Tryz.ntmps50
  go_wp2_with fail
  refine (advance_m (n := 1) M hl (by omega)).mono ?_
  rintro e w1 ⟨v, l, τ', rfl, F, D, hR⟩
  have HR := hideIt hR
  clear hR
  go_wp2
  go_ret
  exact ⟨v, l, τ', rfl, F, D, HR.out⟩
end W
end Go.Proofs.Qxb6500877aGreatDoor
