import Derived.Test.Qxb6500877aGreatDoorPMg
set_option linter.unusedVariables false
set_option linter.unusedSimpArgs false
namespace Go.Proofs.Qxb6500877aGreatDoor
open Go.RowKit



theorem fired_at : ∀ (l : List FiredS) (i : Nat) (x : FiredS), l[i]? = some x → (firedCells l)[i * 5 + 1]? = some (.int .i64 x.core) ∧ (firedCells l)[i * 5 + 4]? = some (.int .u64 x.t)
  | [], i, x, h => by simp at h
  | y :: l, 0, x, h => by
    simp at h
    subst h
    simp [firedCells]
  | y :: l, i + 1, x, h => by
    have h' : l[i]? = some x := by simpa using h
    have := fired_at l i x h'
    have e1 : (i + 1) * 5 + 1 = (i * 5 + 1) + 5 := by omega
    have e2 : (i + 1) * 5 + 4 = (i * 5 + 4) + 5 := by omega
    have e3 : firedCells (y :: l) = [.int .u64 y.id, .int .i64 y.core, .int .u64 y.dl, .int .u64 y.ck, .int .u64 y.t] ++ firedCells l := by simp [firedCells]
    rw [e1, e2, e3]
    rw [List.getElem?_append_right (by simp), List.getElem?_append_right (by simp)]
    simpa using this
theorem Mach.advance {w w' : World} {B mb t t' k base : Nat} {ν : Net} {τ τ' : TSt} {σ : Sg} (h : Mach w B mb t k ν τ σ) (M : Mut3 B 0 1939 mb base w w') (hb : B < base) (ht' : t' < 18446744073709551616) (hc : w'.cell? ⟨B, 0, none⟩ = some (.int .u64 (t' : Int))) (ht : ∃ s L fr f, TimersAt w' B k s f ∧ WInv s L fr f [] ∧ s.now = t' ∧ s.mb = mb ∧ TW s L fr f τ' k) : Mach w' B mb t' k ν τ' σ := by
  have hB := h.hB
  have hm := h.hm
  obtain ⟨N, K⟩ := h.net
  obtain ⟨S, O⟩ := h.sch
  have hv := h.vac
  refine ⟨hc, ht', ht, ⟨⟨fun o ho => by rw [M.cell _ (by omega)]; exact N.cell o ho, fun o => by rw [M.frz]; exact N.frz o⟩, K⟩, ⟨⟨fun o ho => by rw [M.cell _ (by omega)]; exact S.cell o ho, fun o => by rw [M.frz]; exact S.frz o⟩, O⟩, fun j hj => by rw [M.cell _ (by omega)]; exact h.sts j hj, h.stb, by rw [M.cell _ (by omega)]; exact h.snk, ?_, h.tab.mut3 M hB hm (by omega), hB, hm⟩
  exact ⟨M.far (by omega) (by omega) (by omega) hv.v0, M.far (by omega) (by omega) (by omega) hv.v1, M.far (by omega) (by omega) (by omega) hv.v2, M.far (by omega) (by omega) (by omega) hv.v3, M.far (by omega) (by omega) (by omega) hv.v4⟩
/-- A list is returned. -/
def Rows1 (e : Ending) : Prop := ∃ p a b, e = .returned (.slice p a b)
theorem rows1_mk (p : Option Addr) (a b : Nat) : Rows1 (.returned (.slice p a b)) := ⟨p, a, b, rfl⟩
theorem Done.drewN {w w1 : World} {B mb t k : Nat} {ν : Net} {τ : TSt} {σ : Sg} (h : Done w w1 B mb t k ν τ σ) (n : Nat) : Done w (w1.drewN n) B mb t k ν τ σ := h.mut ((Mut.refl B 0 0 w1).drewN n) (by omega) (h.m.keep ((Mut.refl B 0 0 w1).drewN n))

/-- The counters of the timers that went off. -/
def firedSg (σ : Sg) (l : List FiredS) : Sg := l.foldl (fun σ e => σ.inc (e.core.toNat * 7 + 6)) σ
theorem firedSg_snoc (σ : Sg) (l : List FiredS) (e : FiredS) : firedSg σ (l ++ [e]) = (firedSg σ l).inc (e.core.toNat * 7 + 6) := by simp [firedSg]
theorem firedSg_take {σ : Sg} {l : List FiredS} {i : Nat} {e : FiredS} (h : l[i]? = some e) : firedSg σ (l.take (i + 1)) = (firedSg σ (l.take i)).inc (e.core.toNat * 7 + 6) := by
  rw [List.take_add_one, h]
  exact firedSg_snoc _ _ _
/-- What an advance by n ticks from t on does to the timers, and what it answers. -/
def AdvanceR (τ τ' : TSt) (t n : Nat) (l : List FiredS) : Prop := τ'.nx = τ.nx ∧ ((n = 0 ∧ τ' = τ ∧ l = []) ∨ (n ≠ 0 ∧ AdvR τ.tm τ'.tm (afterF t n) (afterF t 1) l))
set_option maxHeartbeats 8000000 in
theorem advance_m {w : World} {B mb t k : Nat} {ν : Net} {τ : TSt} {σ : Sg} {n : Nat} (M : Mach w B mb t k ν τ σ) (hn : n < 18446744073709551616) : Calls Tryz.prog 43 #[.pointer (some ⟨B, 0, none⟩), .int .u64 (n : Int)] w fun e w' => ∃ (v : Value) (l : List FiredS) (τ' : TSt), e = .returned v ∧ FiredAt w' w.heap.size v l ∧ Done w w' B mb (afterF t n) k ν τ' (firedSg σ l) ∧ AdvanceR τ τ' t n l := by
  by_cases h0 : n = 0
  · subst h0
    have e0 : afterF t 0 = t := by unfold afterF; rw [if_neg (by omega)]; rfl
    rw [e0]
    clear e0
    go_enter Tryz.func43, Tryz.ntmps43
    go_wp2
    go_ret
    exact ⟨.slice none 0 0, [], τ, rfl, FiredAt.nil _ _, Done.refl M, rfl, .inl ⟨rfl, rfl, rfl⟩⟩
  · have hb0 : ((n : Int) == 0) = false := by simp; omega
    have HN0 := hideIt h0
    clear h0
    obtain ⟨s, L, fr, f, T, I, en, em, tw⟩ := M.tim
    have HTW := hideIt tw
    clear tw
    have hlt := M.lt
    have hml := M.mlt
    have hne := M.ne
    have h2 := M.hB
    have hm2 := M.hm
    have ha := clockAdvance_any (n := n) M.clk M.frz M.tlt hn
    obtain ⟨q1, q2⟩ := afterF_lt t n M.tlt
    obtain ⟨til, HTL⟩ : ∃ til, Hid (afterF t n = til) := ⟨_, hideIt rfl⟩
    obtain ⟨ft, HFT⟩ : ∃ ft, Hid (afterF t 1 = ft) := ⟨_, hideIt rfl⟩
    rw [HTL.out] at ha q1 q2
    rw [HTL.out]
    have M1 : Mut B 0 1 w (w.setCell ⟨B, 0, none⟩ (.int .u64 (til : Int))) := (Mut.refl B 0 1 w).setCell (by omega) (by omega) _
    have c1 : (w.setCell ⟨B, 0, none⟩ (.int .u64 (til : Int))).cell? ⟨B, 0, none⟩ = some (.int .u64 (til : Int)) := World.cell?_setCell_same _ _ _ M.clk
    generalize w.setCell ⟨B, 0, none⟩ (.int .u64 (til : Int)) = W at ha M1 c1
    have T1 := T.mut M1 (by omega)
    have TB1 := M.tab.mut M1 h2
    have sz := M1.size
    go_enter Tryz.func43, Tryz.ntmps43
    go_wp2_with fail
    refine ha.mono ?_
    rintro e w1 ⟨rfl, hw1⟩
    rw [← hw1] at T1 M1 c1 TB1 sz
    clear hw1 ha
    go_wp2_with fail
    refine (advance_t (τ0 := τ.tm) (ft := ft) (base := w1.heap.size) T1 I TB1 h2 (by omega) (by omega) (by omega) (Nat.le_refl _) en q2 q1 HTW.out.wo HTW.out.tm HFT.out).mono ?_
    rintro e w2 ⟨v, s2, L2, fr2, f2, l, rfl, A, en2, nid2, wo2, hR2⟩
    obtain ⟨τ', hτ'⟩ : ∃ τ' : TSt, τ' = ⟨tmOf s2 f2, τ.nx⟩ := ⟨_, rfl⟩
    have tw2 : TW s2 L2 fr2 f2 τ' k := ⟨wo2, by rw [hτ'], by rw [hτ', nid2]; exact HTW.out.nx, by rw [nid2]; exact HTW.out.n0, by rw [nid2]; exact HTW.out.n1⟩
    have HAR : Hid (AdvanceR τ τ' t n l) := hideIt (by
      refine ⟨by rw [hτ'], .inr ⟨HN0.out, ?_⟩⟩
      rw [HTL.out, HFT.out, hτ']
      exact hR2)
    clear hR2 hτ' wo2 nid2
    have c2 : w2.cell? ⟨B, 0, none⟩ = some (.int .u64 (til : Int)) := by rw [A.M.cell 0 (by omega)]; exact c1
    have AM := A.M
    rw [em] at AM
    have M2 : Mut3 B 0 1939 mb w.heap.size w w2 := (((M1.mono (lo' := 0) (hi' := 1939) (by omega) (by omega))).to3 (Nat.le_refl _)).trans ⟨AM.os, AM.tape, AM.output, AM.size, fun k hk => AM.block k (by omega), AM.frz, fun o ho => AM.cell o (by omega)⟩
    have D2 : Done w w2 B mb til k ν τ' σ := (Done.refl M).mut3 M2 (Nat.le_refl _) (by omega) (M.advance M2 hlt q1 c2 ⟨s2, L2, fr2, f2, A.T, A.I, en2, A.mb.trans em, tw2⟩)
    have hco := A.co
    have hF : w2.ownsRow w1.heap.size 86 5 v l.length (firedCells l) := A.F
    have hll := A.short
    have HFA : Hid (FiredAt w2 w.heap.size v l) := hideIt ⟨hF.1, hF.2.imp id (fun ⟨g, cap, cur, h1, h2, h3⟩ => ⟨g, cap, cur, h1, by omega, h3⟩)⟩
    clear A AM M2 c2 T1 TB1 M1 c1 T I en em en2 tw2
    go_wp2_with fail
    refine (noteClock_any D2.m.snk).mono ?_
    rintro e w3 ⟨rfl, hw3⟩
    rw [← hw3] at D2 hF HFA
    clear hw3
    have hF2 := hF.2
    rcases hF2 with ⟨rfl, hl0⟩ | ⟨g, cap, cur, rfl, hg, hheap, hcap, hmax, _, _⟩
    · clear hF hco
      go_wp2
      go_loopg [24] 0 (fun g v wr => v = .int .i64 0 ∧ wr = w3)
      case atStart => exact ⟨rfl, rfl⟩
      case round =>
        obtain ⟨rfl, rfl⟩ := hrel
        have hl' : l = [] := List.length_eq_zero_iff.1 hl0
        go_wp2
        go_ret
        exact ⟨_, l, τ', rfl, HFA.out, by rw [hl']; exact D2, HAR.out⟩
    · have hgB : ¬ (g = B) := by omega
      have hBg : ¬ (B = g) := by omega
      have RD : ∀ i, i < l.length → ∃ c : Nat, c < 4 ∧ Hid (∃ x, l[i]? = some x ∧ x.core.toNat = c) ∧ w3.cell? ⟨g, i * 5 + 1, none⟩ = some (.int .i64 (c : Int)) ∧ ∃ u, w3.cell? ⟨g, i * 5 + 4, none⟩ = some (.int .u64 u) := fun i hi => by
        obtain ⟨x, hx⟩ : ∃ x, l[i]? = some x := ⟨l[i], by simp [hi]⟩
        obtain ⟨e1, e2⟩ := fired_at l i x hx
        have hc := hco x (List.mem_of_getElem? hx)
        have r1 := hF.cells (g := g) rfl _ _ e1
        have r2 := hF.cells (g := g) rfl _ _ e2
        refine ⟨x.core.toNat, by omega, hideIt ⟨x, hx, rfl⟩, ?_, x.t, ?_⟩
        · rw [show ((x.core.toNat : Nat) : Int) = x.core by omega]
          simpa [Addr.add] using r1
        · simpa [Addr.add] using r2
      clear hF hco hheap
      have hcap' : l.length ≤ cap := hcap
      go_wp2
      go_loopg [24] l.length (fun gg v wr => ∃ i : Nat, i + gg = l.length ∧ v = .int .i64 (i : Int) ∧ Done w wr B mb til k ν τ' (firedSg σ (l.take i)) ∧ wr.heap[g]? = w3.heap[g]?)
      case atStart => exact ⟨0, by omega, rfl, by rw [List.take_zero]; exact D2, rfl⟩
      case round =>
        clear D2
        obtain ⟨i, hi, rfl, DR, hrow⟩ := hrel
        have RD := hideIt RD
        by_cases hil : i < l.length
        · obtain ⟨c, hc, HX, r1, u, r2⟩ := RD.out i hil
          have r1' : wr.cell? ⟨g, i * 5 + 1, none⟩ = some (.int .i64 (c : Int)) := (World.cell?_of_block (a := ⟨g, i * 5 + 1, none⟩) hrow).trans r1
          have r2' : wr.cell? ⟨g, i * 5 + 4, none⟩ = some (.int .u64 u) := (World.cell?_of_block (a := ⟨g, i * 5 + 4, none⟩) hrow).trans r2
          obtain ⟨v1, E1, hv1⟩ := DR.m.cntf (f := 6) hc (by omega)
          have fz := DR.m.frz
          have i0 : (0 : Int) ≤ i := by omega
          have i1 : (i : Int) < (l.length : Int) := by omega
          have j0 : (0 : Int) ≤ c := by omega
          have j1 : (c : Int) < 4 := by omega
          clear r1 r2
          go_upto_region 9 with fail
          go_cut [] (fun wd => Done w wd B mb til k ν τ' (firedSg σ (l.take (i + 1))) ∧ wd.heap[g]? = w3.heap[g]?)
          case first =>
            refine wp_region_held_drew (S := (fun _ => True)) (by kernel_rfl) trivial (fun hHeld => ?_)
            refine wpAnyH_take (i := 0) (oi := { dst := some 27, op := Go.Op.move (Go.Operand.tmp 0), type := 24, pos := _, after := #[], guard := none }) (v := ?vv1) rfl (by kernel_rfl) (by kernel_rfl) (by kernel_rfl) (fun _ _ _ h => h) (Or.inl ⟨by rfl, ?hy1⟩) (by assumption) ?tk1
            case hy1 => (intro w hSw; (try dsimp only at hSw); go_simp; (try with_reducible rfl))
            try simp only [Act.put, List.setIfInBounds_toArray, List.set_cons_zero, List.set_cons_succ]
            refine wpAnyH_take (i := 1) (oi := { dst := some 28, op := Go.Op.move (Go.Operand.tmp 6), type := 41, pos := _, after := #[], guard := none }) (v := ?vv2) rfl (by kernel_rfl) (by kernel_rfl) (by kernel_rfl) (fun _ _ _ h => h) (Or.inl ⟨by rfl, ?hy2⟩) (by assumption) ?tk2
            case hy2 => (intro w hSw; (try dsimp only at hSw); go_simp; (try with_reducible rfl))
            try simp only [Act.put, List.setIfInBounds_toArray, List.set_cons_zero, List.set_cons_succ]
            refine wpAnyH_take (i := 2) (oi := { dst := some 29, op := Go.Op.move (Go.Operand.tmp 7), type := 3, pos := _, after := #[], guard := none }) (v := ?vv3) rfl (by kernel_rfl) (by kernel_rfl) (by kernel_rfl) (fun _ _ _ h => h) (Or.inl ⟨by rfl, ?hy3⟩) (by assumption) ?tk3
            case hy3 => (intro w hSw; (try dsimp only at hSw); go_simp; (try with_reducible rfl))
            try simp only [Act.put, List.setIfInBounds_toArray, List.set_cons_zero, List.set_cons_succ]
            refine wpAnyH_take (i := 3) (oi := { dst := some 30, op := Go.Op.indexAddr 41 (Go.Operand.tmp 28) (Go.Operand.tmp 29), type := 0, pos := _, after := #[{ on := 1, ground := Go.Ground.data }, { on := 2, ground := Go.Ground.data }], guard := none }) (v := ?vv4) rfl (by kernel_rfl) (by kernel_rfl) (by kernel_rfl) (fun _ _ _ h => h) (Or.inl ⟨by rfl, ?hy4⟩) (by assumption) ?tk4
            case hy4 => (intro w hSw; (try dsimp only at hSw); go_simp; (try with_reducible rfl))
            try simp only [Act.put, List.setIfInBounds_toArray, List.set_cons_zero, List.set_cons_succ]
            refine wpAnyH_take (i := 4) (oi := { dst := some 31, op := Go.Op.fieldAddr 86 (Go.Operand.tmp 30) 0, type := 0, pos := _, after := #[{ on := 3, ground := Go.Ground.data }], guard := none }) (v := ?vv5) rfl (by kernel_rfl) (by kernel_rfl) (by kernel_rfl) (fun _ _ _ h => h) (Or.inl ⟨by rfl, ?hy5⟩) (by assumption) ?tk5
            case hy5 => (intro w hSw; (try dsimp only at hSw); go_simp; (try with_reducible rfl))
            try simp only [Act.put, List.setIfInBounds_toArray, List.set_cons_zero, List.set_cons_succ]
            refine wpAnyH_take (i := 5) (oi := { dst := some 32, op := Go.Op.fieldAddr 84 (Go.Operand.tmp 31) 1, type := 0, pos := _, after := #[{ on := 4, ground := Go.Ground.data }], guard := none }) (v := ?vv6) rfl (by kernel_rfl) (by kernel_rfl) (by kernel_rfl) (fun _ _ _ h => h) (Or.inl ⟨by rfl, ?hy6⟩) (by assumption) ?tk6
            case hy6 => (intro w hSw; (try dsimp only at hSw); go_simp; (try with_reducible rfl))
            try simp only [Act.put, List.setIfInBounds_toArray, List.set_cons_zero, List.set_cons_succ]
            refine wpAnyH_take (i := 7) (oi := { dst := some 34, op := Go.Op.nilCheck (Go.Operand.tmp 27), type := 0, pos := _, after := #[{ on := 0, ground := Go.Ground.data }], guard := none }) (v := ?vv7) rfl (by kernel_rfl) (by kernel_rfl) (by kernel_rfl) (fun _ _ _ h => h) (Or.inl ⟨by rfl, ?hy7⟩) (by assumption) ?tk7
            case hy7 => (intro w hSw; (try dsimp only at hSw); go_simp; (try with_reducible rfl))
            try simp only [Act.put, List.setIfInBounds_toArray, List.set_cons_zero, List.set_cons_succ]
            refine wpAnyH_take (i := 8) (oi := { dst := some 35, op := Go.Op.fieldAddr 190 (Go.Operand.tmp 34) 4, type := 0, pos := _, after := #[{ on := 7, ground := Go.Ground.data }], guard := none }) (v := ?vv8) rfl (by kernel_rfl) (by kernel_rfl) (by kernel_rfl) (fun _ _ _ h => h) (Or.inl ⟨by rfl, ?hy8⟩) (by assumption) ?tk8
            case hy8 => (intro w hSw; (try dsimp only at hSw); go_simp; (try with_reducible rfl))
            try simp only [Act.put, List.setIfInBounds_toArray, List.set_cons_zero, List.set_cons_succ]
            refine wpAnyH_take (i := 13) (oi := { dst := some 40, op := Go.Op.nilCheck (Go.Operand.tmp 27), type := 0, pos := _, after := #[{ on := 0, ground := Go.Ground.data }], guard := none }) (v := ?vv9) rfl (by kernel_rfl) (by kernel_rfl) (by kernel_rfl) (fun _ _ _ h => h) (Or.inl ⟨by rfl, ?hy9⟩) (by assumption) ?tk9
            case hy9 => (intro w hSw; (try dsimp only at hSw); go_simp; (try with_reducible rfl))
            try simp only [Act.put, List.setIfInBounds_toArray, List.set_cons_zero, List.set_cons_succ]
            refine wpAnyH_take (i := 14) (oi := { dst := some 41, op := Go.Op.fieldAddr 190 (Go.Operand.tmp 40) 4, type := 0, pos := _, after := #[{ on := 13, ground := Go.Ground.data }], guard := none }) (v := ?vv10) rfl (by kernel_rfl) (by kernel_rfl) (by kernel_rfl) (fun _ _ _ h => h) (Or.inl ⟨by rfl, ?hy10⟩) (by assumption) ?tk10
            case hy10 => (intro w hSw; (try dsimp only at hSw); go_simp; (try with_reducible rfl))
            try simp only [Act.put, List.setIfInBounds_toArray, List.set_cons_zero, List.set_cons_succ]
            refine wpAnyH_ready (rs := [6]) (by kernel_rfl) (by simp) ?_
            refine AllReadyH.cons (o := { dst := some 33, op := Go.Op.load 34 (Go.Operand.tmp 32), type := 34, pos := _, after := #[{ on := 5, ground := Go.Ground.data }], guard := none }) rfl (fun K' hK' => ?_) AllReadyH.nil
            go_simp
            clear hHeld
            refine hK'.out _ _ trivial (fun hHeld => ?_)
            clear hK' K'
            try simp only [Act.put, List.setIfInBounds_toArray, List.set_cons_zero, List.set_cons_succ]
            refine wpAnyH_take (i := 9) (oi := { dst := some 36, op := Go.Op.indexAddr 133 (Go.Operand.tmp 35) (Go.Operand.tmp 33), type := 0, pos := _, after := #[{ on := 8, ground := Go.Ground.data }, { on := 6, ground := Go.Ground.data }], guard := none }) (v := ?vv11) rfl (by kernel_rfl) (by kernel_rfl) (by kernel_rfl) (fun _ _ _ h => h) (Or.inl ⟨by rfl, ?hy11⟩) (by assumption) ?tk11
            case hy11 => (intro w hSw; (try dsimp only at hSw); go_simp; (try with_reducible rfl))
            try simp only [Act.put, List.setIfInBounds_toArray, List.set_cons_zero, List.set_cons_succ]
            refine wpAnyH_take (i := 10) (oi := { dst := some 37, op := Go.Op.fieldAddr 52 (Go.Operand.tmp 36) 6, type := 0, pos := _, after := #[{ on := 9, ground := Go.Ground.data }], guard := none }) (v := ?vv12) rfl (by kernel_rfl) (by kernel_rfl) (by kernel_rfl) (fun _ _ _ h => h) (Or.inl ⟨by rfl, ?hy12⟩) (by assumption) ?tk12
            case hy12 => (intro w hSw; (try dsimp only at hSw); go_simp; (try with_reducible rfl))
            try simp only [Act.put, List.setIfInBounds_toArray, List.set_cons_zero, List.set_cons_succ]
            refine wpAnyH_ready (rs := [11]) (by kernel_rfl) (by simp) ?_
            refine AllReadyH.cons (o := { dst := some 38, op := Go.Op.load 28 (Go.Operand.tmp 37), type := 28, pos := _, after := #[{ on := 10, ground := Go.Ground.data }], guard := none }) rfl (fun K' hK' => ?_) AllReadyH.nil
            go_simp
            clear hHeld
            refine hK'.out _ _ trivial (fun hHeld => ?_)
            clear hK' K'
            try simp only [Act.put, List.setIfInBounds_toArray, List.set_cons_zero, List.set_cons_succ]
            refine wpAnyH_take (i := 12) (oi := { dst := some 39, op := Go.Op.binOp Go.BinOp.add 28 (Go.Operand.tmp 38) (Go.Operand.const (Go.Value.int Go.IntKind.u64 1)) 28, type := 28, pos := _, after := #[{ on := 11, ground := Go.Ground.data }], guard := none }) (v := ?vv13) rfl (by kernel_rfl) (by kernel_rfl) (by kernel_rfl) (fun _ _ _ h => h) (Or.inl ⟨by rfl, ?hy13⟩) (by assumption) ?tk13
            case hy13 => (intro w hSw; (try dsimp only at hSw); go_simp; (try with_reducible rfl))
            try simp only [Act.put, List.setIfInBounds_toArray, List.set_cons_zero, List.set_cons_succ]
            refine wpAnyH_take (i := 15) (oi := { dst := some 42, op := Go.Op.indexAddr 133 (Go.Operand.tmp 41) (Go.Operand.tmp 33), type := 0, pos := _, after := #[{ on := 14, ground := Go.Ground.data }, { on := 6, ground := Go.Ground.data }, { on := 0, ground := Go.Ground.phase }, { on := 1, ground := Go.Ground.phase }, { on := 2, ground := Go.Ground.phase }, { on := 3, ground := Go.Ground.phase }, { on := 4, ground := Go.Ground.phase }, { on := 5, ground := Go.Ground.phase }, { on := 6, ground := Go.Ground.phase }, { on := 7, ground := Go.Ground.phase }, { on := 8, ground := Go.Ground.phase }, { on := 9, ground := Go.Ground.phase }, { on := 10, ground := Go.Ground.phase }, { on := 11, ground := Go.Ground.phase }, { on := 12, ground := Go.Ground.phase }], guard := none }) (v := ?vv14) rfl (by kernel_rfl) (by kernel_rfl) (by kernel_rfl) (fun _ _ _ h => h) (Or.inl ⟨by rfl, ?hy14⟩) (by assumption) ?tk14
            case hy14 => (intro w hSw; (try dsimp only at hSw); go_simp; (try with_reducible rfl))
            try simp only [Act.put, List.setIfInBounds_toArray, List.set_cons_zero, List.set_cons_succ]
            refine wpAnyH_take (i := 16) (oi := { dst := some 43, op := Go.Op.fieldAddr 52 (Go.Operand.tmp 42) 6, type := 0, pos := _, after := #[{ on := 15, ground := Go.Ground.data }, { on := 0, ground := Go.Ground.phase }, { on := 1, ground := Go.Ground.phase }, { on := 2, ground := Go.Ground.phase }, { on := 3, ground := Go.Ground.phase }, { on := 4, ground := Go.Ground.phase }, { on := 5, ground := Go.Ground.phase }, { on := 6, ground := Go.Ground.phase }, { on := 7, ground := Go.Ground.phase }, { on := 8, ground := Go.Ground.phase }, { on := 9, ground := Go.Ground.phase }, { on := 10, ground := Go.Ground.phase }, { on := 11, ground := Go.Ground.phase }, { on := 12, ground := Go.Ground.phase }], guard := none }) (v := ?vv15) rfl (by kernel_rfl) (by kernel_rfl) (by kernel_rfl) (fun _ _ _ h => h) (Or.inl ⟨by rfl, ?hy15⟩) (by assumption) ?tk15
            case hy15 => (intro w hSw; (try dsimp only at hSw); go_simp; (try with_reducible rfl))
            try simp only [Act.put, List.setIfInBounds_toArray, List.set_cons_zero, List.set_cons_succ]
            refine wpAnyH_ready (rs := [17]) (by kernel_rfl) (by simp) ?_
            refine AllReadyH.cons (o := { dst := none, op := Go.Op.store 28 (Go.Operand.tmp 43) (Go.Operand.tmp 39), type := 0, pos := _, after := #[{ on := 16, ground := Go.Ground.data }, { on := 12, ground := Go.Ground.data }, { on := 0, ground := Go.Ground.phase }, { on := 1, ground := Go.Ground.phase }, { on := 2, ground := Go.Ground.phase }, { on := 3, ground := Go.Ground.phase }, { on := 4, ground := Go.Ground.phase }, { on := 5, ground := Go.Ground.phase }, { on := 6, ground := Go.Ground.phase }, { on := 7, ground := Go.Ground.phase }, { on := 8, ground := Go.Ground.phase }, { on := 9, ground := Go.Ground.phase }, { on := 10, ground := Go.Ground.phase }, { on := 11, ground := Go.Ground.phase }, { on := 12, ground := Go.Ground.phase }], guard := none }) rfl (fun K' hK' => ?_) AllReadyH.nil
            go_simp
            clear hHeld
            refine hK'.out _ _ trivial (fun hHeld => ?_)
            clear hK' K'
            try simp only [Act.put, List.setIfInBounds_toArray, List.set_cons_zero, List.set_cons_succ]
            refine wpAnyH_done (by kernel_rfl) ?_ _
            go_wp2
            go_meet
            case rel =>
              obtain ⟨x, hx, ex⟩ := HX.out
              refine ⟨by rw [firedSg_take hx, ex]; exact (DR.statf hc (f := 6) (by omega) E1).drew, ?_⟩
              rw [← hrow]
              show (wr.setCell ⟨B, 6724 + c * 7 + 6, none⟩ (.int .u64 (IntKind.u64.wrap (v1 + 1)))).heap[g]? = _
              simp only [World.setCell, Array.getElem?_modify]
              rw [if_neg hBg]
          case rest =>
            clear r1' r2' hv1 fz DR hrow
            obtain ⟨DS, hrow⟩ := hcut
            obtain ⟨c', hc', HX', r1, u', r2⟩ := RD.out i hil
            have r1' : wc.cell? ⟨g, i * 5 + 1, none⟩ = some (.int .i64 (c' : Int)) := (World.cell?_of_block (a := ⟨g, i * 5 + 1, none⟩) hrow).trans r1
            have r2' : wc.cell? ⟨g, i * 5 + 4, none⟩ = some (.int .u64 u') := (World.cell?_of_block (a := ⟨g, i * 5 + 4, none⟩) hrow).trans r2
            clear r1 r2
            go_upto_region 10 with fail
            go_quiet (first | (go_at_call 105; exact Calls.quiet_of_same (noteTimer_any (DS.drewN _).m.snk)) | fail)
            go_wp2
            go_roundg (l.length - (i + 1))
            case measure => omega
            case rel => exact ⟨i + 1, by omega, by go_num, DS.drewN _, hrow⟩
        · have e : i = l.length := by omega
          subst e
          go_wp2
          go_ret
          refine ⟨_, l, τ', rfl, ?_, by rw [List.take_of_length_le (Nat.le_refl _)] at DR; exact DR, HAR.out⟩
          refine ⟨HFA.out.1, ?_⟩
          rcases HFA.out.2 with ⟨e1, e2⟩ | ⟨g', cap', cur', h1, h2, h3, h4⟩
          · exact .inl ⟨e1, e2⟩
          · have hgg : g' = g := by
              have := h1
              simp only [Value.slice.injEq, Option.some.injEq, Addr.mk.injEq] at this
              omega
            subst hgg
            exact .inr ⟨g', cap', cur', h1, h2, hrow.trans h3, h4⟩
set_option maxHeartbeats 1000000 in
theorem tick_m {w : World} {B mb t k : Nat} {ν : Net} {τ : TSt} {σ : Sg} (M : Mach w B mb t k ν τ σ) : Calls Tryz.prog 50 #[.pointer (some ⟨B, 0, none⟩)] w fun e w' => ∃ (v : Value) (l : List FiredS) (τ' : TSt), e = .returned v ∧ FiredAt w' w.heap.size v l ∧ Done w w' B mb (afterF t 1) k ν τ' (firedSg σ l) ∧ AdvanceR τ τ' t 1 l := by
  go_enter Tryz.func50, Tryz.ntmps50
  go_wp2_with fail
  refine (advance_m (n := 1) M (by omega)).mono ?_
  rintro e w1 ⟨v, l, τ', rfl, F, D, hR⟩
  have HR := hideIt hR
  clear hR
  go_wp2
  go_ret
  exact ⟨v, l, τ', rfl, F, D, HR.out⟩

end Go.Proofs.Qxb6500877aGreatDoor
