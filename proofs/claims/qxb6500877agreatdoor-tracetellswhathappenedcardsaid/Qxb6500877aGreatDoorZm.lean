import Derived.Deep.CutBlock
import Derived.OwnWalk
import Derived.Test.Qxb6500877aGreatDoorZk
import Derived.Test.Qxb6500877aGreatDoorZj
import Derived.Test.Qxb6500877aGreatDoorAw
import Derived.Test.Qxb6500877aGreatDoorAy
import Derived.Test.Qxb6500877aGreatDoorQn
set_option linter.unusedVariables false
set_option linter.unusedSimpArgs false
namespace Go.Proofs.Qxb6500877aGreatDoor
open Go.RowKit

/-- The law at work: the machine, the model, and what binds them. -/
structure LQ (w0 w : World) (B mb t k : Nat) (ν : Net) (τ : TSt) (σ : Sg) (D : Nat) (V : Nat → Value) (md : Mdl) : Prop where
  m : Mach w B mb t k ν τ σ
  d : MdlAt w D (D + 1) V md
  rel : Rel t ν τ σ md
  b : Below w0.heap.size w0 w
  s : w0.heap.size ≤ w.heap.size
  h0 : 2 < w0.heap.size ∧ w0.heap.size ≤ B ∧ w0.heap.size ≤ mb ∧ w0.heap.size ≤ D
  h1 : B < D ∧ mb < D
theorem LQ.keep {w0 w w' : World} {B mb t k : Nat} {ν : Net} {τ : TSt} {σ : Sg} {D : Nat} {V : Nat → Value} {m : Mdl} (h : LQ w0 w B mb t k ν τ σ D V m) (hb : Below w.heap.size w w') : LQ w0 w' B mb t k ν τ σ D V m :=
  ⟨h.m.below hb, h.d.below hb, h.rel, below_to h.b hb h.s, Nat.le_trans h.s hb.size, h.h0, h.h1⟩
theorem Mach.nxb {w : World} {B mb t k : Nat} {ν : Net} {τ : TSt} {σ : Sg} (M : Mach w B mb t k ν τ σ) : 0 < τ.nx ∧ τ.nx ≤ k + 1 := by
  obtain ⟨s, L, fr, f, _, _, _, _, tw⟩ := M.tim
  have h0 := tw.n0
  have h1 := tw.n1
  rw [tw.nx] at h0 h1
  exact ⟨h0, h1⟩
theorem fs_len {w : World} {B mb t k t' : Nat} {ν ν' : Net} {τ τ' : TSt} {σ σ' : Sg} {o : OpS} {a : Ans} (M : Mach w B mb t k ν τ σ) (h : RealS o t ν τ σ a t' ν' τ' σ') : a.fs.length ≤ 64 := by
  have hkd : o.kd = 0 ∨ o.kd = 1 ∨ o.kd = 2 ∨ o.kd = 3 ∨ (o.kd = 4 ∨ o.kd = 5) ∨ o.kd = 6 ∨ o.kd = 7 ∨ o.kd = 8 ∨ o.kd = 9 ∨ 9 < o.kd := by omega
  have adv : ∀ (n : Nat) (l : List FiredS), AdvanceR τ τ' t n l → l.length ≤ 64 := fun n l hA => by
    rcases hA.2 with ⟨_, _, rfl⟩ | ⟨_, A⟩
    · simp
    · exact A.len M
  rcases hkd with q | q | q | q | q | q | q | q | q | q
  · obtain ⟨c, _, _, rfl, _⟩ := h.k0 q
    exact Nat.zero_le _
  · obtain ⟨i, z, m, _, _, rfl, _⟩ := h.k1 q
    exact Nat.zero_le _
  · obtain ⟨l, rfl, hA, _⟩ := h.k2 q
    exact adv _ l hA
  · obtain ⟨l, rfl, hA, _⟩ := h.k3 q
    exact adv _ l hA
  · obtain ⟨c, rfl, _⟩ := h.k4 q
    exact Nat.zero_le _
  · obtain ⟨c, tm, rfl, _⟩ := h.k6 q
    exact Nat.zero_le _
  · obtain ⟨c, tm, rfl, _⟩ := h.k7 q
    exact Nat.zero_le _
  · obtain ⟨z, p, c, rfl, _⟩ := h.k8 q
    exact Nat.zero_le _
  · obtain ⟨z, p, c, rfl, _⟩ := h.k9 q
    exact Nat.zero_le _
  · obtain ⟨rfl, _⟩ := h.kt q
    exact Nat.zero_le _
theorem MdlAt.done {w w' : World} {B mb t k D base : Nat} {ν : Net} {τ : TSt} {σ : Sg} {V : Nat → Value} {m : Mdl} (h : MdlAt w D base V m) (Dn : Done w w' B mb t k ν τ σ) (hB : B < D ∧ mb < D) : MdlAt w' D base V m := by
  have hlt := h.lt
  refine h.keep Dn.f.size (fun q hq e => Dn.f.block q hq ?_ ?_)
  · rcases e with rfl | ⟨r, hr, e⟩
    · omega
    · have := ((h.own r hr).lt q e).1; omega
  · rcases e with rfl | ⟨r, hr, e⟩
    · omega
    · have := ((h.own r hr).lt q e).1; omega
theorem stat_row {w : World} {b base : Nat} {S : Snap} {cs : Array Value} (hr : w.heap[b]? = some (.cells cs 61)) (hz : cs.size = 123) (hsc : ∀ j u, cs[j]? = some u → SCell w base S j u) : StAt w b base S :=
  ⟨fun j hj => ⟨cs[j]'(by omega), by rw [cell_of_row _ _ _ cs 61 (0, 0) hr]; exact Array.getElem?_eq_getElem _, fun _ => hsc j _ (Array.getElem?_eq_getElem _)⟩, cs, hr, hz⟩
/-- One round: both step, and stand for each other again. -/
theorem both {w w2 w3 : World} {B mb t k t' D : Nat} {ν ν' : Net} {τ τ' : TSt} {σ σ' : Sg} {V V' : Nat → Value} {m m' : Mdl} {o : OpS} {a am : Ans} {w0 : World} (H : LQ w0 w B mb t k ν τ σ D V m) (ho : o.ok) (hk : k < 800000) (D1 : Done w w2 B mb t' (k + 4) ν' τ' σ') (hR : RealS o t ν τ σ a t' ν' τ' σ') (hM : ModS m o am m') (H3 : MdlAt w3 D (D + 1) V' m') (F3 : MFr D V V' w2 w3) : am = a ∧ LQ w0 w3 B mb t' (k + 4) ν' τ' σ' D V' m' := by
  have hnx := H.m.nxb
  obtain ⟨e, R⟩ := rel_step H.rel H.m.sch.2 H.m.net.2 (by omega) H.m.tlt (by omega) ho hR hM
  have h0 := H.h0
  have h1 := H.h1
  have hd := H.d.lt
  have off : ∀ q, q < D → Off V q := fun q hq r hr e => by have := ((H.d.own r hr).lt q e).1; omega
  have hs2 := D1.f.size
  have hdl := H.d.dlt
  have hb2 := below_done H.b D1 H.s h0.2.1 h0.2.2.1
  refine ⟨e, D1.m.blocks (fun q hq => F3.block q (by omega) (by omega) (off q (by omega))), H3, R, ⟨F3.os.trans hb2.os, F3.tape.trans hb2.tape, F3.output.trans hb2.output, Nat.le_trans hb2.size F3.size, fun q hq => (F3.block q (by omega) (by omega) (off q (by omega))).trans (hb2.block q hq)⟩, Nat.le_trans H.s (Nat.le_trans hs2 F3.size), h0, h1⟩
set_option maxRecDepth 20000 in
set_option maxHeartbeats 16000000 in
theorem law3 {p : Option Addr} {n c : Nat} {L : List OpS} {w : World} (h : OpsIn w p L) (hn : L.length = n) (hok : ∀ o ∈ L, o.ok) (hnc : n ≤ c) (V : Vac w) (TB : TabAt w) (h2 : 2 < w.heap.size) :
    Calls Tryz.prog 3 #[.slice p n c] w fun e w' => e = .returned (.bool true) ∧ Below w.heap.size w w' := by
  have HST : Hid (∀ {w : World} {B mb t k : Nat} {ν : Net} {τ : TSt} {σ : Sg}, Mach w B mb t k ν τ σ → k < 800000 → ∀ (o : OpS), o.ok → Calls Tryz.prog 19 #[.pointer (some ⟨B, 0, none⟩), opV o] w fun e w' => ∃ (a : Ans) (p : Option Addr) (n c t' : Nat) (ν' : Net) (τ' : TSt) (σ' : Sg), e = .returned (.agg (resCs a.z a.co a.tk a.tm a.hm a.mm p n c)) ∧ FrAt w' w.heap.size (.slice p n c) a.fs ∧ Done w w' B mb t' (k + 4) ν' τ' σ' ∧ RealS o t ν τ σ a t' ν' τ' σ') := hideIt (fun M hk o ho => step_r M hk o ho)
  have HMS : Hid (∀ {w : World} {D base : Nat} {V : Nat → Value} {m : Mdl} {o : OpS}, MdlAt w D base V m → base ≤ w.heap.size → MOk m → o.ok → Calls Tryz.prog 21 #[.pointer (some ⟨D, 0, none⟩), opV o] w fun e w' => ∃ V' a p n c m', e = .returned (.agg (resCs a.z a.co a.tk a.tm a.hm a.mm p n c)) ∧ FrAt w' w.heap.size (.slice p n c) a.fs ∧ ModS m o a m' ∧ MdlAt w' D base V' m' ∧ MFr D V V' w w') := hideIt (fun H hb K ho => mstep_any H hb K ho)
  have HMT : Hid (∀ {w : World} {D base : Nat} {V : Nat → Value} {m : Mdl} {cu : Nat → Int}, MdlAt w D base V m → MOk m → (∀ c : Nat, c < 4 → ∀ v, RunIs m.tk c v → v = cu c) → Calls Tryz.prog 23 #[.pointer (some ⟨D, 0, none⟩)] w fun e w' => ∃ (v : Value) (S : Snap), e = .returned v ∧ SnapV w' w.heap.size v S ∧ MSnap m cu S ∧ Below w.heap.size w w') := hideIt (fun H K hcu => mstate_any H K hcu)
  have hsm := small_any (p := p) (n := n) (c := c) w
  by_cases hb : n ≤ 65536
  · rw [decide_eq_true hb] at hsm
    go_enter Tryz.func3, Tryz.ntmps3
    go_wp2_with fail
    refine hsm.mono ?_
    rintro e w ⟨rfl, rfl⟩
    go_wp2_with fail
    refine (new_any2 V TB h2).mono ?_
    rintro e w1 ⟨B, mb, σ0, rfl, M1, hwB, hwm, hb1, hr3, hst0⟩
    have hlB := M1.lt
    have hlm := M1.mlt
    go_wp2_with fail
    refine (mnew_any w1).mono ?_
    rintro e w2 ⟨rfl, Md, hb2⟩
    obtain ⟨D, hD⟩ : ∃ D, D = w1.heap.size := ⟨_, rfl⟩
    rw [← hD] at Md ⊢
    have s1 := hb1.size
    have H0 : LQ w w2 B mb 0 (4 * 0) net0 τ0 σ0 D (fun _ => .slice none 0 0) (mK 16) := ⟨M1.below hb2, Md, rel_start M1.sch.2 hr3 hst0, below_to hb1 hb2 hb1.size, Nat.le_trans hb1.size hb2.size, ⟨h2, hwB, hwm, by omega⟩, by omega⟩
    clear M1 Md hb1 hb2 hr3 hst0 hlB hlm hwB hwm s1 hD
    go_wp2_with fail
    go_loopg [16] n (fun gg v wr => ∃ (i t : Nat) (ν : Net) (τ : TSt) (σ : Sg) (V : Nat → Value) (m : Mdl), i + gg = n ∧ v = .int .i64 (i : Int) ∧ LQ w wr B mb t (4 * i) ν τ σ D V m)
    case atStart => exact ⟨0, 0, net0, τ0, σ0, _, _, by omega, rfl, H0⟩
    case round =>
      clear H0
      obtain ⟨i, t, ν, τ, σ, V, m, hig, rfl, H⟩ := hrel
      by_cases hi : i < n
      · have i0 : (0 : Int) ≤ i := by omega
        have i1 : (i : Int) < (n : Int) := by omega
        have hi' : i < L.length := by omega
        obtain ⟨b, off, rfl, hcs⟩ : ∃ b off, p = some ⟨b, off, none⟩ ∧ ∀ j (h : j < L.length), OpCs w b (off + j * 6) L[j] := by
          rcases h with h | h
          · rw [h] at hi'; simp at hi'
          · exact h
        have hC := hcs i hi'
        have ho := hok _ (List.getElem_mem hi')
        generalize L[i] = o at hC ho
        obtain ⟨c0, c1, c2, c3, c4, c5⟩ := hC
        have d0 := cell_later H.b c0
        have d1 := cell_later H.b c1
        have d2 := cell_later H.b c2
        have d3 := cell_later H.b c3
        have d4 := cell_later H.b c4
        have d5 := cell_later H.b c5
        clear c0 c1 c2 c3 c4 c5 hcs
        go_upto_block 1 with fail
        go_cut [] (fun wc => ∃ (t' : Nat) (ν' : Net) (τ' : TSt) (σ' : Sg) (V' : Nat → Value) (m' : Mdl), LQ w wc B mb t' (4 * i + 4) ν' τ' σ' D V' m')
        case first =>
          go_upto_region 6 with fail
          go_cut [6] (fun a6 wc => ∃ p6 : Nat, a6 = .pointer (some ⟨p6, 0, none⟩) ∧ OpAt wc p6 o ∧ LQ w wc B mb t (4 * i) ν τ σ D V m ∧ (p6 ≠ B ∧ p6 ≠ mb ∧ p6 ≠ D) ∧ Off V p6)
          case first =>
            go_wp2
            go_meet
            case rel => exact ⟨wr.heap.size, rfl, op_new wr o 32, H.keep (one_alloc _ _), ⟨by have := H.m.lt; omega, by have := H.m.mlt; omega, by have := H.d.dlt; omega⟩, H.d.off (Nat.le_refl _)⟩
          case rest =>
          clear d0 d1 d2 d3 d4 d5 H
          obtain ⟨p6, rfl, OP, H, ⟨hpB, hpm, hpD⟩, hpV⟩ := hcut
          have hst := HST.out (B := B) (mb := mb) (w := World.drew wc) H.m.drew (by omega) o ho
          unfold opV at hst
          have OP' := OP
          obtain ⟨g0, g1, g2, g3, g4, g5⟩ := OP
          have hp6 := OP'.lt
          have hDw : D + 1 ≤ wc.heap.size := H.d.dlt
          have HOK := hideIt (mok_of H.rel H.m.net.2 H.m.tlt)
          have HLD : Hid (LQ w (World.drew wc) B mb t (4 * i) ν τ σ D V m) := hideIt (H.keep (below_dr (Below.refl _ _)))
          go_upto_region 7 with fail
          refine wp_region_held_drew (S := (fun w' => w'.cell? ⟨p6, 0, none⟩ = some (.int .u8 (o.kd : Int)) ∧ w'.cell? ⟨p6, 1, none⟩ = some (.int .i64 o.a) ∧ w'.cell? ⟨p6, 2, none⟩ = some (.int .i64 o.b) ∧ w'.cell? ⟨p6, 3, none⟩ = some (.int .i64 o.c) ∧ w'.cell? ⟨p6, 4, none⟩ = some (.int .u64 (o.x : Int)) ∧ w'.cell? ⟨p6, 5, none⟩ = some (.int .u64 (o.y : Int)))) (by kernel_rfl) ⟨g0, g1, g2, g3, g4, g5⟩ (fun hHeld => ?_)
          refine wpAnyH_take (i := 0) (oi := { dst := some 20, op := Go.Op.move (Go.Operand.tmp 3), type := 24, pos := _, after := #[], guard := none }) (v := ?vv1) rfl (by kernel_rfl) (by kernel_rfl) (by kernel_rfl) (fun _ _ _ h => h) (Or.inl ⟨by rfl, ?hy1⟩) (by assumption) ?tk1
          case hy1 => (intro w hSw; (try dsimp only at hSw); go_simp; (try with_reducible rfl))
          try simp only [Act.put, List.setIfInBounds_toArray, List.set_cons_zero, List.set_cons_succ]
          refine wpAnyH_take (i := 1) (oi := { dst := some 21, op := Go.Op.load 32 (Go.Operand.tmp 6), type := 32, pos := _, after := #[], guard := none }) (v := ?vv2) rfl (by kernel_rfl) (by kernel_rfl) (by kernel_rfl) (fun _ _ _ h => h) (Or.inl ⟨by rfl, ?hy2⟩) (by assumption) ?tk2
          case hy2 => (intro w hSw; (try dsimp only at hSw); go_simp; (try with_reducible rfl))
          try simp only [Act.put, List.setIfInBounds_toArray, List.set_cons_zero, List.set_cons_succ]
          refine wpAnyH_take (i := 3) (oi := { dst := some 23, op := Go.Op.move (Go.Operand.tmp 4), type := 26, pos := _, after := #[], guard := none }) (v := ?vv3) rfl (by kernel_rfl) (by kernel_rfl) (by kernel_rfl) (fun _ _ _ h => h) (Or.inl ⟨by rfl, ?hy3⟩) (by assumption) ?tk3
          case hy3 => (intro w hSw; (try dsimp only at hSw); go_simp; (try with_reducible rfl))
          try simp only [Act.put, List.setIfInBounds_toArray, List.set_cons_zero, List.set_cons_succ]
          refine wpAnyH_take (i := 4) (oi := { dst := some 24, op := Go.Op.load 32 (Go.Operand.tmp 6), type := 32, pos := _, after := #[], guard := none }) (v := ?vv4) rfl (by kernel_rfl) (by kernel_rfl) (by kernel_rfl) (fun _ _ _ h => h) (Or.inl ⟨by rfl, ?hy4⟩) (by assumption) ?tk4
          case hy4 => (intro w hSw; (try dsimp only at hSw); go_simp; (try with_reducible rfl))
          try simp only [Act.put, List.setIfInBounds_toArray, List.set_cons_zero, List.set_cons_succ]
          refine wpAnyH_ready (rs := [2]) (by kernel_rfl) (by simp) ?_
          refine AllReadyH.cons (o := { dst := some 22, op := Go.Op.call { callee := Go.Callee.value (Go.Operand.func 19), args := #[Go.Operand.tmp 20, Go.Operand.tmp 21], argTypes := #[24, 32] }, type := 43, pos := _, after := #[{ on := 0, ground := Go.Ground.data }, { on := 1, ground := Go.Ground.data }], guard := none }) rfl (fun K' hK' => ?_) AllReadyH.nil
          go_simp
          go_at_call 19
          refine hst.mono ?_
          rintro e w2 ⟨a, p1, n1, k1, t', ν', τ', σ', rfl, hF, D1, hR⟩
          have OP2 := (OP'.blk (w' := World.drew wc) rfl).blk (D1.f.block p6 hp6 hpB hpm)
          have d2 := H.d.drew.done D1 H.h1
          have hmo := HMS.out d2 (Nat.le_trans hDw D1.f.size) HOK.out ho
          unfold opV at hmo
          have HD1 := hideIt (And.intro D1 (And.intro hR hF))
          have hs12 := D1.f.size
          clear D1 hR hF d2 hst
          obtain ⟨f0, f1, f2, f3, f4, f5⟩ := OP2
          clear hHeld
          refine hK'.out _ _ ⟨f0, f1, f2, f3, f4, f5⟩ (fun hHeld => ?_)
          clear hK' K'
          try simp only [Act.put, List.setIfInBounds_toArray, List.set_cons_zero, List.set_cons_succ]
          refine wpAnyH_ready (rs := [5]) (by kernel_rfl) (by simp) ?_
          refine AllReadyH.cons (o := { dst := some 25, op := Go.Op.call { callee := Go.Callee.value (Go.Operand.func 21), args := #[Go.Operand.tmp 23, Go.Operand.tmp 24], argTypes := #[26, 32] }, type := 43, pos := _, after := #[{ on := 3, ground := Go.Ground.data }, { on := 4, ground := Go.Ground.data }, { on := 2, ground := Go.Ground.chain }], guard := none }) rfl (fun K' hK' => ?_) AllReadyH.nil
          go_simp
          go_at_call 21
          refine hmo.mono ?_
          rintro e w3 ⟨V', am, p2, n2, k2, m', rfl, hF2, hM, H3, F3⟩
          obtain ⟨D1, hR, hF⟩ := HD1.out
          have hbo := both (HLD.out) ho (by omega) D1 hR hM H3 F3
          obtain ⟨rfl, Q3⟩ := hbo
          have hfl := fs_len (HLD.out).m hR
          have hF3 : FrAt w3 wc.heap.size (.slice p1 n1 k1) am.fs := hF.keep F3.size (fun q h1 h2 => F3.block q h2 (by have hdz : (World.drew wc).heap.size = wc.heap.size := rfl; omega) (fun r hr e => by have := ((H.d.own r hr).lt q e).2; have hdz : (World.drew wc).heap.size = wc.heap.size := rfl; omega))
          have hre := resEq_any (z := am.z) (co := am.co) (tk := am.tk) (tm := am.tm) (hm := am.hm) (mm := am.mm) hF3 hF2 (by omega)
          have hf6 := F3.block p6 (by have hdz : (World.drew wc).heap.size = wc.heap.size := rfl; omega) (by omega) (fun r hr e => by have := ((H.d.own r hr).lt p6 e).2; exact hpV r hr e)
          have OP3 := (OpAt.mk f0 f1 f2 f3 f4 f5).blk hf6
          have hs23 := F3.size
          have HQ3 := hideIt Q3
          clear D1 hR hF hM H3 F3 hmo hfl hF2 hF3 hf6 Q3
          obtain ⟨h0, h1, h2, h3, h4, h5⟩ := OP3
          clear hHeld
          refine hK'.out _ _ ⟨h0, h1, h2, h3, h4, h5⟩ (fun hHeld => ?_)
          clear hK' K'
          try simp only [Act.put, List.setIfInBounds_toArray, List.set_cons_zero, List.set_cons_succ]
          refine wpAnyH_ready (rs := [6]) (by kernel_rfl) (by simp) ?_
          refine AllReadyH.cons (o := { dst := some 26, op := Go.Op.call { callee := Go.Callee.value (Go.Operand.func 20), args := #[Go.Operand.tmp 22, Go.Operand.tmp 25], argTypes := #[43, 43] }, type := 4, pos := _, after := #[{ on := 2, ground := Go.Ground.data }, { on := 5, ground := Go.Ground.data }, { on := 5, ground := Go.Ground.chain }], guard := none }) rfl (fun K' hK' => ?_) AllReadyH.nil
          go_simp
          go_at_call 20
          refine hre.mono ?_
          rintro e w4 ⟨rfl, hb4⟩
          have Q4 := HQ3.out.keep hb4
          have OP4 := (OpAt.mk h0 h1 h2 h3 h4 h5).blk (hb4.block p6 (World.block_lt_of_cell? _ _ h0))
          have HQ4 := hideIt Q4
          clear hb4 hre Q4
          obtain ⟨j0, j1, j2, j3, j4, j5⟩ := OP4
          clear hHeld
          refine hK'.out _ _ ⟨j0, j1, j2, j3, j4, j5⟩ (fun hHeld => ?_)
          clear hK' K'
          try simp only [Act.put, List.setIfInBounds_toArray, List.set_cons_zero, List.set_cons_succ]
          refine wpAnyH_take (i := 7) (oi := { dst := some 27, op := Go.Op.unOp Go.UnOp.not 4 (Go.Operand.tmp 26), type := 4, pos := _, after := #[{ on := 6, ground := Go.Ground.data }], guard := none }) (v := ?vv5) rfl (by kernel_rfl) (by kernel_rfl) (by kernel_rfl) (fun _ _ _ h => h) (Or.inl ⟨by rfl, ?hy5⟩) (by assumption) ?tk5
          case hy5 => (intro w hSw; (try dsimp only at hSw); go_simp; (try with_reducible rfl))
          try simp only [Act.put, List.setIfInBounds_toArray, List.set_cons_zero, List.set_cons_succ]
          refine wpAnyH_done (by kernel_rfl) ?_ _
          go_wp2_with fail
          clear g0 g1 g2 g3 g4 g5 j0 j1 j2 j3 j4 j5 H OP' HLD HOK HD1 HQ3
          have Q4 := HQ4.out
          have hsn := snap_full Q4.m
          have hz := zv61
          have HQ4' := HQ4
          go_wp2_with fail
          refine hsn.mono ?_
          rintro e w5 ⟨c1, S1, rfl, hz1, hso, hsm, hsc, hb5⟩
          have Q5 := Q4.keep hb5
          have hmt := HMT.out Q5.d (mok_of Q5.rel Q5.m.net.2 Q5.m.tlt) (cu := σ'.s.cur) (fun c hc v hv => by obtain ⟨Q, S⟩ := Q5.rel.s; exact cur_is S hc hv)
          have HX1 := hideIt (And.intro hso (And.intro hsm (And.intro hsc hb5)))
          have hon1 := one_of hsc
          clear hso hsm hsc hsn
          go_wp2_with fail
          refine hmt.mono ?_
          rintro e w6 ⟨v, S2, rfl, ⟨c2, rfl, hz2, hsc2⟩, hms, hb6⟩
          have hon2 := one_of hsc2
          have HX2 := hideIt (And.intro hms (And.intro hsc2 hb6))
          have Q6 := Q5.keep hb6
          have HQ6 := hideIt Q6
          have s56 := hb6.size
          have s45 := hb5.size
          clear hms hsc2 hmt Q4 Q5 Q6 hb5 hb6
          have hA : ((w6.alloc (.cells zero61 61)).alloc (.cells zero61 61)).heap[w6.heap.size]? = some (.cells zero61 61) := ((one_alloc (w6.alloc (.cells zero61 61)) _).block w6.heap.size (by simp)).trans (heap_alloc_last w6 _)
          have hB : ((w6.alloc (.cells zero61 61)).alloc (.cells zero61 61)).heap[w6.heap.size + 1]? = some (.cells zero61 61) := by
            have := heap_alloc_last (w6.alloc (.cells zero61 61)) (.cells zero61 61)
            rw [show (w6.alloc (.cells zero61 61)).heap.size = w6.heap.size + 1 by simp] at this
            exact this
          have hr1 := store61 hA zero61_size hz1 hon1
          have hB1 : (((w6.alloc (.cells zero61 61)).alloc (.cells zero61 61)).setRow w6.heap.size c1).heap[w6.heap.size + 1]? = some (.cells zero61 61) := (setRow_far (by omega)).trans hB
          have hr2 := store61 hB1 zero61_size hz2 hon2
          have hA2 : ((((w6.alloc (.cells zero61 61)).alloc (.cells zero61 61)).setRow w6.heap.size c1).setRow (w6.heap.size + 1) c2).heap[w6.heap.size]? = some (.cells c1 61) := (setRow_far (by omega)).trans (setRow_row hA)
          have hB2 : ((((w6.alloc (.cells zero61 61)).alloc (.cells zero61 61)).setRow w6.heap.size c1).setRow (w6.heap.size + 1) c2).heap[w6.heap.size + 1]? = some (.cells c2 61) := setRow_row hB1
          have b9 : Below w6.heap.size w6 ((((w6.alloc (.cells zero61 61)).alloc (.cells zero61 61)).setRow w6.heap.size c1).setRow (w6.heap.size + 1) c2) := by
            have bb : Below w6.heap.size w6 ((w6.alloc (.cells zero61 61)).alloc (.cells zero61 61)) := (one_alloc w6 _).trans ((one_alloc _ _).mono (by simp))
            exact ⟨bb.os, bb.tape, bb.output, by rw [setRow_size, setRow_size]; exact bb.size, fun q hq => ((setRow_far (by omega)).trans (setRow_far (by omega))).trans (bb.block q hq)⟩
          have hsz9 : (w6.alloc (.cells zero61 61)).heap.size = w6.heap.size + 1 := by simp
          have HR := hideIt (And.intro hA2 (And.intro hB2 b9))
          clear hA hB hB1 hA2 hB2 b9 hon1 hon2
          go_upto_region 10 with (first | (refine wpList_store_row rfl (.tmp 7) (.tmp 29) 61 rfl ⟨w6.heap.size, 0, none⟩ (.agg c1) rfl rfl hr1 ?_) | (refine wpList_store_row rfl (.tmp 8) (.tmp 31) 61 rfl ⟨w6.heap.size + 1, 0, none⟩ (.agg c2) rfl rfl hr2 ?_) | go_in)
          obtain ⟨hA2, hB2, b9⟩ := HR.out
          clear HR hr1 hr2 hz hsz9
          generalize World.setRow _ (w6.heap.size + 1) c2 = w9 at *
          obtain ⟨hso, hsm, hsc, hb5⟩ := HX1.out
          obtain ⟨hms, hsc2, hb6⟩ := HX2.out
          have Q9 := HQ6.out.keep b9
          have st1 : StAt w9 w6.heap.size w4.heap.size S1 := stat_row hA2 hz1 (fun j u hu => (hsc j u hu).keep (Nat.le_trans hb6.size b9.size) (fun q h1 h2 => (b9.block q (by omega)).trans (hb6.block q h2)))
          have st2 : StAt w9 (w6.heap.size + 1) w5.heap.size S2 := stat_row hB2 hz2 (fun j u hu => (hsc2 j u hu).keep b9.size (fun q h1 h2 => b9.block q h2))
          have heq := stEqual_any st1 st2 (rel_snap Q9.rel Q9.m.sch.2.2 hso hms) hsm
          have HQ9 := hideIt Q9
          clear hA2 hB2 b9 hso hsm hsc hb5 hms hsc2 hb6 Q9 st1 st2 HQ6 HX1 HX2 HQ4 HQ4'
          go_wp2_with fail
          refine heq.mono ?_
          rintro e w10 ⟨rfl, hb10⟩
          have Q10 := HQ9.out.keep hb10
          clear heq hb10
          go_wp2
          go_meet
          case rel => exact ⟨t', ν', τ', σ', V', m', Q10⟩
        case rest =>
          obtain ⟨t', ν', τ', σ', V', m', H'⟩ := hcut
          go_wp2
          go_roundg (n - (i + 1))
          case measure => omega
          case rel => exact ⟨i + 1, t', ν', τ', σ', V', m', by omega, by go_num, H'⟩
      · have e : i = n := by omega
        subst e
        go_wp2
        go_ret
        exact ⟨rfl, H.b⟩
  · rw [decide_eq_false hb] at hsm
    go_enter Tryz.func3, Tryz.ntmps3
    go_wp2_with fail
    refine hsm.mono ?_
    rintro e w ⟨rfl, rfl⟩
    go_wp2
    go_ret
    exact ⟨rfl, Below.refl _ _⟩
end Go.Proofs.Qxb6500877aGreatDoor
