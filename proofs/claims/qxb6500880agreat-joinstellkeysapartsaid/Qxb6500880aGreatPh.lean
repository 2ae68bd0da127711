import Derived.Deep.CutBlock
import Derived.OwnWalk
import Derived.Maps.AppendAt
import Derived.Maps.OwnSet
import Derived.Maps.OwnOps
import Derived.Laws.ResultCell
import Derived.Test.Qxb6500880aGreatPg
set_option linter.unusedVariables false
set_option linter.unusedSimpArgs false
namespace Go.Proofs.Qxb6500880aGreat
open Go.RowKit

set_option maxRecDepth 20000 in
set_option maxHeartbeats 8000000 in
theorem adv0_none {w : World} {Q : RP} {x : RX} {p : RunP} (X : RAt w Q x) (S : RunS Q p) (h1 : x.cu 1 = .int .i64 (p.se.rows : Int)) (h2 : x.cu 2 = .int .i64 (p.se.rows : Int)) :
    Calls Tryz.prog 67 #[.pointer (some ⟨Q.E, 0, none⟩), .pointer (some ⟨p.gs, 0, none⟩), .pointer (some ⟨Q.GC, 0, none⟩)] w fun e w' => e = .returned (.bool false) ∧ RAt w' Q x := by
  have hcd := cand0_none X S h1 h2
  clear X S h1 h2
  go_enter Tryz.func67, Tryz.ntmps67
  go_wp2_with fail
  go_loopg [] 0 (fun gg wr => wr = w)
  case atStart => exact rfl
  case round =>
    have ew := hrel.symm
    subst ew
    go_wp2_with fail
    refine hcd.mono ?_
    rintro e w1 ⟨rfl, h1⟩
    have H1 := hideIt h1
    clear h1 hcd
    go_wp2
    go_ret
    exact ⟨rfl, H1.out⟩
set_option maxRecDepth 20000 in
set_option maxHeartbeats 8000000 in
theorem adv0_some {w : World} {Q : RP} {x : RX} {p : RunP} {i : Nat} (X : RAt w Q x) (S : RunS Q p) (h19 : ∃ a, x.c 19 = .int .i64 a) (h4 : ∃ a, x.cu 4 = .int .i64 a) (h1 : x.cu 1 = .int .i64 (p.se.rows : Int)) (h2 : x.cu 2 = .int .i64 (i : Int)) (hi : i < p.se.rows) :
    Calls Tryz.prog 67 #[.pointer (some ⟨Q.E, 0, none⟩), .pointer (some ⟨p.gs, 0, none⟩), .pointer (some ⟨Q.GC, 0, none⟩)] w fun e w' => e = .returned (.bool true) ∧ ∃ x', RAt w' Q x' ∧ Nx x x' (fun k => k = 19) (fun k => k = p.fs ∨ k = p.sn) (fun k => k = 2 ∨ k = 4) ∧ (∃ a, x'.c 19 = .int .i64 a) ∧ (∃ a, x'.cu 4 = .int .i64 a) ∧ x'.cu 2 = .int .i64 ((i + 1 : Nat) : Int) ∧ ∀ t, t < 2 → x'.r (p.cf t) = p.de (i * 2 + t) := by
  have hcd := cand0_some X S h1 h2 hi
  have HS := hideIt S
  have HI := hideIt hi
  clear X S h1 h2 hi
  obtain ⟨a, h19⟩ := h19
  go_enter Tryz.func67, Tryz.ntmps67
  go_wp2_with fail
  go_loopg [] 0 (fun gg wr => wr = w)
  case atStart => exact rfl
  case round =>
    have ew := hrel.symm
    subst ew
    go_wp2_with fail
    refine hcd.mono ?_
    rintro e w1 ⟨rfl, x1, X1, h2, N1⟩
    have HH2 := hideIt h2
    clear h2
    have e19 := X1.e.get (k := 19) ((N1.c 19 (fun z => z)).trans h19) (by omega)
    have ef := X1.e.fz
    have H1 := hideIt (And.intro X1 N1)
    clear hcd X1 N1
    obtain ⟨a', ha'⟩ : ∃ a', IntKind.i64.wrap (a + 1) = a' := ⟨_, rfl⟩
    go_upto_region 5 with fail
    obtain ⟨X1, N1⟩ := H1.out
    have X2 := X1.put_c (k := 19) (by omega) (.int .i64 a') (by omega) (by omega) (by omega) (by omega)
    have N2 := (N1.mono (C' := fun k => k = 19) (R' := fun k => k = p.fs ∨ k = p.sn) (U' := fun k => k = 2 ∨ k = 4) (fun _ z => z.elim) (fun _ z => z.elim) (fun k z => .inl z)).trans (Nx.put_c x1 (k := 19) (C := fun k => k = 19) rfl (.int .i64 a'))
    have HU4 := hideIt (N1.u 4 (by omega))
    clear X1 N1 e19 ef H1
    generalize w1.setCell ⟨Q.E, 19, none⟩ (.int .i64 a') = w2 at *
    obtain ⟨sP, sgs, sRB, sgj, seb, scb, sg0, sg1, sgk, sIX, sgc, sgh, sgo, sgq⟩ := HS.out.S
    have hfi := fits_any X2 sgs sgj sg0 seb HS.out.SE HS.out.s0 HS.out.s6 HS.out.s7 HS.out.j0 HS.out.re (by rw [HS.out.eA]; exact HS.out.dE) (by rw [HS.out.eA]; omega) (by rw [HS.out.eA]; omega) (by have := HS.out.eR.2.1; omega) HI.out (ac := fun t => t) (ar := p.cf) HS.out.a0 (fun t ht => by rw [HS.out.eA]; exact ht) (fun t ht => by
      unfold RunP.cf
      have := HS.out.o
      split <;> omega) (fun t t' h1 h2 => by
      unfold RunP.cf
      have := HS.out.o
      have e1 : t = 0 := by omega
      have e2 : t' = 1 := by omega
      subst e1
      subst e2
      simp
      omega) (by omega)
    have H2 := hideIt N2
    clear N2 X2
    go_wp2_with fail
    refine hfi.mono ?_
    rintro e w3 ⟨rfl, x3, X3, N3, hv3⟩
    have N4 := H2.out.trans (N3.mono (C' := fun k => k = 19) (R' := fun k => k = p.fs ∨ k = p.sn) (U' := fun k => k = 2 ∨ k = 4) (fun _ z => z.elim) (fun k ⟨t, ht, e⟩ => by
      rw [e]
      unfold RunP.cf
      split
      · exact .inl rfl
      · exact .inr rfl) (fun _ z => z.elim))
    have q4 : ∃ a4, x3.cu 4 = .int .i64 a4 := by
      obtain ⟨a4, h4⟩ := h4
      refine ⟨a4, ?_⟩
      rw [N3.u 4 (fun z => z)]
      exact HU4.out.trans h4
    obtain ⟨a4, q4⟩ := q4
    have c4 := (X3.cu 4 (by omega)).trans (congrArg some q4)
    have cf := X3.cf
    have X4 := X3.put_u (k := 4) (by omega) (by omega) (.int .i64 (i : Int))
    have N5 := N4.trans (Nx.put_u x3 (k := 4) (C := fun k => k = 19) (R := fun k => k = p.fs ∨ k = p.sn) (U := fun k => k = 2 ∨ k = 4) (.inr rfl) (.int .i64 (i : Int)))
    have H4 := hideIt (And.intro X4 (And.intro N5 (And.intro N3 hv3)))
    clear X3 N3 N4 hv3 X4 N5 hfi H2
    go_wp2
    go_ret
    obtain ⟨X4, N5, N3, hv3⟩ := H4.out
    refine ⟨rfl, _, X4, N5, ⟨a', (N3.c 19 (fun z => z)).trans (updV_same x1.c 19 (.int .i64 a'))⟩, ⟨_, updV_same x3.cu 4 (.int .i64 (i : Int))⟩, ?_, fun t ht => ?_⟩
    · show updV x3.cu 4 (.int .i64 (i : Int)) 2 = _
      rw [updV_other _ _ (by omega), N3.u 2 (fun z => z)]
      exact HH2.out
    · have := hv3 t ht
      rw [HS.out.eA] at this
      exact this
set_option maxRecDepth 20000 in
set_option maxHeartbeats 8000000 in
theorem adv1_any {w : World} {Q : RP} {x : RX} {p : RunP} {m0 : Nat} {kr : Nat → Nat} (X : RAt w Q x) (S : RunS Q p) (h19 : ∃ a, x.c 19 = .int .i64 a) (h4 : ∃ a, x.cu 10 = .int .i64 a) (h6 : x.cu 6 = .int .i64 0) (h7 : x.cu 7 = .int .i64 (p.sc.rows : Int)) (h9 : x.cu 9 = .int .i32 (prevR (bkF p.dc 3 p.cf 2) (hashN kr 2 % 16) m0 : Int)) (hm : m0 ≤ p.sc.rows) (hkn : x.kn = 2) (hkx : x.kx = symL kr 2) (hkv : ∀ t, t < 2 → kr t < 64) :
    Calls Tryz.prog 67 #[.pointer (some ⟨Q.E, 0, none⟩), .pointer (some ⟨p.gs, 8, none⟩), .pointer (some ⟨Q.GC, 6, none⟩)] w fun e w' => ∃ x', RAt w' Q x' ∧ Nx x x' (fun k => k = 19) (fun k => k = p.th) (fun k => k = 9 ∨ k = 10) ∧ ((e = .returned (.bool false) ∧ (∀ r, r < m0 → ¬ mtc p kr r) ∧ x'.c 19 = x.c 19 ∧ x'.cu 10 = x.cu 10 ∧ ∃ a, x'.cu 9 = .int .i32 a) ∨ ∃ r, r < m0 ∧ mtc p kr r ∧ (∀ r', r < r' → r' < m0 → ¬ mtc p kr r') ∧ e = .returned (.bool true) ∧ x'.cu 9 = .int .i32 (prevR (bkF p.dc 3 p.cf 2) (hashN kr 2 % 16) r : Int) ∧ (∃ a, x'.c 19 = .int .i64 a) ∧ (∃ a, x'.cu 10 = .int .i64 a) ∧ x'.r p.th = p.dc (r * 3 + p.th)) := by
  have hcd := cand1_any X S h6 h7 h9 hm hkn hkx hkv
  have HS := hideIt S
  clear X S h6 h7 h9 hkn hkx hkv
  obtain ⟨a, h19⟩ := h19
  go_enter Tryz.func67, Tryz.ntmps67
  go_wp2_with fail
  go_loopg [] 0 (fun gg wr => wr = w)
  case atStart => exact rfl
  case round =>
    have ew := hrel.symm
    subst ew
    go_wp2_with fail
    refine hcd.mono ?_
    rintro e w1 ⟨x1, X1, N1, ⟨rfl, hno, h9e⟩ | ⟨r, hr, hmt, hno, rfl, h9⟩⟩
    · have H1 := hideIt (And.intro X1 (And.intro N1 (And.intro hno h9e)))
      clear X1 N1 hno h9e hcd
      go_wp2
      go_ret
      obtain ⟨X1, N1, hno, h9e⟩ := H1.out
      exact ⟨x1, X1, N1.mono (fun _ z => z.elim) (fun _ z => z.elim) (fun _ z => .inl z), .inl ⟨rfl, hno, N1.c 19 (fun z => z), N1.u 10 (by omega), h9e⟩⟩
    · have HH := hideIt (And.intro hr (And.intro hmt (And.intro hno h9)))
      have HI := hideIt (show r < p.sc.rows by omega)
      clear hno hmt h9 hr hm
      have e19 := X1.e.get (k := 19) ((N1.c 19 (fun z => z)).trans h19) (by omega)
      have ef := X1.e.fz
      have H1 := hideIt (And.intro X1 N1)
      clear hcd X1 N1
      obtain ⟨a', ha'⟩ : ∃ a', IntKind.i64.wrap (a + 1) = a' := ⟨_, rfl⟩
      go_upto_region 5 with fail
      obtain ⟨X1, N1⟩ := H1.out
      have X2 := X1.put_c (k := 19) (by omega) (.int .i64 a') (by omega) (by omega) (by omega) (by omega)
      have N2 := (N1.mono (C' := fun k => k = 19) (R' := fun k => k = p.th) (U' := fun k => k = 9 ∨ k = 10) (fun _ z => z.elim) (fun _ z => z.elim) (fun k z => .inl z)).trans (Nx.put_c x1 (k := 19) (C := fun k => k = 19) rfl (.int .i64 a'))
      have HU4 := hideIt (N1.u 10 (by omega))
      clear X1 N1 e19 ef H1
      generalize w1.setCell ⟨Q.E, 19, none⟩ (.int .i64 a') = w2 at *
      obtain ⟨sP, sgs, sRB, sgj, seb, scb, sg0, sg1, sgk, sIX, sgc, sgh, sgo, sgq⟩ := HS.out.S
      have hfi := fits_any X2 sgs sgj sg1 scb HS.out.SC HS.out.s8 HS.out.s14 HS.out.s15 HS.out.j3 HS.out.rc (by rw [HS.out.cA]; exact HS.out.dC) (by rw [HS.out.cA]; omega) (by rw [HS.out.cA]; omega) (by have := HS.out.cR.2.1; omega) HI.out (ac := fun _ => p.th) (ar := fun _ => p.th) HS.out.a1 (fun t ht => by rw [HS.out.cA]; have := HS.out.o; omega) (fun t ht => by have := HS.out.o; omega) (fun t t' h1 h2 => by omega) (by omega)
      have H2 := hideIt N2
      clear N2 X2
      go_wp2_with fail
      refine hfi.mono ?_
      rintro e w3 ⟨rfl, x3, X3, N3, hv3⟩
      have N4 := H2.out.trans (N3.mono (C' := fun k => k = 19) (R' := fun k => k = p.th) (U' := fun k => k = 9 ∨ k = 10) (fun _ z => z.elim) (fun k ⟨t, ht, e⟩ => e) (fun _ z => z.elim))
      have q4 : ∃ a4, x3.cu 10 = .int .i64 a4 := by
        obtain ⟨a4, h4⟩ := h4
        refine ⟨a4, ?_⟩
        rw [N3.u 10 (fun z => z)]
        exact HU4.out.trans h4
      obtain ⟨a4, q4⟩ := q4
      have c4 := (X3.cu 10 (by omega)).trans (congrArg some q4)
      have cf := X3.cf
      have X4 := X3.put_u (k := 10) (by omega) (by omega) (.int .i64 (r : Int))
      have N5 := N4.trans (Nx.put_u x3 (k := 10) (C := fun k => k = 19) (R := fun k => k = p.th) (U := fun k => k = 9 ∨ k = 10) (.inr rfl) (.int .i64 (r : Int)))
      have H4 := hideIt (And.intro X4 (And.intro N5 (And.intro N3 hv3)))
      clear X3 N3 N4 hv3 X4 N5 hfi H2
      go_wp2
      go_ret
      obtain ⟨X4, N5, N3, hv3⟩ := H4.out
      obtain ⟨hr, hmt, hno, h9⟩ := HH.out
      refine ⟨_, X4, N5, .inr ⟨r, hr, hmt, hno, rfl, ?_, ⟨a', (N3.c 19 (fun z => z)).trans (updV_same x1.c 19 (.int .i64 a'))⟩, ⟨_, updV_same x3.cu 10 (.int .i64 (r : Int))⟩, ?_⟩⟩
      · show updV x3.cu 10 (.int .i64 (r : Int)) 9 = _
        rw [updV_other _ _ (by omega), N3.u 9 (fun z => z)]
        exact h9
      · have := hv3 0 (by omega)
        rw [HS.out.cA] at this
        exact this
end Go.Proofs.Qxb6500880aGreat
