import Derived.Deep.CutBlock
import Derived.OwnWalk
import Derived.Maps.AppendAt
import Derived.Maps.OwnSet
import Derived.Maps.OwnOps
import Derived.Laws.ResultCell
import Derived.Test.Qxb6500880aGreatPe
set_option linter.unusedVariables false
set_option linter.unusedSimpArgs false
namespace Go.Proofs.Qxb6500880aGreat
open Go.RowKit

set_option maxRecDepth 20000 in
set_option maxHeartbeats 8000000 in
theorem cand1_any {w : World} {Q : RP} {x : RX} {p : RunP} {m0 : Nat} {kr : Nat → Nat} (X : RAt w Q x) (S : RunS Q p) (h6 : x.cu 6 = .int .i64 0) (h7 : x.cu 7 = .int .i64 (p.sc.rows : Int)) (h9 : x.cu 9 = .int .i32 (prevR (bkF p.dc 3 p.cf 2) (hashN kr 2 % 16) m0 : Int)) (hm : m0 ≤ p.sc.rows) (hkn : x.kn = 2) (hkx : x.kx = symL kr 2) (hkv : ∀ t, t < 2 → kr t < 64) :
    Calls Tryz.prog 86 #[.pointer (some ⟨Q.E, 0, none⟩), .pointer (some ⟨p.gs, 8, none⟩), .pointer (some ⟨Q.GC, 6, none⟩)] w fun e w' => ∃ x', RAt w' Q x' ∧ Nx x x' Ncn Ncn (fun k => k = 9) ∧ ((e = .returned (.tuple #[.int .i64 0, .bool false]) ∧ (∀ r, r < m0 → ¬ mtc p kr r) ∧ ∃ a, x'.cu 9 = .int .i32 a) ∨ ∃ r, r < m0 ∧ mtc p kr r ∧ (∀ r', r < r' → r' < m0 → ¬ mtc p kr r') ∧ e = .returned (.tuple #[.int .i64 (r : Int), .bool true]) ∧ x'.cu 9 = .int .i32 (prevR (bkF p.dc 3 p.cf 2) (hashN kr 2 % 16) r : Int)) := by
  obtain ⟨sP, sgs, sRB, sgj, seb, scb, sg0, sg1, sgk, sIX, sgc, sgh, sgo, sgq⟩ := S.S
  have hR := S.cR.2.1
  obtain ⟨pk, ck0, hk0⟩ := own_shape X.ky
  rw [hkn] at hk0
  have hcf : ∀ t, t < 2 → p.cf t < 3 := fun t ht => by
    unfold RunP.cf
    have := S.o
    split <;> omega
  have s3 := X.cell sgs S.s11
  have HX := hideIt (And.intro X (And.intro S (And.intro hcf hkv)))
  have HH := hideIt (And.intro h6 (And.intro h7 (And.intro hkn (And.intro hkx hk0))))
  generalize hb : hashN kr 2 % 16 = b at *
  generalize hbk : bkF p.dc 3 p.cf 2 = bk at *
  have hbm : ∀ r, mtc p kr r → bk r = b := fun r hr => by rw [← hbk, ← hb]; exact mtc_bk hr
  have hol : ∀ r, r < p.sc.rows → p.ol r = prevR bk (bk r) r := fun r hr => by
    rw [← hbk]; exact S.ip.o r hr
  have HB := hideIt (And.intro hbm hol)
  clear X S hcf hkv h6 h7 hkn hkx hk0 hbm hol hb hbk
  go_enter Tryz.func86, Tryz.ntmps86
  go_wp2_with fail
  go_loopg [9] m0 (fun g0 v wr => ∃ gg y, gg = g0 ∧ RAt wr Q y ∧ Nx x y Ncn Ncn (fun k => k = 9) ∧ gg ≤ m0 ∧ y.cu 9 = .int .i32 (prevR bk b gg : Int) ∧ ∀ r, gg ≤ r → r < m0 → ¬ mtc p kr r)
  case atStart => exact ⟨m0, x, rfl, HX.out.1, Nx.refl _ _ _ _, Nat.le_refl _, h9, fun r h1 h2 => by omega⟩
  case round =>
    obtain ⟨gg, y, hgg, Y, N, hg, y9, hno⟩ := hrel
    obtain ⟨h6, h7, hkn, hkx, hk0⟩ := HH.out
    have c6 := (Y.cu 6 (by omega)).trans (congrArg some ((N.u 6 (by omega)).trans h6))
    have c7 := (Y.cu 7 (by omega)).trans (congrArg some ((N.u 7 (by omega)).trans h7))
    have c9 := (Y.cu 9 (by omega)).trans (congrArg some y9)
    have k7 := (N.u 7 (by omega)).trans h7
    have cf := Y.cf
    rcases hL : prevR bk b gg with _ | r
    · rw [hL] at c9
      have c9' : wr.cell? ⟨Q.GC, 9, none⟩ = some (.int .i32 0) := c9
      have HY := hideIt (And.intro (Y.put_u (k := 9) (by omega) (by omega) (.int .i32 0)) (And.intro N (And.intro hno hL)))
      clear Y N hno hL c9 y9
      go_wp2
      go_ret2
      obtain ⟨Y, N, hno, hL⟩ := HY.out
      refine ⟨_, Y, N.trans (Nx.put_u y (k := 9) (U := fun k => k = 9) rfl _), .inl ⟨rfl, fun r hr hm => ?_, 0, updV_same y.cu 9 (.int .i32 0)⟩⟩
      by_cases q : r < gg
      · exact prevR_zero bk b gg hL r q (HB.out.1 r hm)
      · exact hno r (by omega) hr hm
    · obtain ⟨hr1, hr2, hr3⟩ := prevR_some bk b gg r hL
      rw [hL] at c9
      have ho := HB.out.2 r (by omega)
      rw [hr2] at ho
      have S := HX.out.2.1
      have iw : IxW wr p.IX p.gh p.go p.co p.sc.rows p.sc.rows p.hd p.ol := S.iw.keep (Y.st _ sIX).2 (Y.st _ sgh).2 (Y.st _ sgo).2
      have i2 := iw.c2
      have io := iw.o r (by omega)
      rw [ho] at io
      have e4 := Y.cell sgs S.s12
      have k11 : y.key = .slice pk 2 ck0 := by
        obtain ⟨pk', ck', e'⟩ := own_shape Y.ky
        have := (N.kn).trans hkn
        have z := (Y.cu 11 (by omega)).trans (congrArg some ((N.u 11 (by omega)).trans (HX.out.1.k11.trans hk0)))
        have z2 := (Y.cu 11 (by omega)).trans (congrArg some Y.k11)
        exact Option.some.inj (z2.symm.trans z)
      have z0 : (0 : Int) ≤ (r : Int) := by omega
      have z1 : (r : Int) < (p.sc.rows : Int) := by omega
      have z2 : ¬ (((r + 1 : Nat) : Int) = 0) := by omega
      have z3 : IntKind.i32.wrap (((r + 1 : Nat) : Int) - 1) = (r : Int) := by rw [IntKind.wrap_i32]; omega
      have z4 : IntKind.i64.wrap (r : Int) = (r : Int) := by rw [IntKind.wrap_i64]; omega
      have z5 : ¬ ((r : Int) < 0) := by omega
      obtain ⟨z, HZ⟩ : ∃ z, Hid (((r + 1 : Nat) : Int) = z) := ⟨_, hideIt rfl⟩
      rw [HZ.out] at z2 z3 c9
      have Y2 := Y.put_u (k := 9) (by omega) (by omega) (.int .i32 (prevR bk b r : Int))
      have HX2 := hideIt (And.intro Y2 S)
      have HN := hideIt (And.intro N (And.intro hno (And.intro hL (And.intro hr1 (And.intro hr2 hr3)))))
      have HK7 := hideIt k7
      have HK11 := hideIt (Y.k11.trans k11)
      have hkk : y.kn = 2 ∧ y.kx = symL kr 2 := ⟨N.kn.trans hkn, N.kx.trans hkx⟩
      have HKK := hideIt (And.intro hkk k11)
      clear iw Y N hno hL hr1 hr2 hr3 Y2 S y9 ho k7 k11 hkk h6 h7 hkn hkx hk0
      go_upto_region 15 with fail
      generalize wr.setCell ⟨Q.GC, 9, none⟩ (.int .i32 (prevR bk b r : Int)) = w2 at *
      clear c6 c7 c9 cf i2 io e4
      obtain ⟨Y2, S⟩ := HX2.out
      have q4 := Y2.cell sgs S.s12
      have q0 := Y2.cell sgs S.s8
      have qj := Y2.cell sgj S.j3
      have q11 : w2.cell? ⟨Q.GC, 11, none⟩ = some (.slice pk 2 ck0) := (Y2.cu 11 (by omega)).trans (congrArg some HK11.out)
      have q7 : w2.cell? ⟨Q.GC, 7, none⟩ = some (.int .i64 (p.sc.rows : Int)) := (Y2.cu 7 (by omega)).trans (congrArg some HK7.out)
      have hsy : SymR w2 (.slice pk 2 ck0) 2 kr := by
        have := Y2.ky
        have e1 := HKK.out.1.1
        have e2 := HKK.out.1.2
        have e3 := HKK.out.2
        have t0 : w2.ownsRow 0 109 1 y.key y.kn y.kx := this
        rw [e1, e2, e3] at t0
        exact SymR.of_own t0
      have hma := matches_any (w := w2.drew) (S.ix.keep (World.cell?_of_block (a := ⟨p.IX, 0, none⟩) (Y2.drew.st _ sIX).2) (Y2.drew.st _ sgc).2) (Y2.drew.rel scb S.rc) (by rw [S.cA]; exact Y2.drew.sym S.SC S.dC) (hsy.below (below_dr (Below.refl _ _))) (row := r) (by omega) (by rw [S.cA]; exact HX.out.2.2.1) (by rw [S.cA]; omega) (by rw [S.cA]; omega) (by omega) (by omega)
      rw [S.cA] at hma
      clear Y2 S hsy
      refine wp_region_held_drew (S := (fun w' => w'.cell? ⟨p.gs, 12, none⟩ = some (.pointer (some ⟨p.IX, 0, none⟩)) ∧ w'.cell? ⟨p.gs, 8, none⟩ = some (.pointer (some ⟨p.gj, 3, none⟩)) ∧ w'.cell? ⟨p.gj, 3, none⟩ = some (.pointer (some ⟨p.cb, 0, none⟩)) ∧ w'.cell? ⟨Q.GC, 11, none⟩ = some (.slice pk 2 ck0) ∧ w'.cell? ⟨Q.GC, 7, none⟩ = some (.int .i64 (p.sc.rows : Int)))) (by kernel_rfl) ⟨q4, q0, qj, q11, q7⟩ (fun hHeld => ?_)
      refine wpAnyH_take (i := 0) (oi := { dst := some 91, op := Go.Op.move (Go.Operand.tmp 9), type := 3, pos := _, after := #[], guard := none }) (v := ?vv37501) rfl (by kernel_rfl) (by kernel_rfl) (by kernel_rfl) (fun _ _ _ h => h) (Or.inl ⟨by rfl, ?hy37501⟩) (by assumption) ?tk37501
      case hy37501 => (intro w hSw; (try dsimp only at hSw); go_simp; (try with_reducible rfl))
      try simp only [Act.put, List.setIfInBounds_toArray, List.set_cons_zero, List.set_cons_succ]
      refine wpAnyH_take (i := 1) (oi := { dst := some 92, op := Go.Op.move (Go.Operand.tmp 2), type := 201, pos := _, after := #[], guard := none }) (v := ?vv37502) rfl (by kernel_rfl) (by kernel_rfl) (by kernel_rfl) (fun _ _ _ h => h) (Or.inl ⟨by rfl, ?hy37502⟩) (by assumption) ?tk37502
      case hy37502 => (intro w hSw; (try dsimp only at hSw); go_simp; (try with_reducible rfl))
      try simp only [Act.put, List.setIfInBounds_toArray, List.set_cons_zero, List.set_cons_succ]
      refine wpAnyH_take (i := 2) (oi := { dst := some 93, op := Go.Op.nilCheck (Go.Operand.tmp 92), type := 0, pos := _, after := #[{ on := 1, ground := Go.Ground.data }], guard := none }) (v := ?vv37503) rfl (by kernel_rfl) (by kernel_rfl) (by kernel_rfl) (fun _ _ _ h => h) (Or.inl ⟨by rfl, ?hy37503⟩) (by assumption) ?tk37503
      case hy37503 => (intro w hSw; (try dsimp only at hSw); go_simp; (try with_reducible rfl))
      try simp only [Act.put, List.setIfInBounds_toArray, List.set_cons_zero, List.set_cons_succ]
      refine wpAnyH_take (i := 3) (oi := { dst := some 94, op := Go.Op.fieldAddr 112 (Go.Operand.tmp 93) 1, type := 0, pos := _, after := #[{ on := 2, ground := Go.Ground.data }], guard := none }) (v := ?vv37504) rfl (by kernel_rfl) (by kernel_rfl) (by kernel_rfl) (fun _ _ _ h => h) (Or.inl ⟨by rfl, ?hy37504⟩) (by assumption) ?tk37504
      case hy37504 => (intro w hSw; (try dsimp only at hSw); go_simp; (try with_reducible rfl))
      try simp only [Act.put, List.setIfInBounds_toArray, List.set_cons_zero, List.set_cons_succ]
      refine wpAnyH_take (i := 4) (oi := { dst := some 95, op := Go.Op.load 3 (Go.Operand.tmp 94), type := 3, pos := _, after := #[{ on := 3, ground := Go.Ground.data }], guard := none }) (v := ?vv37505) rfl (by kernel_rfl) (by kernel_rfl) (by kernel_rfl) (fun _ _ _ h => h) (Or.inl ⟨by rfl, ?hy37505⟩) (by assumption) ?tk37505
      case hy37505 => (intro w hSw; (try dsimp only at hSw); go_simp; (try with_reducible rfl))
      try simp only [Act.put, List.setIfInBounds_toArray, List.set_cons_zero, List.set_cons_succ]
      refine wpAnyH_take (i := 5) (oi := { dst := some 96, op := Go.Op.binOp Go.BinOp.lss 3 (Go.Operand.tmp 91) (Go.Operand.tmp 95) 3, type := 4, pos := _, after := #[{ on := 0, ground := Go.Ground.data }, { on := 4, ground := Go.Ground.data }], guard := none }) (v := ?vv37506) rfl (by kernel_rfl) (by kernel_rfl) (by kernel_rfl) (fun _ _ _ h => h) (Or.inl ⟨by rfl, ?hy37506⟩) (by assumption) ?tk37506
      case hy37506 => (intro w hSw; (try dsimp only at hSw); go_simp; (try with_reducible rfl))
      try simp only [Act.put, List.setIfInBounds_toArray, List.set_cons_zero, List.set_cons_succ]
      refine wpAnyH_take (i := 6) (oi := { dst := some 97, op := Go.Op.move (Go.Operand.tmp 96), type := 4, pos := _, after := #[{ on := 5, ground := Go.Ground.data }], guard := none }) (v := ?vv37507) rfl (by kernel_rfl) (by kernel_rfl) (by kernel_rfl) (fun _ _ _ h => h) (Or.inl ⟨by rfl, ?hy37507⟩) (by assumption) ?tk37507
      case hy37507 => (intro w hSw; (try dsimp only at hSw); go_simp; (try with_reducible rfl))
      try simp only [Act.put, List.setIfInBounds_toArray, List.set_cons_zero, List.set_cons_succ]
      refine wpAnyH_take (i := 7) (oi := { dst := some 98, op := Go.Op.move (Go.Operand.tmp 1), type := 200, pos := _, after := #[{ on := 6, ground := Go.Ground.guard }], guard := some (6, true) }) (v := ?vv37508) rfl (by kernel_rfl) (by kernel_rfl) (by kernel_rfl) (fun _ _ _ h => h) (Or.inl ⟨by rfl, ?hy37508⟩) (by assumption) ?tk37508
      case hy37508 => (intro w hSw; (try dsimp only at hSw); go_simp; (try with_reducible rfl))
      try simp only [Act.put, List.setIfInBounds_toArray, List.set_cons_zero, List.set_cons_succ]
      refine wpAnyH_take (i := 8) (oi := { dst := some 99, op := Go.Op.nilCheck (Go.Operand.tmp 98), type := 0, pos := _, after := #[{ on := 7, ground := Go.Ground.data }, { on := 6, ground := Go.Ground.guard }], guard := some (6, true) }) (v := ?vv37509) rfl (by kernel_rfl) (by kernel_rfl) (by kernel_rfl) (fun _ _ _ h => h) (Or.inl ⟨by rfl, ?hy37509⟩) (by assumption) ?tk37509
      case hy37509 => (intro w hSw; (try dsimp only at hSw); go_simp; (try with_reducible rfl))
      try simp only [Act.put, List.setIfInBounds_toArray, List.set_cons_zero, List.set_cons_succ]
      refine wpAnyH_take (i := 9) (oi := { dst := some 100, op := Go.Op.fieldAddr 191 (Go.Operand.tmp 99) 4, type := 0, pos := _, after := #[{ on := 8, ground := Go.Ground.data }, { on := 6, ground := Go.Ground.guard }], guard := some (6, true) }) (v := ?vv37510) rfl (by kernel_rfl) (by kernel_rfl) (by kernel_rfl) (fun _ _ _ h => h) (Or.inl ⟨by rfl, ?hy37510⟩) (by assumption) ?tk37510
      case hy37510 => (intro w hSw; (try dsimp only at hSw); go_simp; (try with_reducible rfl))
      try simp only [Act.put, List.setIfInBounds_toArray, List.set_cons_zero, List.set_cons_succ]
      refine wpAnyH_take (i := 10) (oi := { dst := some 101, op := Go.Op.load 188 (Go.Operand.tmp 100), type := 188, pos := _, after := #[{ on := 9, ground := Go.Ground.data }, { on := 6, ground := Go.Ground.guard }], guard := some (6, true) }) (v := ?vv37511) rfl (by kernel_rfl) (by kernel_rfl) (by kernel_rfl) (fun _ _ _ h => h) (Or.inl ⟨by rfl, ?hy37511⟩) (by assumption) ?tk37511
      case hy37511 => (intro w hSw; (try dsimp only at hSw); go_simp; (try with_reducible rfl))
      try simp only [Act.put, List.setIfInBounds_toArray, List.set_cons_zero, List.set_cons_succ]
      refine wpAnyH_take (i := 11) (oi := { dst := some 102, op := Go.Op.move (Go.Operand.tmp 1), type := 200, pos := _, after := #[{ on := 6, ground := Go.Ground.guard }], guard := some (6, true) }) (v := ?vv37512) rfl (by kernel_rfl) (by kernel_rfl) (by kernel_rfl) (fun _ _ _ h => h) (Or.inl ⟨by rfl, ?hy37512⟩) (by assumption) ?tk37512
      case hy37512 => (intro w hSw; (try dsimp only at hSw); go_simp; (try with_reducible rfl))
      try simp only [Act.put, List.setIfInBounds_toArray, List.set_cons_zero, List.set_cons_succ]
      refine wpAnyH_take (i := 12) (oi := { dst := some 103, op := Go.Op.nilCheck (Go.Operand.tmp 102), type := 0, pos := _, after := #[{ on := 11, ground := Go.Ground.data }, { on := 6, ground := Go.Ground.guard }], guard := some (6, true) }) (v := ?vv37513) rfl (by kernel_rfl) (by kernel_rfl) (by kernel_rfl) (fun _ _ _ h => h) (Or.inl ⟨by rfl, ?hy37513⟩) (by assumption) ?tk37513
      case hy37513 => (intro w hSw; (try dsimp only at hSw); go_simp; (try with_reducible rfl))
      try simp only [Act.put, List.setIfInBounds_toArray, List.set_cons_zero, List.set_cons_succ]
      refine wpAnyH_take (i := 13) (oi := { dst := some 104, op := Go.Op.fieldAddr 191 (Go.Operand.tmp 103) 0, type := 0, pos := _, after := #[{ on := 12, ground := Go.Ground.data }, { on := 6, ground := Go.Ground.guard }], guard := some (6, true) }) (v := ?vv37514) rfl (by kernel_rfl) (by kernel_rfl) (by kernel_rfl) (fun _ _ _ h => h) (Or.inl ⟨by rfl, ?hy37514⟩) (by assumption) ?tk37514
      case hy37514 => (intro w hSw; (try dsimp only at hSw); go_simp; (try with_reducible rfl))
      try simp only [Act.put, List.setIfInBounds_toArray, List.set_cons_zero, List.set_cons_succ]
      refine wpAnyH_take (i := 14) (oi := { dst := some 105, op := Go.Op.load 185 (Go.Operand.tmp 104), type := 185, pos := _, after := #[{ on := 13, ground := Go.Ground.data }, { on := 6, ground := Go.Ground.guard }], guard := some (6, true) }) (v := ?vv37515) rfl (by kernel_rfl) (by kernel_rfl) (by kernel_rfl) (fun _ _ _ h => h) (Or.inl ⟨by rfl, ?hy37515⟩) (by assumption) ?tk37515
      case hy37515 => (intro w hSw; (try dsimp only at hSw); go_simp; (try with_reducible rfl))
      try simp only [Act.put, List.setIfInBounds_toArray, List.set_cons_zero, List.set_cons_succ]
      refine wpAnyH_take (i := 15) (oi := { dst := some 106, op := Go.Op.nilCheck (Go.Operand.tmp 105), type := 0, pos := _, after := #[{ on := 14, ground := Go.Ground.data }, { on := 6, ground := Go.Ground.guard }], guard := some (6, true) }) (v := ?vv37516) rfl (by kernel_rfl) (by kernel_rfl) (by kernel_rfl) (fun _ _ _ h => h) (Or.inl ⟨by rfl, ?hy37516⟩) (by assumption) ?tk37516
      case hy37516 => (intro w hSw; (try dsimp only at hSw); go_simp; (try with_reducible rfl))
      try simp only [Act.put, List.setIfInBounds_toArray, List.set_cons_zero, List.set_cons_succ]
      refine wpAnyH_take (i := 16) (oi := { dst := some 107, op := Go.Op.fieldAddr 102 (Go.Operand.tmp 106) 0, type := 0, pos := _, after := #[{ on := 15, ground := Go.Ground.data }, { on := 6, ground := Go.Ground.guard }], guard := some (6, true) }) (v := ?vv37517) rfl (by kernel_rfl) (by kernel_rfl) (by kernel_rfl) (fun _ _ _ h => h) (Or.inl ⟨by rfl, ?hy37517⟩) (by assumption) ?tk37517
      case hy37517 => (intro w hSw; (try dsimp only at hSw); go_simp; (try with_reducible rfl))
      try simp only [Act.put, List.setIfInBounds_toArray, List.set_cons_zero, List.set_cons_succ]
      refine wpAnyH_take (i := 17) (oi := { dst := some 108, op := Go.Op.load 99 (Go.Operand.tmp 107), type := 99, pos := _, after := #[{ on := 16, ground := Go.Ground.data }, { on := 6, ground := Go.Ground.guard }], guard := some (6, true) }) (v := ?vv37518) rfl (by kernel_rfl) (by kernel_rfl) (by kernel_rfl) (fun _ _ _ h => h) (Or.inl ⟨by rfl, ?hy37518⟩) (by assumption) ?tk37518
      case hy37518 => (intro w hSw; (try dsimp only at hSw); go_simp; (try with_reducible rfl))
      try simp only [Act.put, List.setIfInBounds_toArray, List.set_cons_zero, List.set_cons_succ]
      refine wpAnyH_take (i := 18) (oi := { dst := some 109, op := Go.Op.move (Go.Operand.tmp 9), type := 3, pos := _, after := #[{ on := 6, ground := Go.Ground.guard }], guard := some (6, true) }) (v := ?vv37519) rfl (by kernel_rfl) (by kernel_rfl) (by kernel_rfl) (fun _ _ _ h => h) (Or.inl ⟨by rfl, ?hy37519⟩) (by assumption) ?tk37519
      case hy37519 => (intro w hSw; (try dsimp only at hSw); go_simp; (try with_reducible rfl))
      try simp only [Act.put, List.setIfInBounds_toArray, List.set_cons_zero, List.set_cons_succ]
      refine wpAnyH_take (i := 19) (oi := { dst := some 110, op := Go.Op.move (Go.Operand.tmp 2), type := 201, pos := _, after := #[{ on := 6, ground := Go.Ground.guard }], guard := some (6, true) }) (v := ?vv37520) rfl (by kernel_rfl) (by kernel_rfl) (by kernel_rfl) (fun _ _ _ h => h) (Or.inl ⟨by rfl, ?hy37520⟩) (by assumption) ?tk37520
      case hy37520 => (intro w hSw; (try dsimp only at hSw); go_simp; (try with_reducible rfl))
      try simp only [Act.put, List.setIfInBounds_toArray, List.set_cons_zero, List.set_cons_succ]
      refine wpAnyH_take (i := 20) (oi := { dst := some 111, op := Go.Op.nilCheck (Go.Operand.tmp 110), type := 0, pos := _, after := #[{ on := 19, ground := Go.Ground.data }, { on := 6, ground := Go.Ground.guard }], guard := some (6, true) }) (v := ?vv37521) rfl (by kernel_rfl) (by kernel_rfl) (by kernel_rfl) (fun _ _ _ h => h) (Or.inl ⟨by rfl, ?hy37521⟩) (by assumption) ?tk37521
      case hy37521 => (intro w hSw; (try dsimp only at hSw); go_simp; (try with_reducible rfl))
      try simp only [Act.put, List.setIfInBounds_toArray, List.set_cons_zero, List.set_cons_succ]
      refine wpAnyH_take (i := 21) (oi := { dst := some 112, op := Go.Op.fieldAddr 112 (Go.Operand.tmp 111) 5, type := 0, pos := _, after := #[{ on := 20, ground := Go.Ground.data }, { on := 6, ground := Go.Ground.guard }], guard := some (6, true) }) (v := ?vv37522) rfl (by kernel_rfl) (by kernel_rfl) (by kernel_rfl) (fun _ _ _ h => h) (Or.inl ⟨by rfl, ?hy37522⟩) (by assumption) ?tk37522
      case hy37522 => (intro w hSw; (try dsimp only at hSw); go_simp; (try with_reducible rfl))
      try simp only [Act.put, List.setIfInBounds_toArray, List.set_cons_zero, List.set_cons_succ]
      refine wpAnyH_take (i := 22) (oi := { dst := some 113, op := Go.Op.load 83 (Go.Operand.tmp 112), type := 83, pos := _, after := #[{ on := 21, ground := Go.Ground.data }, { on := 6, ground := Go.Ground.guard }], guard := some (6, true) }) (v := ?vv37523) rfl (by kernel_rfl) (by kernel_rfl) (by kernel_rfl) (fun _ _ _ h => h) (Or.inl ⟨by rfl, ?hy37523⟩) (by assumption) ?tk37523
      case hy37523 => (intro w hSw; (try dsimp only at hSw); go_simp; (try with_reducible rfl))
      try simp only [Act.put, List.setIfInBounds_toArray, List.set_cons_zero, List.set_cons_succ]
      refine wpAnyH_ready (rs := [23]) (by kernel_rfl) (by simp) ?_
      refine AllReadyH.cons (o := { dst := some 114, op := Go.Op.call { callee := Go.Callee.value (Go.Operand.func 107), args := #[Go.Operand.tmp 101, Go.Operand.tmp 108, Go.Operand.tmp 109, Go.Operand.tmp 113], argTypes := #[188, 99, 3, 83] }, type := 4, pos := _, after := #[{ on := 10, ground := Go.Ground.data }, { on := 17, ground := Go.Ground.data }, { on := 18, ground := Go.Ground.data }, { on := 22, ground := Go.Ground.data }, { on := 6, ground := Go.Ground.chain }, { on := 6, ground := Go.Ground.guard }], guard := some (6, true) }) rfl (fun K' hK' => ?_) AllReadyH.nil
      go_simp
      go_at_call 107
      refine hma.mono ?_
      rintro e w7 ⟨rfl, bw7⟩
      obtain ⟨X2, S⟩ := HX2.out
      have X7 := X2.drew.below bw7
      have x4 := X7.cell sgs S.s12
      have x0 := X7.cell sgs S.s8
      have xj := X7.cell sgj S.j3
      have x11 : w7.cell? ⟨Q.GC, 11, none⟩ = some (.slice pk 2 ck0) := (X7.cu 11 (by omega)).trans (congrArg some HK11.out)
      have x7 : w7.cell? ⟨Q.GC, 7, none⟩ = some (.int .i64 (p.sc.rows : Int)) := (X7.cu 7 (by omega)).trans (congrArg some HK7.out)
      have HX7 := hideIt (And.intro X7 S)
      clear hma X2 X7 S bw7
      clear hHeld
      refine hK'.out _ _ ⟨x4, x0, xj, x11, x7⟩ (fun hHeld => ?_)
      clear hK' K'
      try simp only [Act.put, List.setIfInBounds_toArray, List.set_cons_zero, List.set_cons_succ]
      refine wpAnyH_take (i := 24) (oi := { dst := some 115, op := Go.Op.pick (Go.Operand.tmp 97) (Go.Operand.tmp 114) (Go.Operand.const (Go.Value.bool false)), type := 4, pos := _, after := #[{ on := 6, ground := Go.Ground.data }, { on := 23, ground := Go.Ground.data }], guard := none }) (v := ?vv37524) rfl (by kernel_rfl) (by kernel_rfl) (by kernel_rfl) (fun _ _ _ h => h) (Or.inl ⟨by rfl, ?hy37524⟩) (by assumption) ?tk37524
      case hy37524 => (intro w hSw; (try dsimp only at hSw); go_simp; (try with_reducible rfl))
      try simp only [Act.put, List.setIfInBounds_toArray, List.set_cons_zero, List.set_cons_succ]
      refine wpAnyH_done (by kernel_rfl) ?_ _
      clear hHeld x4 x0 xj x11 x7 q4 q0 qj q11 q7
      rcases hE : eqR (keyR p.dc 3 p.cf r) kr 2 with _ | _
      · have HE := hideIt hE
        clear hE
        go_wp2
        go_roundg r
        case measure =>
          have := HN.out.2.2.2.1
          omega
        case rel =>
          obtain ⟨N, hno, hL, hr1, hr2, hr3⟩ := HN.out
          refine ⟨r, _, rfl, HX7.out.1, N.trans (Nx.put_u y (k := 9) (U := fun k => k = 9) rfl _), by omega, updV_same y.cu 9 (.int .i32 (prevR bk b r : Int)), fun r' h1 h2 hm => ?_⟩
          by_cases q1 : gg ≤ r'
          · exact hno r' q1 h2 hm
          · by_cases q2 : r' = r
            · subst q2
              have := (eqR_iff (keyR p.dc 3 p.cf r') kr 2).2 hm
              rw [HE.out] at this
              cases this
            · exact hr3 r' (by omega) (by omega) (HB.out.1 r' hm)
      · have HE := hideIt hE
        clear hE
        go_wp2
        go_ret2
        obtain ⟨N, hno, hL, hr1, hr2, hr3⟩ := HN.out
        refine ⟨_, HX7.out.1, N.trans (Nx.put_u y (k := 9) (U := fun k => k = 9) rfl _), .inr ⟨r, by omega, (eqR_iff (keyR p.dc 3 p.cf r) kr 2).1 HE.out, fun r' h1 h2 hm => ?_, rfl, updV_same y.cu 9 (.int .i32 (prevR bk b r : Int))⟩⟩
        by_cases q1 : gg ≤ r'
        · exact hno r' q1 h2 hm
        · exact hr3 r' (by omega) (by omega) (HB.out.1 r' hm)
end Go.Proofs.Qxb6500880aGreat
