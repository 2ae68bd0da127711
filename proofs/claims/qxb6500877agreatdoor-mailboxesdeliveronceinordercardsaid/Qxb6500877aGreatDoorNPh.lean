import Derived.Test.Qxb6500877aGreatDoorNPh0
import Derived.Test.Qxb6500877aGreatDoorNLa
import Derived.Test.Qxb6500877aGreatDoorNStb
set_option linter.unusedVariables false
set_option linter.unusedSimpArgs false
namespace Go.Proofs.Qxb6500877aGreatDoor
open Go.RowKit

set_option maxRecDepth 20000 in
set_option maxHeartbeats 8000000 in
theorem got_any {n0 : Nat} {w0 w : World} {B mb t k : Nat} {ν : Net} {base Sb Gb mc : Nat} {S : Nat → List MsgV} {g : Nat → Nat} (P : LP n0 B mb base Sb Gb mc) (H : LS n0 w0 w B mb t k ν base Sb Gb mc S g) {V : Nat → Value} (R : Rws w base Sb Gb V (rowsOf S g)) (hk : k < 700000) (v : Int) :
    Calls Tryz.prog 25 #[.int .i64 v, .pointer (some ⟨mc, 0, none⟩), .pointer (some ⟨Gb, 0, none⟩), .pointer (some ⟨Sb, 0, none⟩)] w fun e w' => e = .returned (.bool true) ∧ ∃ (i : Nat) (ν' : Net), i < 16 ∧ v % 16 = i ∧ LS n0 w0 w' B mb t (k + 4) ν' base Sb Gb mc S (takeG S g i) ∧ (¬ g i < (S i).length → Rws w' base Sb Gb V (rowsOf S g)) := by
  have hst : Calls Tryz.prog 19 #[.pointer (some ⟨B, 0, none⟩), .agg #[.int .u8 1, .int .i64 v, .int .i64 0, .int .i64 0, .int .u64 0, .int .u64 0]] w _ := step_1 H.m (by omega) ⟨1, v, 0, 0, 0, 0⟩ ⟨by show 1 < 256; omega, by show 0 < 18446744073709551616; omega, by show 0 < 18446744073709551616; omega⟩ rfl
  have hc := H.c
  obtain ⟨i0_, hi_, hz0, hz1, hz2⟩ := info_parts info40
  go_enter Tryz.func25, Tryz.ntmps25
  go_upto_region 1 with fail
  go_cut [6] (fun a6 wc => ∃ (b6 i : Nat) (z : Int) (m : MsgV) (ν' : Net), a6 = .pointer (some ⟨b6, 0, none⟩) ∧ i < 16 ∧ v % 16 = i ∧ Hid ((z = 0 ∧ DelR ν i m true ν') ∨ (z = 2 ∧ DelR ν i m false ν')) ∧ TK n0 w0 wc B mb t (k + 4) ν' base Sb Gb mc (rowsOf S g) V b6 z ((i % 4 : Nat) : Int) (decide (z = 0)) m)
  case first =>
    go_wp2_with fail
    refine hst.mono ?_
    rintro e w1 ⟨i, ν', hi, ei, ⟨z, tk, tm, m, p, a, n, rfl, hD⟩, D1⟩
    have HD := hideIt hD
    have EI := hideIt ei
    clear hD ei hst
    have HS := hideIt (H.step P D1)
    have hz := D1.f.size
    have hhb := H.hb
    generalize hdz : decide (z = 0) = dz
    have HDZ := hideIt hdz
    clear hdz
    unfold resV
    go_wp2
    go_meet
    case rel =>
      obtain ⟨M1, R1, C1, B1, hb1⟩ := HS.out
      have R2 := R1 V R
      have h0 := P.n0
      refine ⟨w1.heap.size, i, z, m, ν', rfl, hi, EI.out, HD, ?_, M1.below (one_alloc _ _), R2.below (one_alloc _ _), fun r hr q hq => ?_, ?_, below_to B1 (one_alloc _ _) (by omega), by omega⟩
      · rw [HDZ.out]
        exact rc_new w1 z _ tk tm dz m p a n 43
      · have := (R2.own r hr).lt q hq
        omega
      · exact (World.cell?_of_block (a := ⟨mc, 0, none⟩) ((one_alloc w1 _).block mc (World.block_lt_of_cell? _ _ C1))).trans C1
  case rest =>
  obtain ⟨b6, i, z, m, ν', rfl, hi, ei, HD, T0⟩ := hcut
  have hrem := rem_any v wc
  rw [ei] at hrem
  have EI := hideIt ei
  clear ei hst hc
  have i0 : (0 : Int) ≤ i := by omega
  have i1 : (i : Int) < 16 := by omega
  have gle := H.n.le i hi
  have hlk := H.len hi
  rcases HD.out with ⟨rfl, hD⟩ | ⟨rfl, hD⟩
  · have T : TK n0 w0 wc B mb t (k + 4) ν' base Sb Gb mc (rowsOf S g) V b6 0 ((i % 4 : Nat) : Int) true m := T0
    have HN := hideIt (H.n.pop hi hD)
    clear T0 HD hD
    obtain ⟨pg, cg, eg⟩ := T.rows.shape (r := 16 + i) (by omega)
    rw [rows_len_g gle] at eg
    obtain ⟨ps, cs, es⟩ := T.rows.shape (r := i) (by omega)
    rw [rows_len_s hi] at es
    have cg0 : wc.cell? ⟨Gb, i, none⟩ = some (.slice pg (g i) cg) := by have := T.rows.cell (16 + i) (by omega); rw [rowA_g, eg] at this; exact this
    have cs0 : wc.cell? ⟨Sb, i, none⟩ = some (.slice ps (S i).length cs) := by have := T.rows.cell i (by omega); rw [rowA_s hi, es] at this; exact this
    obtain ⟨gi, HGI⟩ : ∃ gi, Hid (g i = gi) := ⟨_, hideIt rfl⟩
    obtain ⟨ln, HLN⟩ : ∃ ln, Hid ((S i).length = ln) := ⟨_, hideIt rfl⟩
    rw [HGI.out] at cg0 eg
    rw [HLN.out] at cs0 es
    have hlt : gi < ln := by rw [← HGI.out, ← HLN.out]; exact HN.out.1
    have hne : ((gi : Int) == (ln : Int)) = false := by simp; omega
    go_wp2_with fail
    refine hrem.mono ?_
    rintro e wc ⟨rfl, rfl⟩
    obtain ⟨r0, r1, r4, m0, m1, m2, m3, m4, m5, m6, m7, m8⟩ := T.rc
    go_wp2_with fail
    go_quiet (first | (go_at_call 27; exact Calls.quiet_of_same (to_any hi)) | fail)
    go_wp2_with fail
    go_quiet (fail)
    go_wp2_with fail
    go_cut [] (fun wd => ∃ V', TK n0 w0 wd B mb t (k + 4) ν' base Sb Gb mc (rowsOf S (upd g i (g i + 1))) V' b6 0 ((i % 4 : Nat) : Int) true m)
    case first =>
      generalize hW7 : World.drewN (World.drewN wc _) _ = W7
      have T7 : TK n0 w0 W7 B mb t (k + 4) ν' base Sb Gb mc (rowsOf S g) V b6 0 ((i % 4 : Nat) : Int) true m := hW7 ▸ (T.drewN _).drewN _
      have cg7 : W7.cell? ⟨Gb, i, none⟩ = some (.slice pg gi cg) := hW7 ▸ cg0
      clear hW7 T cg0 cs0 r0 r1 r4 m0 m1 m2 m3 m4 m5 m6 m7 m8 hrem
      obtain ⟨r0, r1, r4, m0, m1, m2, m3, m4, m5, m6, m7, m8⟩ := T7.rc
      have hown0 := T7.rows.own (16 + i) (by omega)
      rw [eg] at hown0
      obtain ⟨LL, HLL⟩ : ∃ LL, Hid (rowsOf S g (16 + i) = LL) := ⟨_, hideIt rfl⟩
      have hLl : Hid (LL.length = gi) := hideIt (by rw [← HLL.out, rows_len_g gle, HGI.out])
      rw [HLL.out, hLl.out] at hown0
      have hown : W7.ownsRow base 40 9 (.slice pg gi cg) gi (msgCells LL) := hown0
      have hGlt : Gb < W7.heap.size := T7.rows.lt.2
      have hblt : b6 < W7.heap.size := T7.rc.lt
      have hbase : base ≤ W7.heap.size := by have := T7.hb; omega
      have n1 : ¬ (b6 = Gb) := by have := T7.hb; have := P.hi; omega
      have n2 : ¬ (Gb = b6) := fun e => n1 e.symm
      have HR : Hid (some Gb ≠ (Value.slice pg gi cg).ownBlock ∧ some b6 ≠ (Value.slice pg gi cg).ownBlock) := by
        rw [← eg]
        refine hideIt ⟨fun e => ?_, fun e => T7.own (16 + i) (by omega) b6 e.symm rfl⟩
        have := ((T7.rows.own (16 + i) (by omega)).lt Gb e.symm).1
        have := P.hi
        omega
      have HEG := hideIt eg
      have hgb : gi ≤ 800000 := by rw [← HGI.out]; omega
      have fz := T7.rows.gfz
      clear hown0 eg es gle hlk
      refine wp_region_l (l := 9) (S := (fun w' => w'.cell? ⟨Gb, i, none⟩ = some (.slice pg gi cg) ∧ w'.cell? ⟨b6, 5, none⟩ = some (.int .i64 m.mf) ∧ w'.cell? ⟨b6, 6, none⟩ = some (.int .i64 m.mt) ∧ w'.cell? ⟨b6, 7, none⟩ = some (.int .u32 m.md) ∧ w'.cell? ⟨b6, 8, none⟩ = some (.int .u64 m.mq) ∧ w'.cell? ⟨b6, 9, none⟩ = some (.int .u64 m.ma) ∧ w'.cell? ⟨b6, 10, none⟩ = some (.int .u64 m.x0) ∧ w'.cell? ⟨b6, 11, none⟩ = some (.int .u64 m.x1) ∧ w'.cell? ⟨b6, 12, none⟩ = some (.int .u64 m.x2) ∧ w'.cell? ⟨b6, 13, none⟩ = some (.int .u64 m.x3))) (by kernel_rfl) ⟨cg7, m0, m1, m2, m3, m4, m5, m6, m7, m8⟩ (fun hHeld => ?_)
      refine AnyL.take (i := 0) (oi := { dst := some 39, op := Go.Op.move (Go.Operand.tmp 7), type := 65, pos := _, after := #[], guard := none }) (v := ?vv1) (by kernel_rfl) rfl (by kernel_rfl) (by kernel_rfl) (by kernel_rfl) (fun _ _ _ h => h) (Or.inl ⟨by rfl, ?hy1⟩) (by assumption) ?tk1
      case hy1 => (intro w hSw; (try dsimp only at hSw); go_simp; (try with_reducible rfl))
      try simp only [Act.put, List.setIfInBounds_toArray, List.set_cons_zero, List.set_cons_succ]
      refine AnyL.take (i := 1) (oi := { dst := some 40, op := Go.Op.move (Go.Operand.tmp 7), type := 65, pos := _, after := #[], guard := none }) (v := ?vv2) (by kernel_rfl) rfl (by kernel_rfl) (by kernel_rfl) (by kernel_rfl) (fun _ _ _ h => h) (Or.inl ⟨by rfl, ?hy2⟩) (by assumption) ?tk2
      case hy2 => (intro w hSw; (try dsimp only at hSw); go_simp; (try with_reducible rfl))
      try simp only [Act.put, List.setIfInBounds_toArray, List.set_cons_zero, List.set_cons_succ]
      refine AnyL.take (i := 2) (oi := { dst := some 41, op := Go.Op.indexAddr 57 (Go.Operand.tmp 2) (Go.Operand.tmp 40), type := 0, pos := _, after := #[{ on := 1, ground := Go.Ground.data }], guard := none }) (v := ?vv3) (by kernel_rfl) rfl (by kernel_rfl) (by kernel_rfl) (by kernel_rfl) (fun _ _ _ h => h) (Or.inl ⟨by rfl, ?hy3⟩) (by assumption) ?tk3
      case hy3 => (intro w hSw; (try dsimp only at hSw); go_simp; (try with_reducible rfl))
      try simp only [Act.put, List.setIfInBounds_toArray, List.set_cons_zero, List.set_cons_succ]
      refine AnyL.take (i := 3) (oi := { dst := some 42, op := Go.Op.load 56 (Go.Operand.tmp 41), type := 56, pos := _, after := #[{ on := 2, ground := Go.Ground.data }], guard := none }) (v := ?vv4) (by kernel_rfl) rfl (by kernel_rfl) (by kernel_rfl) (by kernel_rfl) (fun _ _ _ h => h) (Or.inl ⟨by rfl, ?hy4⟩) (by assumption) ?tk4
      case hy4 => (intro w hSw; (try dsimp only at hSw); go_simp; (try with_reducible rfl))
      try simp only [Act.put, List.setIfInBounds_toArray, List.set_cons_zero, List.set_cons_succ]
      refine AnyL.take (i := 4) (oi := { dst := some 43, op := Go.Op.fieldAddr 43 (Go.Operand.tmp 6) 5, type := 0, pos := _, after := #[], guard := none }) (v := ?vv5) (by kernel_rfl) rfl (by kernel_rfl) (by kernel_rfl) (by kernel_rfl) (fun _ _ _ h => h) (Or.inl ⟨by rfl, ?hy5⟩) (by assumption) ?tk5
      case hy5 => (intro w hSw; (try dsimp only at hSw); go_simp; (try with_reducible rfl))
      try simp only [Act.put, List.setIfInBounds_toArray, List.set_cons_zero, List.set_cons_succ]
      refine AnyL.take (i := 5) (oi := { dst := some 44, op := Go.Op.load 40 (Go.Operand.tmp 43), type := 40, pos := _, after := #[{ on := 4, ground := Go.Ground.data }], guard := none }) (v := ?vv6) (by kernel_rfl) rfl (by kernel_rfl) (by kernel_rfl) (by kernel_rfl) (fun _ _ _ h => h) (Or.inl ⟨by rfl, ?hy6⟩) (by assumption) ?tk6
      case hy6 => (intro w hSw; (try dsimp only at hSw); go_simp; (try with_reducible rfl))
      try simp only [Act.put, List.setIfInBounds_toArray, List.set_cons_zero, List.set_cons_succ]
      refine AnyL.one (i := 6) (o := { dst := some 45, op := Go.Op.buildSlice 56 1 #[(0, Go.Operand.tmp 44)], type := 56, pos := _, after := #[{ on := 5, ground := Go.Ground.data }], guard := none }) (by kernel_rfl) rfl rfl (fun K' hK' => ?_)
      go_simp
      clear hHeld
      refine hK'.out _ _ (by refine ⟨?_, ?_, ?_, ?_, ?_, ?_, ?_, ?_, ?_, ?_⟩ <;> go_simp) (fun hHeld => ?_)
      clear hK' K'
      try simp only [Act.put, List.setIfInBounds_toArray, List.set_cons_zero, List.set_cons_succ]
      refine AnyL.one (i := 7) (o := { dst := some 46, op := Go.Op.call { callee := Go.Callee.builtin Go.Builtin.append, args := #[Go.Operand.tmp 42, Go.Operand.tmp 45], argTypes := #[56, 56] }, type := 56, pos := _, after := #[{ on := 3, ground := Go.Ground.data }, { on := 6, ground := Go.Ground.data }], guard := none }) (by kernel_rfl) rfl rfl (fun K' hK' => ?_)
      refine ite_take (by rfl) ?_
      refine wp_append_own_at (.tmp 42) (.tmp 45) 56 rfl base 40 i0_ (.agg #[.int .i64 0, .int .i64 0, .int .u32 0, .int .u64 0, .int .u64 0, .int .u64 0, .int .u64 0, .int .u64 0, .int .u64 0]) 9 72 Tryz.underlying56 hi_ hz0 hz1 hz2 rfl (by decide) (.slice pg gi cg) gi (msgCells LL) rfl (hown.alloc _) ⟨W7.heap.size, 0, none⟩ 1 1 (msg9 m) rfl rfl (cell_nine_new _ m _) (msg9_one m) (by unfold maxLen; omega) (by omega) (by simp; omega) ?_
      intro v' w3 hown' hgrow hblk
      obtain ⟨p', c', rfl⟩ := own_shape hown'
      have fz3 : ∀ o, w3.frozen? ⟨Gb, o, none⟩ = false := fun o => (pushed_frozen hgrow hGlt HR.out.1 o).trans (fz o)
      have k0 := hgrow.cell (a := ⟨Gb, i, none⟩) hHeld.1 HR.out.1
      have k1 := hgrow.cell (a := ⟨b6, 5, none⟩) hHeld.2.1 HR.out.2
      have k2 := hgrow.cell (a := ⟨b6, 6, none⟩) hHeld.2.2.1 HR.out.2
      have k3 := hgrow.cell (a := ⟨b6, 7, none⟩) hHeld.2.2.2.1 HR.out.2
      have k4 := hgrow.cell (a := ⟨b6, 8, none⟩) hHeld.2.2.2.2.1 HR.out.2
      have k5 := hgrow.cell (a := ⟨b6, 9, none⟩) hHeld.2.2.2.2.2.1 HR.out.2
      have k6 := hgrow.cell (a := ⟨b6, 10, none⟩) hHeld.2.2.2.2.2.2.1 HR.out.2
      have k7 := hgrow.cell (a := ⟨b6, 11, none⟩) hHeld.2.2.2.2.2.2.2.1 HR.out.2
      have k8 := hgrow.cell (a := ⟨b6, 12, none⟩) hHeld.2.2.2.2.2.2.2.2.1 HR.out.2
      have k9 := hgrow.cell (a := ⟨b6, 13, none⟩) hHeld.2.2.2.2.2.2.2.2.2 HR.out.2
      have HG := hideIt (And.intro hown' (And.intro hgrow hblk))
      clear hown' hgrow hblk
      clear hHeld
      refine hK'.out _ _ ⟨k0, k1, k2, k3, k4, k5, k6, k7, k8, k9⟩ (fun hHeld => ?_)
      clear hK' K'
      try simp only [Act.put, List.setIfInBounds_toArray, List.set_cons_zero, List.set_cons_succ]
      refine AnyL.take (i := 8) (oi := { dst := some 47, op := Go.Op.indexAddr 57 (Go.Operand.tmp 2) (Go.Operand.tmp 39), type := 0, pos := _, after := #[{ on := 0, ground := Go.Ground.data }, { on := 0, ground := Go.Ground.phase }, { on := 1, ground := Go.Ground.phase }, { on := 2, ground := Go.Ground.phase }, { on := 3, ground := Go.Ground.phase }, { on := 4, ground := Go.Ground.phase }, { on := 5, ground := Go.Ground.phase }, { on := 6, ground := Go.Ground.phase }, { on := 7, ground := Go.Ground.phase }], guard := none }) (v := ?vv7) (by kernel_rfl) rfl (by kernel_rfl) (by kernel_rfl) (by kernel_rfl) (fun _ _ _ h => h) (Or.inl ⟨by rfl, ?hy7⟩) (by assumption) ?tk7
      case hy7 => (intro w hSw; (try dsimp only at hSw); go_simp; (try with_reducible rfl))
      try simp only [Act.put, List.setIfInBounds_toArray, List.set_cons_zero, List.set_cons_succ]
      refine AnyL.last (o := { dst := none, op := Go.Op.store 56 (Go.Operand.tmp 47) (Go.Operand.tmp 46), type := 0, pos := _, after := #[{ on := 8, ground := Go.Ground.data }, { on := 7, ground := Go.Ground.data }, { on := 7, ground := Go.Ground.chain }, { on := 0, ground := Go.Ground.phase }, { on := 1, ground := Go.Ground.phase }, { on := 2, ground := Go.Ground.phase }, { on := 3, ground := Go.Ground.phase }, { on := 4, ground := Go.Ground.phase }, { on := 5, ground := Go.Ground.phase }, { on := 6, ground := Go.Ground.phase }, { on := 7, ground := Go.Ground.phase }], guard := none }) (by kernel_rfl) rfl (by kernel_rfl) (fun K' hK' => ?_)
      go_simp
      clear hHeld
      refine hK'.out _ _ ?_
      clear hK' K'
      try simp only [Act.put, List.setIfInBounds_toArray, List.set_cons_zero, List.set_cons_succ]
      go_wp2
      go_meet
      case rel =>
        obtain ⟨ho, hg, hk'⟩ := HG.out
        rw [← HEG.out] at hg hk'
        obtain ⟨M', R', c', b', s', far, _⟩ := pushed P T7.mach T7.rows T7.c T7.b hbase (r := 16 + i) (by omega) (by rw [HLL.out, hLl.out]; exact ho) hg hk'
        rw [rowA_g] at M' R' c' b' s' far
        rw [rowsOf_pop HN.out.2.1] at R'
        have f := far b6 T7.hb T7.rc.lt (fun s hs e => T7.own s hs b6 e rfl)
        exact ⟨_, T7.rc.blk f.1, M', R', fun r hr q hq e => f.2 r hr (by rw [hq, e]), c', b', T7.hb⟩
    case rest =>
    clear T cg0 cs0 r0 r1 r4 m0 m1 m2 m3 m4 m5 m6 m7 m8 hrem eg es hne
    obtain ⟨V', T⟩ := hcut
    obtain ⟨n1, HN1⟩ : ∃ n1, Hid (gi + 1 = n1) := ⟨_, hideIt rfl⟩
    have g1 : upd g i (g i + 1) i = n1 := by rw [upd_same, HGI.out, HN1.out]
    have gle' : upd g i (g i + 1) i ≤ (S i).length := by rw [upd_same]; exact HN.out.1
    obtain ⟨pg', cg', eg⟩ := T.rows.shape (r := 16 + i) (by omega)
    rw [rows_len_g gle', g1] at eg
    have cg0 : wc.cell? ⟨Gb, i, none⟩ = some (.slice pg' n1 cg') := by have := T.rows.cell (16 + i) (by omega); rw [rowA_g, eg] at this; exact this
    obtain ⟨gs, cs', es, hgs, _, hnine⟩ := T.rows.nine (r := i) (by omega) (by rw [rowsOf_s _ _ hi, HLN.out]; omega)
    rw [rowsOf_s _ _ hi] at es hnine
    rw [HLN.out] at es
    have cs0 : wc.cell? ⟨Sb, i, none⟩ = some (.slice (some ⟨gs, 0, none⟩) ln cs') := by have := T.rows.cell i (by omega); rw [rowA_s hi, es] at this; exact this
    have h9 := hnine (g i) m HN.out.2.1
    rw [HGI.out] at h9
    obtain ⟨y0, y1, y2, y3, y4, y5, y6, y7, y8⟩ := h9
    obtain ⟨r0, r1, r4, m0, m1, m2, m3, m4, m5, m6, m7, m8⟩ := T.rc
    have hlnb : ln ≤ 700000 := by rw [← HLN.out]; omega
    have hw : wrap64 ((n1 : Int) - 1) = (gi : Int) := by rw [← HN1.out]; unfold wrap64; omega
    have q0 : (0 : Int) ≤ gi := by omega
    have q1 : (gi : Int) < (ln : Int) := by omega
    have hge := msg_eql m
    have hgd := guard40
    have fin : Hid (∀ w', TK n0 w0 w' B mb t (k + 4) ν' base Sb Gb mc (rowsOf S (upd g i (g i + 1))) V' b6 0 ((i % 4 : Nat) : Int) true m → LS n0 w0 w' B mb t (k + 4) ν' base Sb Gb mc S (takeG S g i) ∧ (¬ g i < (S i).length → Rws w' base Sb Gb V (rowsOf S g))) := hideIt (fun w' T' => by
      rw [takeG, if_pos HN.out.1]
      refine ⟨⟨T'.mach, HN.out.2.2, ⟨V', T'.rows⟩, T'.c, T'.b, ?_⟩, fun q => absurd HN.out.1 q⟩
      have h1 := T'.hb
      have h2 := T'.rc.lt
      omega)
    clear hnine g1 gle' eg es hlt gle hlk
    go_wp2_with fail
    go_quiet (fail)
    go_wp2
    go_ret
    exact ⟨rfl, i, ν', hi, EI.out, fin.out _ (T.drewN _)⟩
  · have T : TK n0 w0 wc B mb t (k + 4) ν' base Sb Gb mc (rowsOf S g) V b6 2 ((i % 4 : Nat) : Int) false m := T0
    have HN := hideIt (H.n.none hi hD)
    clear T0 HD hD
    obtain ⟨pg, cg, eg⟩ := T.rows.shape (r := 16 + i) (by omega)
    rw [rows_len_g gle] at eg
    obtain ⟨ps, cs, es⟩ := T.rows.shape (r := i) (by omega)
    rw [rows_len_s hi] at es
    have cg0 : wc.cell? ⟨Gb, i, none⟩ = some (.slice pg (g i) cg) := by have := T.rows.cell (16 + i) (by omega); rw [rowA_g, eg] at this; exact this
    have cs0 : wc.cell? ⟨Sb, i, none⟩ = some (.slice ps (S i).length cs) := by have := T.rows.cell i (by omega); rw [rowA_s hi, es] at this; exact this
    obtain ⟨gi, HGI⟩ : ∃ gi, Hid (g i = gi) := ⟨_, hideIt rfl⟩
    obtain ⟨ln, HLN⟩ : ∃ ln, Hid ((S i).length = ln) := ⟨_, hideIt rfl⟩
    rw [HGI.out] at cg0 eg
    rw [HLN.out] at cs0 es
    have hlt : gi = ln := by rw [← HGI.out, ← HLN.out]; exact HN.out.1
    have hne : ((gi : Int) == (ln : Int)) = true := by simp; omega
    have fin : Hid (∀ w', TK n0 w0 w' B mb t (k + 4) ν' base Sb Gb mc (rowsOf S g) V b6 2 ((i % 4 : Nat) : Int) false m → LS n0 w0 w' B mb t (k + 4) ν' base Sb Gb mc S (takeG S g i) ∧ (¬ g i < (S i).length → Rws w' base Sb Gb V (rowsOf S g))) := hideIt (fun w' T' => by
      have h0 := HN.out.1
      rw [takeG, if_neg (by omega)]
      refine ⟨⟨T'.mach, by rw [HN.out.2]; exact H.n, ⟨V, T'.rows⟩, T'.c, T'.b, ?_⟩, fun _ => T'.rows⟩
      have h1 := T'.hb
      have h2 := T'.rc.lt
      omega)
    clear gle hlt
    go_wp2_with fail
    refine hrem.mono ?_
    rintro e wc ⟨rfl, rfl⟩
    obtain ⟨r0, r1, r4, m0, m1, m2, m3, m4, m5, m6, m7, m8⟩ := T.rc
    go_wp2_with fail
    go_quiet (first | (go_at_call 27; exact Calls.quiet_of_same (to_any hi)) | fail)
    go_wp2_with fail
    go_quiet (fail)
    go_wp2
    go_ret
    exact ⟨rfl, i, ν', hi, EI.out, fin.out _ (T.drewN _)⟩
end Go.Proofs.Qxb6500877aGreatDoor
