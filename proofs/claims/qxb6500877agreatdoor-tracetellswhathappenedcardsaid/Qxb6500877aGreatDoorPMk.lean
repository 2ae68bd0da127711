import Derived.Test.Qxb6500877aGreatDoorPMh
set_option linter.unusedVariables false
set_option linter.unusedSimpArgs false
namespace Go.Proofs.Qxb6500877aGreatDoor
open Go.RowKit



/-- The counters behind a delivery. -/
def delSg (σ : Sg) (m : MsgV) (z : Int) : Sg := if z = 0 then σ.inc (m.mt.toNat * 7 + 3) else σ
theorem nine_of (w : World) (m : MsgV) (t : TypeId) : Nine (w.alloc (.cells #[.int .i64 m.mf, .int .i64 m.mt, .int .u32 m.md, .int .u64 m.mq, .int .u64 m.ma, .int .u64 m.x0, .int .u64 m.x1, .int .u64 m.x2, .int .u64 m.x3] t)) w.heap.size m := by
  refine ⟨?_, ?_, ?_, ?_, ?_, ?_, ?_, ?_, ?_, fun o => ?_⟩ <;> simp
set_option maxHeartbeats 8000000 in
theorem deliver_m {w : World} {B mb t k : Nat} {ν : Net} {τ : TSt} {σ : Sg} (M : Mach w B mb t k ν τ σ) (v : Int) : Calls Tryz.prog 66 #[.pointer (some ⟨B, 0, none⟩), .int .i64 v] w fun e w' => ∃ (i : Nat) (m : MsgV) (z : Int) (ν' : Net), i < 16 ∧ v % 16 = i ∧ e = .returned (.tuple #[.int .i64 (i : Int), msgV m, .int .i64 z]) ∧ Done w w' B mb t k ν' τ (delSg σ m z) ∧ ((z = 0 ∧ (0 ≤ m.mt ∧ m.mt < 4) ∧ DelR ν i m true ν') ∨ (z = 2 ∧ DelR ν i m false ν')) := by
  have hB0 := M.lt
  have hM0 := M.mlt
  have h2 := M.hB
  obtain ⟨i, hi, ei⟩ : ∃ i : Nat, i < 16 ∧ v % 16 = (i : Int) := ⟨(v % 16).toNat, by omega, by omega⟩
  generalize hW : w.alloc (.cells #[.int .i64 0, .int .i64 0, .int .u32 0, .int .u64 0, .int .u64 0, .int .u64 0, .int .u64 0, .int .u64 0, .int .u64 0] 40) = W at *
  have hb0 : Below w.heap.size w W := by rw [← hW]; exact one_alloc _ _
  have hsz : W.heap.size = w.heap.size + 1 := by rw [← hW]; simp
  have N0 : Nine W w.heap.size msg0 := by rw [← hW]; exact nine_of w msg0 40
  have DW : Done w W B mb t k ν τ σ := (Done.refl M).below hb0
  have hf := foldBox_any v W
  rw [ei] at hf
  have EI := hideIt ei
  clear ei
  go_enter Tryz.func66, Tryz.ntmps66
  go_wp2_with fail
  refine hf.mono ?_
  rintro e W ⟨rfl, rfl⟩
  go_upto_region 2 with fail
  go_cut [8, 9] (fun a8 a9 wc => ∃ (b8 : Nat) (m : MsgV) (ok : Bool), a8 = .pointer (some ⟨b8, 0, none⟩) ∧ a9 = .bool ok ∧ Nine wc b8 m ∧ (0 ≤ m.mt ∧ m.mt < 4) ∧ Nine wc w.heap.size msg0 ∧ (∃ ν' : Net, Done w wc B mb t k ν' τ σ ∧ DelR ν i m ok ν') ∧ w.heap.size < b8)
  case first =>
    go_wp2_with fail
    refine (deliver_net DW.m hi).mono ?_
    rintro e w1 ⟨m, ok, ν', hm, rfl, D1, hR⟩
    have HR := hideIt hR
    clear hR
    have s1 := D1.f.size
    have N1 := N0.blk (D1.f.block w.heap.size (by omega) (by omega) (by omega))
    simp only [msgV]
    go_wp2
    go_meet
    case rel => exact ⟨_, m, ok, rfl, rfl, nine_of w1 m 40, hm, N1.blk ((one_alloc w1 _).block _ (by omega)), ⟨ν', (DW.trans D1).below (one_alloc _ _), HR.out⟩, by omega⟩
  case rest =>
    obtain ⟨b8, m, ok, rfl, rfl, N8, hm, NC, ⟨ν', D1, hR⟩, hb8⟩ := hcut
    have HR := hideIt hR
    clear hR
    clear N0 DW hb0 hf
    match ok with
    | false =>
      have HR0 : DelR ν i msg0 false ν' := by
        rcases HR.out with ⟨q1, q2, q3, q4⟩ | ⟨q1, _⟩
        · exact .inl ⟨q1, q2, q3, rfl⟩
        · simp at q1
      have HR0 := hideIt HR0
      go_wp2_with fail
      refine (refuse_any D1.m.snk).mono ?_
      rintro e wx ⟨rfl, hwx⟩
      rw [← hwx] at D1 NC
      clear hwx
      obtain ⟨g0, g1, g2, g3, g4, g5, g6, g7, g8, fz⟩ := NC
      go_wp2
      exact bodyPost_ret (v := .tuple #[.int .i64 (i : Int), msgV msg0, .int .i64 2]) (by simp [msgV, msg0, results, Tryz.results66, go_sem, g0, g1, g2, g3, g4, g5, g6, g7, g8]) rfl
        ⟨i, msg0, 2, ν', hi, EI.out, rfl, by rw [delSg, if_neg (by omega)]; exact (((((((((D1.fresh ⟨w.heap.size, 0, none⟩ (Nat.le_refl _) hB0 hM0 _).fresh ⟨w.heap.size, 1, none⟩ (Nat.le_refl _) hB0 hM0 _).fresh ⟨w.heap.size, 2, none⟩ (Nat.le_refl _) hB0 hM0 _).fresh ⟨w.heap.size, 3, none⟩ (Nat.le_refl _) hB0 hM0 _).fresh ⟨w.heap.size, 4, none⟩ (Nat.le_refl _) hB0 hM0 _).fresh ⟨w.heap.size, 5, none⟩ (Nat.le_refl _) hB0 hM0 _).fresh ⟨w.heap.size, 6, none⟩ (Nat.le_refl _) hB0 hM0 _).fresh ⟨w.heap.size, 7, none⟩ (Nat.le_refl _) hB0 hM0 _).fresh ⟨w.heap.size, 8, none⟩ (Nat.le_refl _) hB0 hM0 _), .inr ⟨rfl, HR0.out⟩⟩
    | true =>
      have HMT := hideIt hm
      obtain ⟨y, ey, hy⟩ : ∃ y : Nat, m.mt = y ∧ y < 4 := ⟨m.mt.toNat, by omega, by omega⟩
      obtain ⟨v1, E1, hv1⟩ := D1.m.cntf (f := 3) hy (by omega)
      have z1 : wc.cell? ⟨b8, 1, none⟩ = some (.int .i64 (y : Int)) := by rw [← ey]; exact N8.c1
      have fz := D1.m.frz
      have j0 : (0 : Int) ≤ y := by omega
      have j1 : (y : Int) < 4 := by omega
      have q1 : ¬ (b8 = B) := by omega
      have q2 : ¬ (B = b8) := by omega
      go_upto_region 5 with fail
      go_cut [] (fun wd => Done w wd B mb t k ν' τ (σ.inc (y * 7 + 3)) ∧ Nine wd b8 m ∧ Nine wd w.heap.size msg0)
      case first =>
        refine wp_region_held_drew (S := (fun _ => True)) (by kernel_rfl) trivial (fun hHeld => ?_)
        refine wpAnyH_take (i := 0) (oi := { dst := some 26, op := Go.Op.move (Go.Operand.tmp 0), type := 24, pos := _, after := #[], guard := none }) (v := ?vv1) rfl (by kernel_rfl) (by kernel_rfl) (by kernel_rfl) (fun _ _ _ h => h) (Or.inl ⟨by rfl, ?hy1⟩) (by assumption) ?tk1
        case hy1 => (intro w hSw; (try dsimp only at hSw); go_simp; (try with_reducible rfl))
        try simp only [Act.put, List.setIfInBounds_toArray, List.set_cons_zero, List.set_cons_succ]
        refine wpAnyH_take (i := 1) (oi := { dst := some 27, op := Go.Op.fieldAddr 40 (Go.Operand.tmp 8) 1, type := 0, pos := _, after := #[], guard := none }) (v := ?vv2) rfl (by kernel_rfl) (by kernel_rfl) (by kernel_rfl) (fun _ _ _ h => h) (Or.inl ⟨by rfl, ?hy2⟩) (by assumption) ?tk2
        case hy2 => (intro w hSw; (try dsimp only at hSw); go_simp; (try with_reducible rfl))
        try simp only [Act.put, List.setIfInBounds_toArray, List.set_cons_zero, List.set_cons_succ]
        refine wpAnyH_take (i := 3) (oi := { dst := some 29, op := Go.Op.nilCheck (Go.Operand.tmp 26), type := 0, pos := _, after := #[{ on := 0, ground := Go.Ground.data }], guard := none }) (v := ?vv3) rfl (by kernel_rfl) (by kernel_rfl) (by kernel_rfl) (fun _ _ _ h => h) (Or.inl ⟨by rfl, ?hy3⟩) (by assumption) ?tk3
        case hy3 => (intro w hSw; (try dsimp only at hSw); go_simp; (try with_reducible rfl))
        try simp only [Act.put, List.setIfInBounds_toArray, List.set_cons_zero, List.set_cons_succ]
        refine wpAnyH_take (i := 4) (oi := { dst := some 30, op := Go.Op.fieldAddr 190 (Go.Operand.tmp 29) 4, type := 0, pos := _, after := #[{ on := 3, ground := Go.Ground.data }], guard := none }) (v := ?vv4) rfl (by kernel_rfl) (by kernel_rfl) (by kernel_rfl) (fun _ _ _ h => h) (Or.inl ⟨by rfl, ?hy4⟩) (by assumption) ?tk4
        case hy4 => (intro w hSw; (try dsimp only at hSw); go_simp; (try with_reducible rfl))
        try simp only [Act.put, List.setIfInBounds_toArray, List.set_cons_zero, List.set_cons_succ]
        refine wpAnyH_take (i := 9) (oi := { dst := some 35, op := Go.Op.nilCheck (Go.Operand.tmp 26), type := 0, pos := _, after := #[{ on := 0, ground := Go.Ground.data }], guard := none }) (v := ?vv5) rfl (by kernel_rfl) (by kernel_rfl) (by kernel_rfl) (fun _ _ _ h => h) (Or.inl ⟨by rfl, ?hy5⟩) (by assumption) ?tk5
        case hy5 => (intro w hSw; (try dsimp only at hSw); go_simp; (try with_reducible rfl))
        try simp only [Act.put, List.setIfInBounds_toArray, List.set_cons_zero, List.set_cons_succ]
        refine wpAnyH_take (i := 10) (oi := { dst := some 36, op := Go.Op.fieldAddr 190 (Go.Operand.tmp 35) 4, type := 0, pos := _, after := #[{ on := 9, ground := Go.Ground.data }], guard := none }) (v := ?vv6) rfl (by kernel_rfl) (by kernel_rfl) (by kernel_rfl) (fun _ _ _ h => h) (Or.inl ⟨by rfl, ?hy6⟩) (by assumption) ?tk6
        case hy6 => (intro w hSw; (try dsimp only at hSw); go_simp; (try with_reducible rfl))
        try simp only [Act.put, List.setIfInBounds_toArray, List.set_cons_zero, List.set_cons_succ]
        refine wpAnyH_ready (rs := [2]) (by kernel_rfl) (by simp) ?_
        refine AllReadyH.cons (o := { dst := some 28, op := Go.Op.load 34 (Go.Operand.tmp 27), type := 34, pos := _, after := #[{ on := 1, ground := Go.Ground.data }], guard := none }) rfl (fun K' hK' => ?_) AllReadyH.nil
        go_simp
        clear hHeld
        refine hK'.out _ _ trivial (fun hHeld => ?_)
        clear hK' K'
        try simp only [Act.put, List.setIfInBounds_toArray, List.set_cons_zero, List.set_cons_succ]
        refine wpAnyH_take (i := 5) (oi := { dst := some 31, op := Go.Op.indexAddr 133 (Go.Operand.tmp 30) (Go.Operand.tmp 28), type := 0, pos := _, after := #[{ on := 4, ground := Go.Ground.data }, { on := 2, ground := Go.Ground.data }], guard := none }) (v := ?vv7) rfl (by kernel_rfl) (by kernel_rfl) (by kernel_rfl) (fun _ _ _ h => h) (Or.inl ⟨by rfl, ?hy7⟩) (by assumption) ?tk7
        case hy7 => (intro w hSw; (try dsimp only at hSw); go_simp; (try with_reducible rfl))
        try simp only [Act.put, List.setIfInBounds_toArray, List.set_cons_zero, List.set_cons_succ]
        refine wpAnyH_take (i := 6) (oi := { dst := some 32, op := Go.Op.fieldAddr 52 (Go.Operand.tmp 31) 3, type := 0, pos := _, after := #[{ on := 5, ground := Go.Ground.data }], guard := none }) (v := ?vv8) rfl (by kernel_rfl) (by kernel_rfl) (by kernel_rfl) (fun _ _ _ h => h) (Or.inl ⟨by rfl, ?hy8⟩) (by assumption) ?tk8
        case hy8 => (intro w hSw; (try dsimp only at hSw); go_simp; (try with_reducible rfl))
        try simp only [Act.put, List.setIfInBounds_toArray, List.set_cons_zero, List.set_cons_succ]
        refine wpAnyH_ready (rs := [7]) (by kernel_rfl) (by simp) ?_
        refine AllReadyH.cons (o := { dst := some 33, op := Go.Op.load 28 (Go.Operand.tmp 32), type := 28, pos := _, after := #[{ on := 6, ground := Go.Ground.data }], guard := none }) rfl (fun K' hK' => ?_) AllReadyH.nil
        go_simp
        clear hHeld
        refine hK'.out _ _ trivial (fun hHeld => ?_)
        clear hK' K'
        try simp only [Act.put, List.setIfInBounds_toArray, List.set_cons_zero, List.set_cons_succ]
        refine wpAnyH_take (i := 8) (oi := { dst := some 34, op := Go.Op.binOp Go.BinOp.add 28 (Go.Operand.tmp 33) (Go.Operand.const (Go.Value.int Go.IntKind.u64 1)) 28, type := 28, pos := _, after := #[{ on := 7, ground := Go.Ground.data }], guard := none }) (v := ?vv9) rfl (by kernel_rfl) (by kernel_rfl) (by kernel_rfl) (fun _ _ _ h => h) (Or.inl ⟨by rfl, ?hy9⟩) (by assumption) ?tk9
        case hy9 => (intro w hSw; (try dsimp only at hSw); go_simp; (try with_reducible rfl))
        try simp only [Act.put, List.setIfInBounds_toArray, List.set_cons_zero, List.set_cons_succ]
        refine wpAnyH_take (i := 11) (oi := { dst := some 37, op := Go.Op.indexAddr 133 (Go.Operand.tmp 36) (Go.Operand.tmp 28), type := 0, pos := _, after := #[{ on := 10, ground := Go.Ground.data }, { on := 2, ground := Go.Ground.data }, { on := 0, ground := Go.Ground.phase }, { on := 1, ground := Go.Ground.phase }, { on := 2, ground := Go.Ground.phase }, { on := 3, ground := Go.Ground.phase }, { on := 4, ground := Go.Ground.phase }, { on := 5, ground := Go.Ground.phase }, { on := 6, ground := Go.Ground.phase }, { on := 7, ground := Go.Ground.phase }, { on := 8, ground := Go.Ground.phase }], guard := none }) (v := ?vv10) rfl (by kernel_rfl) (by kernel_rfl) (by kernel_rfl) (fun _ _ _ h => h) (Or.inl ⟨by rfl, ?hy10⟩) (by assumption) ?tk10
        case hy10 => (intro w hSw; (try dsimp only at hSw); go_simp; (try with_reducible rfl))
        try simp only [Act.put, List.setIfInBounds_toArray, List.set_cons_zero, List.set_cons_succ]
        refine wpAnyH_take (i := 12) (oi := { dst := some 38, op := Go.Op.fieldAddr 52 (Go.Operand.tmp 37) 3, type := 0, pos := _, after := #[{ on := 11, ground := Go.Ground.data }, { on := 0, ground := Go.Ground.phase }, { on := 1, ground := Go.Ground.phase }, { on := 2, ground := Go.Ground.phase }, { on := 3, ground := Go.Ground.phase }, { on := 4, ground := Go.Ground.phase }, { on := 5, ground := Go.Ground.phase }, { on := 6, ground := Go.Ground.phase }, { on := 7, ground := Go.Ground.phase }, { on := 8, ground := Go.Ground.phase }], guard := none }) (v := ?vv11) rfl (by kernel_rfl) (by kernel_rfl) (by kernel_rfl) (fun _ _ _ h => h) (Or.inl ⟨by rfl, ?hy11⟩) (by assumption) ?tk11
        case hy11 => (intro w hSw; (try dsimp only at hSw); go_simp; (try with_reducible rfl))
        try simp only [Act.put, List.setIfInBounds_toArray, List.set_cons_zero, List.set_cons_succ]
        refine wpAnyH_ready (rs := [13]) (by kernel_rfl) (by simp) ?_
        refine AllReadyH.cons (o := { dst := none, op := Go.Op.store 28 (Go.Operand.tmp 38) (Go.Operand.tmp 34), type := 0, pos := _, after := #[{ on := 12, ground := Go.Ground.data }, { on := 8, ground := Go.Ground.data }, { on := 0, ground := Go.Ground.phase }, { on := 1, ground := Go.Ground.phase }, { on := 2, ground := Go.Ground.phase }, { on := 3, ground := Go.Ground.phase }, { on := 4, ground := Go.Ground.phase }, { on := 5, ground := Go.Ground.phase }, { on := 6, ground := Go.Ground.phase }, { on := 7, ground := Go.Ground.phase }, { on := 8, ground := Go.Ground.phase }], guard := none }) rfl (fun K' hK' => ?_) AllReadyH.nil
        go_simp
        clear hHeld
        refine hK'.out _ _ trivial (fun hHeld => ?_)
        clear hK' K'
        try simp only [Act.put, List.setIfInBounds_toArray, List.set_cons_zero, List.set_cons_succ]
        refine wpAnyH_done (by kernel_rfl) ?_ _
        go_wp2
        go_meet
        case rel =>
          have MM : Mut B 6724 6752 wc (wc.setCell ⟨B, 6724 + y * 7 + 3, none⟩ (.int .u64 (IntKind.u64.wrap (v1 + 1)))).drew := ((Mut.refl B 6724 6752 wc).setCell (by omega) (by omega) _).drew
          exact ⟨(D1.statf hy (f := 3) (by omega) E1).drew, N8.mut MM q1, NC.mut MM (by omega)⟩
      case rest =>
      clear D1 NC N8 hv1 z1 fz
      obtain ⟨D1, N8, NC⟩ := hcut
      go_wp2_with fail
      refine (noteMsg_any D1.m.snk).mono ?_
      rintro e wx ⟨rfl, hwx⟩
      rw [← hwx] at D1 NC N8
      clear hwx
      obtain ⟨g0, g1, g2, g3, g4, g5, g6, g7, g8, gf⟩ := NC
      obtain ⟨z0, z1, z2, z3, z4, z5, z6, z7, z8, zf⟩ := N8
      have n1 : ¬ (b8 = w.heap.size) := by omega
      have n2 : ¬ (w.heap.size = b8) := by omega
      go_wp2_with fail
      refine wp_region_held_drew (S := (fun _ => True)) (by kernel_rfl) trivial (fun hHeld => ?_)
      refine wpAnyH_take (i := 0) (oi := { dst := some 41, op := Go.Op.move (Go.Operand.tmp 7), type := 65, pos := _, after := #[], guard := none }) (v := ?vv12) rfl (by kernel_rfl) (by kernel_rfl) (by kernel_rfl) (fun _ _ _ h => h) (Or.inl ⟨by rfl, ?hy12⟩) (by assumption) ?tk12
      case hy12 => (intro w hSw; (try dsimp only at hSw); go_simp; (try with_reducible rfl))
      try simp only [Act.put, List.setIfInBounds_toArray, List.set_cons_zero, List.set_cons_succ]
      refine wpAnyH_take (i := 2) (oi := { dst := some 4, op := Go.Op.assign (Go.Operand.tmp 41), type := 65, pos := _, after := #[{ on := 0, ground := Go.Ground.data }, { on := 0, ground := Go.Ground.phase }, { on := 1, ground := Go.Ground.textOnly Go.Departure.lateStores }], guard := none }) (v := ?vv13) rfl (by kernel_rfl) (by kernel_rfl) (by kernel_rfl) (fun _ _ _ h => h) (Or.inl ⟨by rfl, ?hy13⟩) (by assumption) ?tk13
      case hy13 => (intro w hSw; (try dsimp only at hSw); go_simp; (try with_reducible rfl))
      try simp only [Act.put, List.setIfInBounds_toArray, List.set_cons_zero, List.set_cons_succ]
      refine wpAnyH_ready (rs := [1]) (by kernel_rfl) (by simp) ?_
      refine AllReadyH.cons (o := { dst := some 42, op := Go.Op.load 40 (Go.Operand.tmp 8), type := 40, pos := _, after := #[{ on := 2, ground := Go.Ground.gcOnly Go.Departure.lateStores }], guard := none }) rfl (fun K' hK' => ?_) AllReadyH.nil
      go_simp
      clear hHeld
      refine hK'.out _ _ trivial (fun hHeld => ?_)
      clear hK' K'
      try simp only [Act.put, List.setIfInBounds_toArray, List.set_cons_zero, List.set_cons_succ]
      refine wpAnyH_ready (rs := [3]) (by kernel_rfl) (by simp) ?_
      refine AllReadyH.cons (o := { dst := none, op := Go.Op.store 40 (Go.Operand.tmp 5) (Go.Operand.tmp 42), type := 0, pos := _, after := #[{ on := 1, ground := Go.Ground.data }, { on := 2, ground := Go.Ground.chain }, { on := 0, ground := Go.Ground.phase }, { on := 1, ground := Go.Ground.phase }, { on := 2, ground := Go.Ground.phase }], guard := none }) rfl (fun K' hK' => ?_) AllReadyH.nil
      go_simp
      clear hHeld
      refine hK'.out _ _ trivial (fun hHeld => ?_)
      clear hK' K'
      try simp only [Act.put, List.setIfInBounds_toArray, List.set_cons_zero, List.set_cons_succ]
      refine wpAnyH_take (i := 4) (oi := { dst := some 6, op := Go.Op.assign (Go.Operand.const (Go.Value.int Go.IntKind.i64 0)), type := 33, pos := _, after := #[{ on := 3, ground := Go.Ground.chain }, { on := 0, ground := Go.Ground.phase }, { on := 1, ground := Go.Ground.phase }, { on := 2, ground := Go.Ground.phase }, { on := 3, ground := Go.Ground.phase }], guard := none }) (v := ?vv14) rfl (by kernel_rfl) (by kernel_rfl) (by kernel_rfl) (fun _ _ _ h => h) (Or.inl ⟨by rfl, ?hy14⟩) (by assumption) ?tk14
      case hy14 => (intro w hSw; (try dsimp only at hSw); go_simp; (try with_reducible rfl))
      try simp only [Act.put, List.setIfInBounds_toArray, List.set_cons_zero, List.set_cons_succ]
      refine wpAnyH_done (by kernel_rfl) ?_ _
      go_wp2
      exact bodyPost_ret (v := .tuple #[.int .i64 (i : Int), msgV m, .int .i64 0]) (by simp [msgV, results, Tryz.results66, go_sem, ey, g0, g1, g2, g3, g4, g5, g6, g7, g8]) rfl
        ⟨i, m, 0, ν', hi, EI.out, rfl, by rw [delSg, if_pos rfl, ey, Int.toNat_natCast]; exact (((((((((D1.fresh ⟨w.heap.size, 0, none⟩ (Nat.le_refl _) hB0 hM0 _).fresh ⟨w.heap.size, 1, none⟩ (Nat.le_refl _) hB0 hM0 _).fresh ⟨w.heap.size, 2, none⟩ (Nat.le_refl _) hB0 hM0 _).fresh ⟨w.heap.size, 3, none⟩ (Nat.le_refl _) hB0 hM0 _).fresh ⟨w.heap.size, 4, none⟩ (Nat.le_refl _) hB0 hM0 _).fresh ⟨w.heap.size, 5, none⟩ (Nat.le_refl _) hB0 hM0 _).fresh ⟨w.heap.size, 6, none⟩ (Nat.le_refl _) hB0 hM0 _).fresh ⟨w.heap.size, 7, none⟩ (Nat.le_refl _) hB0 hM0 _).fresh ⟨w.heap.size, 8, none⟩ (Nat.le_refl _) hB0 hM0 _).drew, .inl ⟨rfl, HMT.out, HR.out⟩⟩

end Go.Proofs.Qxb6500877aGreatDoor
