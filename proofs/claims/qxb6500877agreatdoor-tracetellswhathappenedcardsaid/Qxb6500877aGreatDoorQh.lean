import Derived.Deep.WholeRow
import Derived.Deep.CutBlock
import Derived.Test.Qxb6500877aGreatDoorQh1
set_option linter.unusedVariables false
set_option linter.unusedSimpArgs false
namespace Go.Proofs.Qxb6500877aGreatDoor
open Go.RowKit

set_option maxRecDepth 20000 in
set_option maxHeartbeats 8000000 in
theorem snap_any {w : World} {B mb t k : Nat} {ν : Net} {τ : TSt} {σ : Sg} (M : Mach w B mb t k ν τ σ) :
    Calls Tryz.prog 22 #[.pointer (some ⟨B, 0, none⟩)] w fun e w' => ∃ (v : Value) (Q : Nat → Nat → List Nat) (l : List TmR), e = .returned v ∧ SInv σ.s Q 16 ∧ TmSorted τ.tm l ∧ SnapV w' w.heap.size v (mkSnap t ν σ Q l τ.nx) ∧ Below w.heap.size w w' := by
  have hz := zv61
  have hB := M.lt
  have hm := M.mlt
  have h2 := M.hB
  obtain ⟨⟨Q, HQ⟩, HLD⟩ := M.sch.2
  obtain ⟨ws, L, fr, f, HT, HI, hnw, hmb, htw⟩ := M.tim
  have HS := hideIt (pendT_sorted HI htw.wo)
  rw [htw.tm] at HS
  obtain ⟨S, HSS⟩ : ∃ S, Hid (S = mkSnap t ν σ Q (pendT ws L) τ.nx) := ⟨_, hideIt rfl⟩
  have HQ' := hideIt HQ
  have HW' := hideIt (And.intro HI htw)
  have HBW : Hid (∀ wr, Below w.heap.size w wr → WheelAt wr B ws) := hideIt (fun wr hb => HT.wh.mut (Mut.of_below (lo := 0) (hi := 0) hb hB) (by omega))
  have hbb : w.heap.size ≤ w.heap.size ∧ w.heap.size < w.heap.size + 1 ∧ w.heap.size + 1 < w.heap.size + 2 := ⟨by omega, by omega, by omega⟩
  have b1 : Below w.heap.size w (w.alloc (.cells zero61 61)) := one_alloc _ _
  have b2 : Below w.heap.size w ((w.alloc (.cells zero61 61)).alloc (.cells zero61 61)) := b1.trans ((one_alloc _ _).mono (by simp))
  have A0 : SA w ((w.alloc (.cells zero61 61)).alloc (.cells zero61 61)) B mb t k ν τ σ w.heap.size (w.heap.size + 1) (w.heap.size + 2) (fun j => False) S := by
    have hx := stx_new (w.alloc (.cells zero61 61)) (w.heap.size + 2) S
    rw [show (w.alloc (.cells zero61 61)).heap.size = w.heap.size + 1 by simp] at hx
    exact ⟨M.below b2, hx, ⟨zero61, ((one_alloc (w.alloc (.cells zero61 61)) _).block w.heap.size (by simp)).trans (heap_alloc_last w _), zero61_size⟩, b2, by simp⟩
  have hsz : (w.alloc (.cells zero61 61)).heap.size = w.heap.size + 1 := by simp
  generalize hW : (w.alloc (.cells zero61 61)).alloc (.cells zero61 61) = W at *
  clear HQ HLD HT HI hnw hmb htw b1 b2
  go_enter Tryz.func22, Tryz.ntmps22
  go_upto_region 2 with fail
  go_cut [] (fun wd => SA w wd B mb t k ν τ σ w.heap.size (w.heap.size + 1) (w.heap.size + 2) (fun j => j < 1) S)
  case first =>
    obtain ⟨z, hz0, _⟩ := A0.x.ex 0 (by omega)
    have fz := A0.x.fz
    have hcl := A0.m.clk
    go_wp2
    go_meet
    case rel =>
      have hv : SCell W (w.heap.size + 2) S 0 (.int .u64 (t : Int)) := by
        have : S.now = (t : Int) := by rw [HSS.out]; rfl
        rw [← this]; exact scell_now
      exact A0.put hbb hB hm (by omega) hv _ (fun i _ h => .inr (by omega))
  case rest =>
  clear A0 hW hsz hz
  have A := hcut
  clear hcut
  go_upto_block 0 with fail
  go_cut [] (fun wd => SA w wd B mb t k ν τ σ w.heap.size (w.heap.size + 1) (w.heap.size + 2) (fun j => j < 49) S)
  case first =>
    go_wp2_with fail
    go_loopg [14] 16 (fun g v wr => ∃ i : Nat, i + g = 16 ∧ v = .int .i64 (i : Int) ∧ SA w wr B mb t k ν τ σ w.heap.size (w.heap.size + 1) (w.heap.size + 2) (fun j => j < 1 + i * 3) S)
    case atStart => exact ⟨0, by omega, rfl, A⟩
    case round =>
      clear A
      obtain ⟨i, hi, rfl, A⟩ := hrel
      by_cases hi16 : i < 16
      · have i0 : (0 : Int) ≤ i := by omega
        have i1 : (i : Int) < 16 := by omega
        have hcall := task_any A.m.sch.1 hi16
        have HV : Hid (∀ wr : World, SCell wr (w.heap.size + 2) S (1 + i * 3) (.int .u8 (σ.s.tk i).st) ∧ SCell wr (w.heap.size + 2) S (1 + i * 3 + 1) (.int .i64 (σ.s.tk i).home) ∧ SCell wr (w.heap.size + 2) S (1 + i * 3 + 2) (.int .i64 (IntKind.i64.wrap (σ.s.tk i).band))) := hideIt (fun wr => by
          have : S.tk i = ((σ.s.tk i).st, (σ.s.tk i).home, IntKind.i64.wrap (σ.s.tk i).band) := by rw [HSS.out]; rfl
          have q := scell_task (w := wr) (base := w.heap.size + 2) (S := S) hi16
          rw [this] at q
          exact q)
        generalize (σ.s.tk i).st = st at *
        generalize (σ.s.tk i).home = ho at *
        generalize IntKind.i64.wrap (σ.s.tk i).band = ba at *
        go_wp2_with fail
        refine hcall.mono ?_
        rintro e w1 ⟨rfl, hb1⟩
        have A1 := A.grow A.b.size hb1
        clear A hcall hb1
        obtain ⟨z0, y0, _⟩ := A1.x.ex (1 + i * 3) (by omega)
        obtain ⟨z1, y1, _⟩ := A1.x.ex (1 + i * 3 + 1) (by omega)
        obtain ⟨z2, y2, _⟩ := A1.x.ex (1 + i * 3 + 2) (by omega)
        have fz := A1.x.fz
        go_wp2
        go_roundg (16 - (i + 1))
        case measure => omega
        case rel =>
          have A2 := A1.put hbb hB hm (by omega) (HV.out _).1 (fun j => j < 1 + i * 3 + 1) (fun i _ h => by omega)
          have A3 := A2.put hbb hB hm (by omega) (HV.out _).2.1 (fun j => j < 1 + i * 3 + 2) (fun i _ h => by omega)
          have A4 := A3.put hbb hB hm (by omega) (HV.out _).2.2 (fun j => j < 1 + (i + 1) * 3) (fun i _ h => by omega)
          exact ⟨i + 1, by omega, by go_num, A4⟩
      · have e : i = 16 := by omega
        subst e
        go_wp2
        go_meet
        case rel => exact A
  case rest =>
  clear A
  have A := hcut
  clear hcut
  go_upto_block 2 with fail
  go_cut [] (fun wd => SA w wd B mb t k ν τ σ w.heap.size (w.heap.size + 1) (w.heap.size + 2) (fun j => j < 89) S)
  case first =>
    go_wp2_with fail
    go_loopg [24] 4 (fun g v wr => ∃ c : Nat, c + g = 4 ∧ v = .int .i64 (c : Int) ∧ SA w wr B mb t k ν τ σ w.heap.size (w.heap.size + 1) (w.heap.size + 2) (fun j => j < 49 + c * 10) S)
    case atStart => exact ⟨0, by omega, rfl, A⟩
    case round =>
      clear A
      obtain ⟨c, hc, rfl, A⟩ := hrel
      by_cases hc4 : c < 4
      · have i0 : (0 : Int) ≤ c := by omega
        have i1 : (c : Int) < 4 := by omega
        have n1 : ¬ (w.heap.size + 1 = B) := by omega
        have n2 : ¬ (B = w.heap.size + 1) := by omega
        have HO : Hid (∀ wr, SchedAt wr B σ.s → Calls Tryz.prog 86 #[.pointer (some ⟨B, 6596, none⟩), .int .i64 (c : Int)] wr fun e w' => ∃ v, e = .returned v ∧ w'.ownsRow wr.heap.size 35 1 v (preQ (Q c) 4).length (idCells (preQ (Q c) 4)) ∧ Below wr.heap.size wr w') := hideIt (fun wr H => order_any H HQ'.out hc4)
        have HCE : Hid (∀ wr : World, Below w.heap.size w wr → CoreC wr B c σ) := hideIt (fun wr hb => (M.keep (Mut.of_below hb hB)).core hc4)
        have HVC : Hid (∀ wr : World, SCell wr (w.heap.size + 2) S (49 + c * 10) (.int .i64 (σ.s.cur c)) ∧ (∀ v, IdsAt wr (w.heap.size + 2) v (preQ (Q c) 4) → SCell wr (w.heap.size + 2) S (49 + c * 10 + 1) v) ∧ SCell wr (w.heap.size + 2) S (49 + c * 10 + 2) (.int .i64 (σ.s.ld c)) ∧ ∀ f, f < 7 → SCell wr (w.heap.size + 2) S (49 + c * 10 + (3 + f)) (.int .u64 (σ.st (c * 7 + f)))) := hideIt (fun wr => by
          have q := scell_core (w := wr) (base := w.heap.size + 2) (S := S) hc4
          rw [HSS.out] at q ⊢
          exact q)
        obtain ⟨cu, ECU⟩ : ∃ v, Hid (σ.s.cur c = v) := ⟨_, hideIt rfl⟩
        obtain ⟨ld, ELD⟩ : ∃ v, Hid (σ.s.ld c = v) := ⟨_, hideIt rfl⟩
        obtain ⟨s0, ES0⟩ : ∃ v, Hid (σ.st (c * 7) = v) := ⟨_, hideIt rfl⟩
        obtain ⟨s1, ES1⟩ : ∃ v, Hid (σ.st (c * 7 + 1) = v) := ⟨_, hideIt rfl⟩
        obtain ⟨s2, ES2⟩ : ∃ v, Hid (σ.st (c * 7 + 2) = v) := ⟨_, hideIt rfl⟩
        obtain ⟨s3, ES3⟩ : ∃ v, Hid (σ.st (c * 7 + 3) = v) := ⟨_, hideIt rfl⟩
        obtain ⟨s4, ES4⟩ : ∃ v, Hid (σ.st (c * 7 + 4) = v) := ⟨_, hideIt rfl⟩
        obtain ⟨s5, ES5⟩ : ∃ v, Hid (σ.st (c * 7 + 5) = v) := ⟨_, hideIt rfl⟩
        obtain ⟨s6, ES6⟩ : ∃ v, Hid (σ.st (c * 7 + 6) = v) := ⟨_, hideIt rfl⟩
        have HCC : Hid (∀ wr : World, Below w.heap.size w wr → wr.cell? ⟨B, 6716 + c, none⟩ = some (.int .i64 cu) ∧ wr.cell? ⟨B, 6720 + c, none⟩ = some (.int .i64 ld) ∧ wr.cell? ⟨B, 6724 + c * 7, none⟩ = some (.int .u64 s0) ∧ wr.cell? ⟨B, 6724 + c * 7 + 1, none⟩ = some (.int .u64 s1) ∧ wr.cell? ⟨B, 6724 + c * 7 + 2, none⟩ = some (.int .u64 s2) ∧ wr.cell? ⟨B, 6724 + c * 7 + 3, none⟩ = some (.int .u64 s3) ∧ wr.cell? ⟨B, 6724 + c * 7 + 4, none⟩ = some (.int .u64 s4) ∧ wr.cell? ⟨B, 6724 + c * 7 + 5, none⟩ = some (.int .u64 s5) ∧ wr.cell? ⟨B, 6724 + c * 7 + 6, none⟩ = some (.int .u64 s6)) := hideIt (fun wr hb => by
          obtain ⟨q0, q1, q2, q3, q4, q5, q6, q7, q8⟩ := HCE.out wr hb
          rw [ECU.out] at q0
          rw [ELD.out] at q1
          rw [ES0.out] at q2
          rw [ES1.out] at q3
          rw [ES2.out] at q4
          rw [ES3.out] at q5
          rw [ES4.out] at q6
          rw [ES5.out] at q7
          rw [ES6.out] at q8
          exact ⟨q0, q1, q2, q3, q4, q5, q6, q7, q8⟩)
        go_wp2_with fail
        refine wp_region_held_drew (S := (fun w' => w'.cell? ⟨B, 6716 + c, none⟩ = some (.int .i64 cu) ∧ w'.cell? ⟨B, 6720 + c, none⟩ = some (.int .i64 ld) ∧ w'.cell? ⟨B, 6724 + c * 7, none⟩ = some (.int .u64 s0) ∧ w'.cell? ⟨B, 6724 + c * 7 + 1, none⟩ = some (.int .u64 s1) ∧ w'.cell? ⟨B, 6724 + c * 7 + 2, none⟩ = some (.int .u64 s2) ∧ w'.cell? ⟨B, 6724 + c * 7 + 3, none⟩ = some (.int .u64 s3) ∧ w'.cell? ⟨B, 6724 + c * 7 + 4, none⟩ = some (.int .u64 s4) ∧ w'.cell? ⟨B, 6724 + c * 7 + 5, none⟩ = some (.int .u64 s5) ∧ w'.cell? ⟨B, 6724 + c * 7 + 6, none⟩ = some (.int .u64 s6))) (by kernel_rfl) (HCC.out _ A.drew.b) (fun hHeld => ?_)
        refine wpAnyH_take (i := 0) (oi := { dst := some 28, op := Go.Op.move (Go.Operand.tmp 5), type := 3, pos := _, after := #[], guard := none }) (v := ?vv1) rfl (by kernel_rfl) (by kernel_rfl) (by kernel_rfl) (fun _ _ _ h => h) (Or.inl ⟨by rfl, ?hy1⟩) (by assumption) ?tk1
        case hy1 => (intro w hSw; (try dsimp only at hSw); go_simp; (try with_reducible rfl))
        try simp only [Act.put, List.setIfInBounds_toArray, List.set_cons_zero, List.set_cons_succ]
        refine wpAnyH_take (i := 1) (oi := { dst := some 29, op := Go.Op.move (Go.Operand.tmp 0), type := 24, pos := _, after := #[], guard := none }) (v := ?vv2) rfl (by kernel_rfl) (by kernel_rfl) (by kernel_rfl) (fun _ _ _ h => h) (Or.inl ⟨by rfl, ?hy2⟩) (by assumption) ?tk2
        case hy2 => (intro w hSw; (try dsimp only at hSw); go_simp; (try with_reducible rfl))
        try simp only [Act.put, List.setIfInBounds_toArray, List.set_cons_zero, List.set_cons_succ]
        refine wpAnyH_take (i := 2) (oi := { dst := some 30, op := Go.Op.move (Go.Operand.tmp 5), type := 3, pos := _, after := #[], guard := none }) (v := ?vv3) rfl (by kernel_rfl) (by kernel_rfl) (by kernel_rfl) (fun _ _ _ h => h) (Or.inl ⟨by rfl, ?hy3⟩) (by assumption) ?tk3
        case hy3 => (intro w hSw; (try dsimp only at hSw); go_simp; (try with_reducible rfl))
        try simp only [Act.put, List.setIfInBounds_toArray, List.set_cons_zero, List.set_cons_succ]
        refine wpAnyH_take (i := 3) (oi := { dst := some 31, op := Go.Op.nilCheck (Go.Operand.tmp 29), type := 0, pos := _, after := #[{ on := 1, ground := Go.Ground.data }], guard := none }) (v := ?vv4) rfl (by kernel_rfl) (by kernel_rfl) (by kernel_rfl) (fun _ _ _ h => h) (Or.inl ⟨by rfl, ?hy4⟩) (by assumption) ?tk4
        case hy4 => (intro w hSw; (try dsimp only at hSw); go_simp; (try with_reducible rfl))
        try simp only [Act.put, List.setIfInBounds_toArray, List.set_cons_zero, List.set_cons_succ]
        refine wpAnyH_take (i := 4) (oi := { dst := some 32, op := Go.Op.fieldAddr 190 (Go.Operand.tmp 31) 3, type := 0, pos := _, after := #[{ on := 3, ground := Go.Ground.data }], guard := none }) (v := ?vv5) rfl (by kernel_rfl) (by kernel_rfl) (by kernel_rfl) (fun _ _ _ h => h) (Or.inl ⟨by rfl, ?hy5⟩) (by assumption) ?tk5
        case hy5 => (intro w hSw; (try dsimp only at hSw); go_simp; (try with_reducible rfl))
        try simp only [Act.put, List.setIfInBounds_toArray, List.set_cons_zero, List.set_cons_succ]
        refine wpAnyH_take (i := 5) (oi := { dst := some 33, op := Go.Op.fieldAddr 188 (Go.Operand.tmp 32) 2, type := 0, pos := _, after := #[{ on := 4, ground := Go.Ground.data }], guard := none }) (v := ?vv6) rfl (by kernel_rfl) (by kernel_rfl) (by kernel_rfl) (fun _ _ _ h => h) (Or.inl ⟨by rfl, ?hy6⟩) (by assumption) ?tk6
        case hy6 => (intro w hSw; (try dsimp only at hSw); go_simp; (try with_reducible rfl))
        try simp only [Act.put, List.setIfInBounds_toArray, List.set_cons_zero, List.set_cons_succ]
        refine wpAnyH_take (i := 6) (oi := { dst := some 34, op := Go.Op.indexAddr 185 (Go.Operand.tmp 33) (Go.Operand.tmp 30), type := 0, pos := _, after := #[{ on := 5, ground := Go.Ground.data }, { on := 2, ground := Go.Ground.data }], guard := none }) (v := ?vv7) rfl (by kernel_rfl) (by kernel_rfl) (by kernel_rfl) (fun _ _ _ h => h) (Or.inl ⟨by rfl, ?hy7⟩) (by assumption) ?tk7
        case hy7 => (intro w hSw; (try dsimp only at hSw); go_simp; (try with_reducible rfl))
        try simp only [Act.put, List.setIfInBounds_toArray, List.set_cons_zero, List.set_cons_succ]
        refine wpAnyH_take (i := 7) (oi := { dst := some 35, op := Go.Op.load 35 (Go.Operand.tmp 34), type := 35, pos := _, after := #[{ on := 6, ground := Go.Ground.data }], guard := none }) (v := ?vv8) rfl (by kernel_rfl) (by kernel_rfl) (by kernel_rfl) (fun _ _ _ h => h) (Or.inl ⟨by rfl, ?hy8⟩) (by assumption) ?tk8
        case hy8 => (intro w hSw; (try dsimp only at hSw); go_simp; (try with_reducible rfl))
        try simp only [Act.put, List.setIfInBounds_toArray, List.set_cons_zero, List.set_cons_succ]
        refine wpAnyH_take (i := 8) (oi := { dst := some 36, op := Go.Op.move (Go.Operand.tmp 0), type := 24, pos := _, after := #[], guard := none }) (v := ?vv9) rfl (by kernel_rfl) (by kernel_rfl) (by kernel_rfl) (fun _ _ _ h => h) (Or.inl ⟨by rfl, ?hy9⟩) (by assumption) ?tk9
        case hy9 => (intro w hSw; (try dsimp only at hSw); go_simp; (try with_reducible rfl))
        try simp only [Act.put, List.setIfInBounds_toArray, List.set_cons_zero, List.set_cons_succ]
        refine wpAnyH_take (i := 9) (oi := { dst := some 37, op := Go.Op.nilCheck (Go.Operand.tmp 36), type := 0, pos := _, after := #[{ on := 8, ground := Go.Ground.data }], guard := none }) (v := ?vv10) rfl (by kernel_rfl) (by kernel_rfl) (by kernel_rfl) (fun _ _ _ h => h) (Or.inl ⟨by rfl, ?hy10⟩) (by assumption) ?tk10
        case hy10 => (intro w hSw; (try dsimp only at hSw); go_simp; (try with_reducible rfl))
        try simp only [Act.put, List.setIfInBounds_toArray, List.set_cons_zero, List.set_cons_succ]
        refine wpAnyH_take (i := 10) (oi := { dst := some 38, op := Go.Op.fieldAddr 190 (Go.Operand.tmp 37) 3, type := 0, pos := _, after := #[{ on := 9, ground := Go.Ground.data }], guard := none }) (v := ?vv11) rfl (by kernel_rfl) (by kernel_rfl) (by kernel_rfl) (fun _ _ _ h => h) (Or.inl ⟨by rfl, ?hy11⟩) (by assumption) ?tk11
        case hy11 => (intro w hSw; (try dsimp only at hSw); go_simp; (try with_reducible rfl))
        try simp only [Act.put, List.setIfInBounds_toArray, List.set_cons_zero, List.set_cons_succ]
        refine wpAnyH_take (i := 11) (oi := { dst := some 39, op := Go.Op.move (Go.Operand.tmp 6), type := 34, pos := _, after := #[], guard := none }) (v := ?vv12) rfl (by kernel_rfl) (by kernel_rfl) (by kernel_rfl) (fun _ _ _ h => h) (Or.inl ⟨by rfl, ?hy12⟩) (by assumption) ?tk12
        case hy12 => (intro w hSw; (try dsimp only at hSw); go_simp; (try with_reducible rfl))
        try simp only [Act.put, List.setIfInBounds_toArray, List.set_cons_zero, List.set_cons_succ]
        refine wpAnyH_take (i := 13) (oi := { dst := some 41, op := Go.Op.move (Go.Operand.tmp 0), type := 24, pos := _, after := #[], guard := none }) (v := ?vv13) rfl (by kernel_rfl) (by kernel_rfl) (by kernel_rfl) (fun _ _ _ h => h) (Or.inl ⟨by rfl, ?hy13⟩) (by assumption) ?tk13
        case hy13 => (intro w hSw; (try dsimp only at hSw); go_simp; (try with_reducible rfl))
        try simp only [Act.put, List.setIfInBounds_toArray, List.set_cons_zero, List.set_cons_succ]
        refine wpAnyH_take (i := 14) (oi := { dst := some 42, op := Go.Op.move (Go.Operand.tmp 5), type := 3, pos := _, after := #[], guard := none }) (v := ?vv14) rfl (by kernel_rfl) (by kernel_rfl) (by kernel_rfl) (fun _ _ _ h => h) (Or.inl ⟨by rfl, ?hy14⟩) (by assumption) ?tk14
        case hy14 => (intro w hSw; (try dsimp only at hSw); go_simp; (try with_reducible rfl))
        try simp only [Act.put, List.setIfInBounds_toArray, List.set_cons_zero, List.set_cons_succ]
        refine wpAnyH_take (i := 15) (oi := { dst := some 43, op := Go.Op.nilCheck (Go.Operand.tmp 41), type := 0, pos := _, after := #[{ on := 13, ground := Go.Ground.data }], guard := none }) (v := ?vv15) rfl (by kernel_rfl) (by kernel_rfl) (by kernel_rfl) (fun _ _ _ h => h) (Or.inl ⟨by rfl, ?hy15⟩) (by assumption) ?tk15
        case hy15 => (intro w hSw; (try dsimp only at hSw); go_simp; (try with_reducible rfl))
        try simp only [Act.put, List.setIfInBounds_toArray, List.set_cons_zero, List.set_cons_succ]
        refine wpAnyH_take (i := 16) (oi := { dst := some 44, op := Go.Op.fieldAddr 190 (Go.Operand.tmp 43) 3, type := 0, pos := _, after := #[{ on := 15, ground := Go.Ground.data }], guard := none }) (v := ?vv16) rfl (by kernel_rfl) (by kernel_rfl) (by kernel_rfl) (fun _ _ _ h => h) (Or.inl ⟨by rfl, ?hy16⟩) (by assumption) ?tk16
        case hy16 => (intro w hSw; (try dsimp only at hSw); go_simp; (try with_reducible rfl))
        try simp only [Act.put, List.setIfInBounds_toArray, List.set_cons_zero, List.set_cons_succ]
        refine wpAnyH_take (i := 17) (oi := { dst := some 45, op := Go.Op.fieldAddr 188 (Go.Operand.tmp 44) 3, type := 0, pos := _, after := #[{ on := 16, ground := Go.Ground.data }], guard := none }) (v := ?vv17) rfl (by kernel_rfl) (by kernel_rfl) (by kernel_rfl) (fun _ _ _ h => h) (Or.inl ⟨by rfl, ?hy17⟩) (by assumption) ?tk17
        case hy17 => (intro w hSw; (try dsimp only at hSw); go_simp; (try with_reducible rfl))
        try simp only [Act.put, List.setIfInBounds_toArray, List.set_cons_zero, List.set_cons_succ]
        refine wpAnyH_take (i := 18) (oi := { dst := some 46, op := Go.Op.indexAddr 186 (Go.Operand.tmp 45) (Go.Operand.tmp 42), type := 0, pos := _, after := #[{ on := 17, ground := Go.Ground.data }, { on := 14, ground := Go.Ground.data }], guard := none }) (v := ?vv18) rfl (by kernel_rfl) (by kernel_rfl) (by kernel_rfl) (fun _ _ _ h => h) (Or.inl ⟨by rfl, ?hy18⟩) (by assumption) ?tk18
        case hy18 => (intro w hSw; (try dsimp only at hSw); go_simp; (try with_reducible rfl))
        try simp only [Act.put, List.setIfInBounds_toArray, List.set_cons_zero, List.set_cons_succ]
        refine wpAnyH_take (i := 19) (oi := { dst := some 47, op := Go.Op.load 3 (Go.Operand.tmp 46), type := 3, pos := _, after := #[{ on := 18, ground := Go.Ground.data }], guard := none }) (v := ?vv19) rfl (by kernel_rfl) (by kernel_rfl) (by kernel_rfl) (fun _ _ _ h => h) (Or.inl ⟨by rfl, ?hy19⟩) (by assumption) ?tk19
        case hy19 => (intro w hSw; (try dsimp only at hSw); go_simp; (try with_reducible rfl))
        try simp only [Act.put, List.setIfInBounds_toArray, List.set_cons_zero, List.set_cons_succ]
        refine wpAnyH_take (i := 20) (oi := { dst := some 48, op := Go.Op.move (Go.Operand.tmp 0), type := 24, pos := _, after := #[], guard := none }) (v := ?vv20) rfl (by kernel_rfl) (by kernel_rfl) (by kernel_rfl) (fun _ _ _ h => h) (Or.inl ⟨by rfl, ?hy20⟩) (by assumption) ?tk20
        case hy20 => (intro w hSw; (try dsimp only at hSw); go_simp; (try with_reducible rfl))
        try simp only [Act.put, List.setIfInBounds_toArray, List.set_cons_zero, List.set_cons_succ]
        refine wpAnyH_take (i := 21) (oi := { dst := some 49, op := Go.Op.move (Go.Operand.tmp 5), type := 3, pos := _, after := #[], guard := none }) (v := ?vv21) rfl (by kernel_rfl) (by kernel_rfl) (by kernel_rfl) (fun _ _ _ h => h) (Or.inl ⟨by rfl, ?hy21⟩) (by assumption) ?tk21
        case hy21 => (intro w hSw; (try dsimp only at hSw); go_simp; (try with_reducible rfl))
        try simp only [Act.put, List.setIfInBounds_toArray, List.set_cons_zero, List.set_cons_succ]
        refine wpAnyH_take (i := 22) (oi := { dst := some 50, op := Go.Op.nilCheck (Go.Operand.tmp 48), type := 0, pos := _, after := #[{ on := 20, ground := Go.Ground.data }], guard := none }) (v := ?vv22) rfl (by kernel_rfl) (by kernel_rfl) (by kernel_rfl) (fun _ _ _ h => h) (Or.inl ⟨by rfl, ?hy22⟩) (by assumption) ?tk22
        case hy22 => (intro w hSw; (try dsimp only at hSw); go_simp; (try with_reducible rfl))
        try simp only [Act.put, List.setIfInBounds_toArray, List.set_cons_zero, List.set_cons_succ]
        refine wpAnyH_take (i := 23) (oi := { dst := some 51, op := Go.Op.fieldAddr 190 (Go.Operand.tmp 50) 4, type := 0, pos := _, after := #[{ on := 22, ground := Go.Ground.data }], guard := none }) (v := ?vv23) rfl (by kernel_rfl) (by kernel_rfl) (by kernel_rfl) (fun _ _ _ h => h) (Or.inl ⟨by rfl, ?hy23⟩) (by assumption) ?tk23
        case hy23 => (intro w hSw; (try dsimp only at hSw); go_simp; (try with_reducible rfl))
        try simp only [Act.put, List.setIfInBounds_toArray, List.set_cons_zero, List.set_cons_succ]
        refine wpAnyH_take (i := 24) (oi := { dst := some 52, op := Go.Op.indexAddr 133 (Go.Operand.tmp 51) (Go.Operand.tmp 49), type := 0, pos := _, after := #[{ on := 23, ground := Go.Ground.data }, { on := 21, ground := Go.Ground.data }], guard := none }) (v := ?vv24) rfl (by kernel_rfl) (by kernel_rfl) (by kernel_rfl) (fun _ _ _ h => h) (Or.inl ⟨by rfl, ?hy24⟩) (by assumption) ?tk24
        case hy24 => (intro w hSw; (try dsimp only at hSw); go_simp; (try with_reducible rfl))
        try simp only [Act.put, List.setIfInBounds_toArray, List.set_cons_zero, List.set_cons_succ]
        refine wpAnyH_take (i := 25) (oi := { dst := some 53, op := Go.Op.load 52 (Go.Operand.tmp 52), type := 52, pos := _, after := #[{ on := 24, ground := Go.Ground.data }], guard := none }) (v := ?vv25) rfl (by kernel_rfl) (by kernel_rfl) (by kernel_rfl) (fun _ _ _ h => h) (Or.inl ⟨by rfl, ?hy25⟩) (by assumption) ?tk25
        case hy25 => (intro w hSw; (try dsimp only at hSw); go_simp; (try with_reducible rfl))
        try simp only [Act.put, List.setIfInBounds_toArray, List.set_cons_zero, List.set_cons_succ]
        refine wpAnyH_take (i := 27) (oi := { dst := some 55, op := Go.Op.fieldAddr 61 (Go.Operand.tmp 3) 2, type := 0, pos := _, after := #[], guard := none }) (v := ?vv26) rfl (by kernel_rfl) (by kernel_rfl) (by kernel_rfl) (fun _ _ _ h => h) (Or.inl ⟨by rfl, ?hy26⟩) (by assumption) ?tk26
        case hy26 => (intro w hSw; (try dsimp only at hSw); go_simp; (try with_reducible rfl))
        try simp only [Act.put, List.setIfInBounds_toArray, List.set_cons_zero, List.set_cons_succ]
        refine wpAnyH_ready (rs := [12]) (by kernel_rfl) (by simp) ?_
        refine AllReadyH.cons (o := { dst := some 40, op := Go.Op.call { callee := Go.Callee.value (Go.Operand.func 86), args := #[Go.Operand.tmp 38, Go.Operand.tmp 39], argTypes := #[188, 34] }, type := 50, pos := _, after := #[{ on := 10, ground := Go.Ground.data }, { on := 11, ground := Go.Ground.data }], guard := none }) rfl (fun K' hK' => ?_) AllReadyH.nil
        go_simp
        go_at_call 86
        refine (HO.out _ A.drew.m.sch.1).mono ?_
        rintro e w1 ⟨v, rfl, hown, hb1⟩
        have A1 := A.drew.grow A.drew.b.size hb1
        have HI0 := hideIt ((ids_own hown).wide (base' := w.heap.size + 2) A.drew.s)
        obtain ⟨p, cp, rfl⟩ := HI0.out.shape
        clear hown hb1 A
        obtain ⟨z0, y0, _⟩ := A1.x.ex (49 + c * 10) (by omega)
        obtain ⟨z1, y1, _⟩ := A1.x.ex (49 + c * 10 + 1) (by omega)
        obtain ⟨z2, y2, _⟩ := A1.x.ex (49 + c * 10 + 2) (by omega)
        obtain ⟨z3, y3, _⟩ := A1.x.ex (49 + c * 10 + 3) (by omega)
        obtain ⟨z4, y4, _⟩ := A1.x.ex (49 + c * 10 + 4) (by omega)
        obtain ⟨z5, y5, _⟩ := A1.x.ex (49 + c * 10 + 5) (by omega)
        obtain ⟨z6, y6, _⟩ := A1.x.ex (49 + c * 10 + 6) (by omega)
        obtain ⟨z7, y7, _⟩ := A1.x.ex (49 + c * 10 + 7) (by omega)
        obtain ⟨z8, y8, _⟩ := A1.x.ex (49 + c * 10 + 8) (by omega)
        obtain ⟨z9, y9, _⟩ := A1.x.ex (49 + c * 10 + 9) (by omega)
        have fz := A1.x.fz
        have cc := HCC.out _ A1.b
        obtain ⟨k0, k1, k2, k3, k4, k5, k6, k7, k8⟩ := cc
        clear hHeld
        refine hK'.out _ _ ⟨k0, k1, k2, k3, k4, k5, k6, k7, k8⟩ (fun hHeld => ?_)
        clear hK' K'
        try simp only [Act.put, List.setIfInBounds_toArray, List.set_cons_zero, List.set_cons_succ]
        refine wpAnyH_take (i := 26) (oi := { dst := some 54, op := Go.Op.build 54 #[(0, Go.Operand.tmp 35), (1, Go.Operand.tmp 40), (2, Go.Operand.tmp 47), (3, Go.Operand.tmp 53)], type := 54, pos := _, after := #[{ on := 7, ground := Go.Ground.data }, { on := 12, ground := Go.Ground.data }, { on := 19, ground := Go.Ground.data }, { on := 25, ground := Go.Ground.data }], guard := none }) (v := ?vv27) rfl (by kernel_rfl) (by kernel_rfl) (by kernel_rfl) (fun _ _ _ h => h) (Or.inl ⟨by rfl, ?hy27⟩) (by assumption) ?tk27
        case hy27 => (intro w hSw; (try dsimp only at hSw); go_simp; (try with_reducible rfl))
        try simp only [Act.put, List.setIfInBounds_toArray, List.set_cons_zero, List.set_cons_succ]
        refine wpAnyH_take (i := 28) (oi := { dst := some 56, op := Go.Op.indexAddr 55 (Go.Operand.tmp 55) (Go.Operand.tmp 28), type := 0, pos := _, after := #[{ on := 27, ground := Go.Ground.data }, { on := 0, ground := Go.Ground.data }, { on := 0, ground := Go.Ground.phase }, { on := 1, ground := Go.Ground.phase }, { on := 2, ground := Go.Ground.phase }, { on := 3, ground := Go.Ground.phase }, { on := 4, ground := Go.Ground.phase }, { on := 5, ground := Go.Ground.phase }, { on := 6, ground := Go.Ground.phase }, { on := 7, ground := Go.Ground.phase }, { on := 8, ground := Go.Ground.phase }, { on := 9, ground := Go.Ground.phase }, { on := 10, ground := Go.Ground.phase }, { on := 11, ground := Go.Ground.phase }, { on := 12, ground := Go.Ground.phase }, { on := 13, ground := Go.Ground.phase }, { on := 14, ground := Go.Ground.phase }, { on := 15, ground := Go.Ground.phase }, { on := 16, ground := Go.Ground.phase }, { on := 17, ground := Go.Ground.phase }, { on := 18, ground := Go.Ground.phase }, { on := 19, ground := Go.Ground.phase }, { on := 20, ground := Go.Ground.phase }, { on := 21, ground := Go.Ground.phase }, { on := 22, ground := Go.Ground.phase }, { on := 23, ground := Go.Ground.phase }, { on := 24, ground := Go.Ground.phase }, { on := 25, ground := Go.Ground.phase }, { on := 26, ground := Go.Ground.phase }], guard := none }) (v := ?vv28) rfl (by kernel_rfl) (by kernel_rfl) (by kernel_rfl) (fun _ _ _ h => h) (Or.inl ⟨by rfl, ?hy28⟩) (by assumption) ?tk28
        case hy28 => (intro w hSw; (try dsimp only at hSw); go_simp; (try with_reducible rfl))
        try simp only [Act.put, List.setIfInBounds_toArray, List.set_cons_zero, List.set_cons_succ]
        refine wpAnyH_ready (rs := [29]) (by kernel_rfl) (by simp) ?_
        refine AllReadyH.cons (o := { dst := none, op := Go.Op.store 54 (Go.Operand.tmp 56) (Go.Operand.tmp 54), type := 0, pos := _, after := #[{ on := 28, ground := Go.Ground.data }, { on := 26, ground := Go.Ground.data }, { on := 12, ground := Go.Ground.chain }, { on := 0, ground := Go.Ground.phase }, { on := 1, ground := Go.Ground.phase }, { on := 2, ground := Go.Ground.phase }, { on := 3, ground := Go.Ground.phase }, { on := 4, ground := Go.Ground.phase }, { on := 5, ground := Go.Ground.phase }, { on := 6, ground := Go.Ground.phase }, { on := 7, ground := Go.Ground.phase }, { on := 8, ground := Go.Ground.phase }, { on := 9, ground := Go.Ground.phase }, { on := 10, ground := Go.Ground.phase }, { on := 11, ground := Go.Ground.phase }, { on := 12, ground := Go.Ground.phase }, { on := 13, ground := Go.Ground.phase }, { on := 14, ground := Go.Ground.phase }, { on := 15, ground := Go.Ground.phase }, { on := 16, ground := Go.Ground.phase }, { on := 17, ground := Go.Ground.phase }, { on := 18, ground := Go.Ground.phase }, { on := 19, ground := Go.Ground.phase }, { on := 20, ground := Go.Ground.phase }, { on := 21, ground := Go.Ground.phase }, { on := 22, ground := Go.Ground.phase }, { on := 23, ground := Go.Ground.phase }, { on := 24, ground := Go.Ground.phase }, { on := 25, ground := Go.Ground.phase }, { on := 26, ground := Go.Ground.phase }], guard := none }) rfl (fun K' hK' => ?_) AllReadyH.nil
        go_simp
        clear hHeld
        refine hK'.out _ _ (by refine ⟨?_, ?_, ?_, ?_, ?_, ?_, ?_, ?_, ?_⟩ <;> go_simp) (fun hHeld => ?_)
        clear hK' K'
        try simp only [Act.put, List.setIfInBounds_toArray, List.set_cons_zero, List.set_cons_succ]
        refine wpAnyH_done (by kernel_rfl) ?_ _
        go_wp2
        go_roundg (4 - (c + 1))
        case measure => omega
        case rel =>
          have V := HVC.out
          rw [ECU.out, ELD.out] at V
          have W0 := fun wr => ((V wr).2.2.2 0 (by omega))
          have W1 := fun wr => ((V wr).2.2.2 1 (by omega))
          have W2 := fun wr => ((V wr).2.2.2 2 (by omega))
          have W3 := fun wr => ((V wr).2.2.2 3 (by omega))
          have W4 := fun wr => ((V wr).2.2.2 4 (by omega))
          have W5 := fun wr => ((V wr).2.2.2 5 (by omega))
          have W6 := fun wr => ((V wr).2.2.2 6 (by omega))
          simp only [Nat.add_zero, Nat.reduceAdd] at W0 W1 W2 W3 W4 W5 W6
          rw [ES0.out] at W0
          rw [ES1.out] at W1
          rw [ES2.out] at W2
          rw [ES3.out] at W3
          rw [ES4.out] at W4
          rw [ES5.out] at W5
          rw [ES6.out] at W6
          have B0 := A1.put hbb hB hm (by omega) (V _).1 (fun j => j < 49 + c * 10 + 1) (fun i _ h => by omega)
          have B1 := B0.put hbb hB hm (by omega) ((V _).2.1 _ (HI0.out.keep (by simp) (fun q h1 h2 => heap_far _ _ (by show w.heap.size + 1 ≠ q; omega)))) (fun j => j < 49 + c * 10 + 2) (fun i _ h => by omega)
          have B2 := B1.put hbb hB hm (by omega) (V _).2.2.1 (fun j => j < 49 + c * 10 + 3) (fun i _ h => by omega)
          have B3 := B2.put hbb hB hm (by omega) (W0 _) (fun j => j < 49 + c * 10 + 4) (fun i _ h => by omega)
          have B4 := B3.put hbb hB hm (by omega) (W1 _) (fun j => j < 49 + c * 10 + 5) (fun i _ h => by omega)
          have B5 := B4.put hbb hB hm (by omega) (W2 _) (fun j => j < 49 + c * 10 + 6) (fun i _ h => by omega)
          have B6 := B5.put hbb hB hm (by omega) (W3 _) (fun j => j < 49 + c * 10 + 7) (fun i _ h => by omega)
          have B7 := B6.put hbb hB hm (by omega) (W4 _) (fun j => j < 49 + c * 10 + 8) (fun i _ h => by omega)
          have B8 := B7.put hbb hB hm (by omega) (W5 _) (fun j => j < 49 + c * 10 + 9) (fun i _ h => by omega)
          have B9 := B8.put hbb hB hm (by omega) (W6 _) (fun j => j < 49 + (c + 1) * 10) (fun i _ h => by omega)
          exact ⟨c + 1, by omega, by go_num, B9⟩
      · have e : c = 4 := by omega
        subst e
        go_wp2
        go_meet
        case rel => exact A
  case rest =>
  clear A
  have A := hcut
  clear hcut
  go_upto_block 4 with fail
  go_cut [] (fun wd => SA w wd B mb t k ν τ σ w.heap.size (w.heap.size + 1) (w.heap.size + 2) (fun j => j < 121) S)
  case first =>
    go_wp2_with fail
    go_loopg [58] 16 (fun g v wr => ∃ b : Nat, b + g = 16 ∧ v = .int .i64 (b : Int) ∧ SA w wr B mb t k ν τ σ w.heap.size (w.heap.size + 1) (w.heap.size + 2) (fun j => j < 89 + b ∨ (105 ≤ j ∧ j < 105 + b)) S)
    case atStart => exact ⟨0, by omega, rfl, A.mono (fun i _ h => by omega)⟩
    case round =>
      clear A
      obtain ⟨b, hb, rfl, A⟩ := hrel
      by_cases hb16 : b < 16
      · have i0 : (0 : Int) ≤ b := by omega
        have i1 : (b : Int) < 16 := by omega
        have n1 : ¬ (w.heap.size + 1 = B) := by omega
        have n2 : ¬ (B = w.heap.size + 1) := by omega
        obtain ⟨h, eh, hh⟩ := (A.m.net.2 b hb16).head
        obtain ⟨n, en, hn⟩ := (A.m.net.2 b hb16).n
        have hcall := list_any A.m.net.1 hb16 eh hh en hn
        have HVB : Hid (∀ wr : World, (∀ v, MsgsAt wr (w.heap.size + 2) v (boxL (ν.box b)) → SCell wr (w.heap.size + 2) S (89 + b) v) ∧ SCell wr (w.heap.size + 2) S (105 + b) (.int .u64 (ν.box b).acc)) := hideIt (fun wr => by
          have q := scell_box (w := wr) (base := w.heap.size + 2) (S := S) hb16
          rw [HSS.out] at q ⊢
          exact q)
        have HAC : Hid (∀ wr : World, Below w.heap.size w wr → wr.cell? ⟨B, 1939 + b * 291 + 290, none⟩ = some (.int .u64 (ν.box b).acc)) := hideIt (fun wr hw => ((M.keep (Mut.of_below hw hB)).net.1.ctl hb16).2.2)
        clear eh en
        go_wp2_with fail
        refine hcall.mono ?_
        rintro e w1 ⟨v, rfl, hms, hb1⟩
        have A1 := A.grow A.b.size hb1
        have HMS := hideIt (hms.wide (base' := w.heap.size + 2) A.s)
        obtain ⟨p, cp, rfl⟩ := HMS.out.shape
        obtain ⟨z0, y0, _⟩ := A1.x.ex (89 + b) (by omega)
        obtain ⟨z1, y1, _⟩ := A1.x.ex (105 + b) (by omega)
        have fz := A1.x.fz
        have hac := HAC.out _ A1.b
        clear A hcall hms hb1
        go_wp2
        go_roundg (16 - (b + 1))
        case measure => omega
        case rel =>
          have B0 := A1.put hbb hB hm (by omega) ((HVB.out _).1 _ HMS.out) (fun j => j < 89 + (b + 1) ∨ (105 ≤ j ∧ j < 105 + b)) (fun i _ h => by omega)
          have B1 := B0.put hbb hB hm (by omega) (HVB.out _).2 (fun j => j < 89 + (b + 1) ∨ (105 ≤ j ∧ j < 105 + (b + 1))) (fun i _ h => by omega)
          exact ⟨b + 1, by omega, by go_num, B1⟩
      · have e : b = 16 := by omega
        subst e
        go_wp2
        go_meet
        case rel => exact A.mono (fun i _ h => by omega)
  case rest =>
  clear A
  have A := hcut
  clear hcut
  have n1 : ¬ (w.heap.size + 1 = B) := by omega
  have n2 : ¬ (B = w.heap.size + 1) := by omega
  have HPL := hideIt (preL_live HW'.out.1 HW'.out.2.wo)
  have hcall := pendings_any (HBW.out _ A.b) HW'.out.1 A.m.tab h2 HPL.out.1 HPL.out.2
  have HVE : Hid (∀ wr : World, (∀ v, TmsAt wr (w.heap.size + 2) v (pendT ws L) → SCell wr (w.heap.size + 2) S 121 v) ∧ SCell wr (w.heap.size + 2) S 122 (.int .u64 τ.nx)) := hideIt (fun wr => by
    have q := scell_end (w := wr) (base := w.heap.size + 2) (S := S)
    rw [HSS.out] at q ⊢
    exact q)
  have HNX : Hid (∀ wr : World, Below w.heap.size w wr → wr.cell? ⟨B, 516, none⟩ = some (.int .u64 τ.nx)) := hideIt (fun wr hw => by
    have := (HBW.out wr hw).one.2.2.2.1
    rw [HW'.out.2.nx] at this
    exact this)
  go_upto_region 20 with fail
  go_cut [] (fun wd => SA w wd B mb t k ν τ σ w.heap.size (w.heap.size + 1) (w.heap.size + 2) (fun j => j < 122) S)
  case first =>
    go_wp2_with fail
    refine hcall.mono ?_
    rintro e w1 ⟨v, rfl, htm, hb1⟩
    have A1 := A.grow A.b.size hb1
    have HTM := hideIt (htm.wide (base' := w.heap.size + 2) A.s)
    obtain ⟨p, cp, rfl⟩ := HTM.out.shape
    obtain ⟨z0, y0, _⟩ := A1.x.ex 121 (by omega)
    have fz := A1.x.fz
    clear A hcall htm hb1
    go_wp2
    go_meet
    case rel => exact A1.put hbb hB hm (by omega) ((HVE.out _).1 _ HTM.out) _ (fun i _ h => by omega)
  case rest =>
  clear A hcall
  have A := hcut
  clear hcut
  go_upto_region 21 with fail
  go_cut [] (fun wd => SA w wd B mb t k ν τ σ w.heap.size (w.heap.size + 1) (w.heap.size + 2) (fun j => j < 123) S)
  case first =>
    have hnx := HNX.out _ A.b
    obtain ⟨z0, y0, _⟩ := A.x.ex 122 (by omega)
    have fz := A.x.fz
    go_wp2
    go_meet
    case rel => exact A.put hbb hB hm (by omega) (HVE.out _).2 _ (fun i _ h => by omega)
  case rest =>
  clear A
  have A := hcut
  clear hcut
  obtain ⟨cs, hcs, hcz⟩ := A.x.row
  obtain ⟨c2, hc2, hz2⟩ := A.r
  have HSC : Hid (∀ j u, cs[j]? = some u → SCell wc (w.heap.size + 2) S j u) := hideIt (fun j u hu => by
    have hj : j < 123 := by
      by_cases q : j < 123
      · exact q
      · rw [Array.getElem?_eq_none (by omega)] at hu; simp at hu
    obtain ⟨v, hv, hd⟩ := A.x.ex j hj
    rw [cell_of_row _ _ _ cs 61 (0, 0) hcs, hu] at hv
    simp only [Option.some.injEq] at hv
    rw [hv]
    exact hd hj)
  have hone : (cs.all fun x => x.oneCell') = true := by
    rw [Array.all_eq_true]
    intro i hi
    exact scell_one (HSC.out i _ (Array.getElem?_eq_getElem hi))
  have hl1 := run_loadVar_row (P := Tryz.prog) wc (w.heap.size + 1) 61 61 cs (0, 0) _ hcs Tryz.underlying61 rfl (by rw [hcz]; exact sz61)
  have hs1 := run_storeVar_row (P := Tryz.prog) wc w.heap.size 61 61 c2 cs hc2 (by rw [hcz]; exact sz61) (by omega) hone
  have HA := hideIt A
  clear A
  go_wp2_with (first | (refine wpList_load_row rfl (.tmp 3) 61 rfl ⟨w.heap.size + 1, 0, none⟩ (.agg cs) rfl hl1 ?_) | (refine wpList_store_row rfl (.tmp 2) (.tmp 94) 61 rfl ⟨w.heap.size, 0, none⟩ (.agg cs) rfl rfl hs1 ?_) | go_in)
  have A := HA.out
  have hrow : (wc.setRow w.heap.size cs).heap[w.heap.size]? = some (.cells cs 61) := setRow_row hc2
  have hfar : ∀ q, q ≠ w.heap.size → (wc.setRow w.heap.size cs).heap[q]? = wc.heap[q]? := fun q hq => setRow_far hq
  have hsz2 : (wc.setRow w.heap.size cs).heap.size = wc.heap.size := setRow_size _ _ _
  refine bodyPost_ret (v := .agg cs) (results_cell_row rfl _ _ w.heap.size 61 cs (0, 0) _ rfl hrow Tryz.underlying61 rfl (by rw [hcz]; exact sz61)) rfl ⟨.agg cs, Q, pendT ws L, rfl, HQ'.out, HS.out, ⟨cs, rfl, hcz, fun j u hu => ?_⟩, ?_⟩
  · rw [← HSS.out]
    exact ((HSC.out j u hu).keep (by omega) (fun q h1 h2 => hfar q (by omega))).wide (by omega)
  · have hb := A.b
    exact ⟨hb.os, hb.tape, hb.output, by have := hb.size; omega, fun q hq => (hfar q (by omega)).trans (hb.block q hq)⟩
end Go.Proofs.Qxb6500877aGreatDoor
