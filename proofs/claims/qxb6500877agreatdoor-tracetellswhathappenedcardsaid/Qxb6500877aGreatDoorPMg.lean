import Derived.Test.Qxb6500877aGreatDoorPMf
set_option linter.unusedVariables false
set_option linter.unusedSimpArgs false
namespace Go.Proofs.Qxb6500877aGreatDoor
open Go.RowKit



/-- A timer and a code are returned. -/
def TimerRes (e : Ending) : Prop := ∃ a c d q z : Int, e = .returned (.tuple #[timerV a c d q, .int .i64 z])
theorem timerRes_mk (a c d q z : Int) : TimerRes (.returned (.tuple #[timerV a c d q, .int .i64 z])) := ⟨a, c, d, q, z, rfl⟩
/-- One or the other. -/
def OkR (P Q : Prop) (ok : Bool) : Prop := (ok = false → P) ∧ (ok = true → Q)
/-- What a rearming, a cancelling answers, and does to the timers. -/
def RearmR (τ : TSt) (id d a c z : Int) (τ' : TSt) : Prop := (z = 10 ∧ τ' = τ ∧ τ.tm id = none) ∨ (z = 0 ∧ a = id ∧ ∃ d0 ck, τ.tm id = some ⟨c, d0, ck⟩ ∧ τ' = ⟨updT τ.tm id (some ⟨c, d, ck⟩), τ.nx⟩)
def CancelR (τ : TSt) (σ : Sg) (id a c z : Int) (τ' : TSt) (σ' : Sg) : Prop := (z = 10 ∧ τ' = τ ∧ σ' = σ ∧ τ.tm id = none) ∨ (z = 0 ∧ a = id ∧ (∃ d0 ck, τ.tm id = some ⟨c, d0, ck⟩) ∧ τ' = ⟨updT τ.tm id none, τ.nx⟩ ∧ σ' = σ.inc (c.toNat * 7 + 5))
set_option maxHeartbeats 4000000 in
theorem rearm_m {w : World} {B mb t k : Nat} {ν : Net} {τ : TSt} {σ : Sg} {d : Nat} (M : Mach w B mb t k ν τ σ) (hd : d < 18446744073709551616) (id : Int) (h0 : 0 ≤ id) (h1 : id < 18446744073709551616) : Calls Tryz.prog 71 #[.pointer (some ⟨B, 0, none⟩), .int .u64 id, .int .u64 (d : Int)] w fun e w' => ∃ (a c dx q z : Int) (τ' : TSt), e = .returned (.tuple #[timerV a c dx q, .int .i64 z]) ∧ Done w w' B mb t k ν τ' σ ∧ RearmR τ id d a c z τ' := by
  obtain ⟨s, L, fr, f, T, I, en, em, tw⟩ := M.tim
  have HTW := hideIt tw
  clear tw
  have hB0 := M.lt
  have hM0 := M.mlt
  have h2 := M.hB
  generalize hW : w.alloc (.cells #[.int .u64 0, .int .i64 0, .int .u64 0, .int .u64 0] 84) = W at *
  have hb0 : Below w.heap.size w W := by rw [← hW]; exact one_alloc _ _
  have F0 : Four W w.heap.size 0 0 0 0 := by rw [← hW]; exact four_new _ _ _ _ _ _
  have hsz : W.heap.size = w.heap.size + 1 := by rw [← hW]; simp
  have TMW := T.below hb0
  have D0 : Done w W B mb t k ν τ σ := (Done.refl M).below hb0
  go_enter Tryz.func71, Tryz.ntmps71
  go_upto_region 1 with fail
  go_cut [8, 9] (fun a8 a9 wc => ∃ b8 a c dx q ok, a8 = .pointer (some ⟨b8, 0, none⟩) ∧ a9 = .bool ok ∧ Four wc b8 a c dx q ∧ (0 ≤ c ∧ c < 4) ∧ Four wc w.heap.size 0 0 0 0 ∧ (∃ τ' : TSt, Done w wc B mb t k ν τ' σ ∧ OkR (τ' = τ ∧ τ.tm id = none) (a = id ∧ ∃ d0 ck, τ.tm id = some ⟨c, d0, ck⟩ ∧ τ' = ⟨updT τ.tm id (some ⟨c, (d : Int), ck⟩), τ.nx⟩) ok) ∧ w.heap.size < b8)
  case first =>
    cases hf : f id with
    | none =>
      go_wp2_with fail
      refine (rearm_none TMW h0 h1 hf).mono ?_
      rintro e w1 ⟨rfl, T1, M1⟩
      have D1 : Done w w1 B mb t k ν τ σ := D0.mut M1 (by omega) (D0.m.keep M1)
      have F1 := F0.mut M1 (by omega)
      have s1 := M1.size
      have HNO : Hid (τ.tm id = none) := hideIt (by rw [← HTW.out.tm]; exact tm_none hf)
      clear hf M1 T1
      simp only [timerV]
      go_wp2
      go_meet
      case rel => exact ⟨w1.heap.size, 0, 0, 0, 0, false, rfl, rfl, four_new _ _ _ _ _ _, by omega, F1.of_block ((one_alloc w1 _).block _ (by omega)), ⟨τ, D1.below (one_alloc _ _), ⟨fun _ => ⟨rfl, HNO.out⟩, fun q => by simp at q⟩⟩, by omega⟩
    | some i =>
      obtain ⟨x, rfl, _⟩ := I.map id i hf
      go_wp2_with fail
      refine (rearm_t TMW I en hd h0 h1 hf HTW.out.wo).mono ?_
      rintro e w1 ⟨⟨c, d0, q, htm, hc, rfl, ⟨s1, L1, fr1, f1, T1, I1, wo1, tm1, nx1, e1, e2⟩⟩, M1⟩
      rw [em] at M1 e2
      rw [en] at e1
      obtain ⟨τ', hτ'⟩ : ∃ τ' : TSt, τ' = ⟨updT τ.tm id (some ⟨c, (d : Int), q⟩), τ.nx⟩ := ⟨_, rfl⟩
      have tw1 : TW s1 L1 fr1 f1 τ' k := ⟨wo1, by rw [tm1, HTW.out.tm, hτ'], by rw [nx1, HTW.out.nx, hτ'], by rw [nx1]; exact HTW.out.n0, by rw [nx1]; exact HTW.out.n1⟩
      have HRR : Hid (OkR (τ' = τ ∧ τ.tm id = none) (∃ d0 ck, τ.tm id = some ⟨c, d0, ck⟩ ∧ τ' = ⟨updT τ.tm id (some ⟨c, (d : Int), ck⟩), τ.nx⟩) true) := hideIt ⟨fun q => by simp at q, fun _ => ⟨d0, q, by rw [← HTW.out.tm]; exact htm, hτ'⟩⟩
      clear hτ' wo1 tm1 nx1 htm
      have D1 : Done w w1 B mb t k ν τ' σ := D0.wheel (by omega) M1 ⟨s1, L1, fr1, f1, T1, I1, e1, e2, tw1⟩
      have F1 := F0.mut2 M1 (by omega) (by omega)
      have s1 := M1.size
      clear hf M1 T1 e1 e2 en em tw1
      simp only [timerV]
      go_wp2
      go_meet
      case rel => exact ⟨w1.heap.size, id, c, d, q, true, rfl, rfl, four_new _ _ _ _ _ _, hc, F1.of_block ((one_alloc w1 _).block _ (by omega)), ⟨τ', D1.below (one_alloc _ _), ⟨HRR.out.1, fun q => ⟨rfl, HRR.out.2 q⟩⟩⟩, by omega⟩
  case rest =>
    obtain ⟨b8, a, c, dd, q, ok, rfl, rfl, F8, hc, FC, ⟨τ', D1, HR⟩, hb8⟩ := hcut
    clear F0 D0 TMW hb0 en em I T
    match ok with
    | false =>
      go_wp2_with fail
      refine (refuse_any D1.m.snk).mono ?_
      rintro e wx ⟨rfl, hwx⟩
      rw [← hwx] at D1 FC
      clear hwx
      obtain ⟨g0, g1, g2, g3, fz⟩ := FC
      go_wp2
      exact bodyPost_ret (v := .tuple #[timerV 0 0 0 0, .int .i64 10]) (by simp [timerV, results, Tryz.results71, go_sem, g0, g1, g2, g3]) rfl
        ⟨0, 0, 0, 0, 10, τ', rfl, ((((D1.fresh ⟨w.heap.size, 0, none⟩ (Nat.le_refl _) hB0 hM0 _).fresh ⟨w.heap.size, 1, none⟩ (Nat.le_refl _) hB0 hM0 _).fresh ⟨w.heap.size, 2, none⟩ (Nat.le_refl _) hB0 hM0 _).fresh ⟨w.heap.size, 3, none⟩ (Nat.le_refl _) hB0 hM0 _), .inl ⟨rfl, (HR.1 rfl).1, (HR.1 rfl).2⟩⟩
    | true =>
      have hcl := D1.m.clk
      go_wp2_with fail
      refine (noteTimer_any D1.m.snk).mono ?_
      rintro e wx ⟨rfl, hwx⟩
      rw [← hwx] at D1 FC F8
      clear hwx
      obtain ⟨g0, g1, g2, g3, fz⟩ := FC
      obtain ⟨z0, z1, z2, z3, zf⟩ := F8
      have n1 : ¬ (b8 = w.heap.size) := by omega
      have n2 : ¬ (w.heap.size = b8) := by omega
      go_wp2
      exact bodyPost_ret (v := .tuple #[timerV a c dd q, .int .i64 0]) (by simp [timerV, results, Tryz.results71, go_sem, g0, g1, g2, g3]) rfl
        ⟨a, c, dd, q, 0, τ', rfl, ((((D1.fresh ⟨w.heap.size, 0, none⟩ (Nat.le_refl _) hB0 hM0 _).fresh ⟨w.heap.size, 1, none⟩ (Nat.le_refl _) hB0 hM0 _).fresh ⟨w.heap.size, 2, none⟩ (Nat.le_refl _) hB0 hM0 _).fresh ⟨w.heap.size, 3, none⟩ (Nat.le_refl _) hB0 hM0 _), .inr ⟨rfl, HR.2 rfl⟩⟩

set_option maxHeartbeats 4000000 in
theorem cancel_m {w : World} {B mb t k : Nat} {ν : Net} {τ : TSt} {σ : Sg} (M : Mach w B mb t k ν τ σ) (id : Int) (h0 : 0 ≤ id) (h1 : id < 18446744073709551616) : Calls Tryz.prog 72 #[.pointer (some ⟨B, 0, none⟩), .int .u64 id] w fun e w' => ∃ (a c d q z : Int) (τ' : TSt) (σ' : Sg), e = .returned (.tuple #[timerV a c d q, .int .i64 z]) ∧ Done w w' B mb t k ν τ' σ' ∧ CancelR τ σ id a c z τ' σ' := by
  obtain ⟨s, L, fr, f, T, I, en, em, tw⟩ := M.tim
  have HTW := hideIt tw
  clear tw
  have hB0 := M.lt
  have hM0 := M.mlt
  have h2 := M.hB
  generalize hW : w.alloc (.cells #[.int .u64 0, .int .i64 0, .int .u64 0, .int .u64 0] 84) = W at *
  have hb0 : Below w.heap.size w W := by rw [← hW]; exact one_alloc _ _
  have F0 : Four W w.heap.size 0 0 0 0 := by rw [← hW]; exact four_new _ _ _ _ _ _
  have hsz : W.heap.size = w.heap.size + 1 := by rw [← hW]; simp
  have TMW := T.below hb0
  have D0 : Done w W B mb t k ν τ σ := (Done.refl M).below hb0
  go_enter Tryz.func72, Tryz.ntmps72
  go_upto_region 1 with fail
  go_cut [6, 7] (fun a8 a9 wc => ∃ b8 a c d q ok, a8 = .pointer (some ⟨b8, 0, none⟩) ∧ a9 = .bool ok ∧ Four wc b8 a c d q ∧ (0 ≤ c ∧ c < 4) ∧ Four wc w.heap.size 0 0 0 0 ∧ (∃ τ' : TSt, Done w wc B mb t k ν τ' σ ∧ OkR (τ' = τ ∧ τ.tm id = none) (a = id ∧ (∃ d0 ck, τ.tm id = some ⟨c, d0, ck⟩) ∧ τ' = ⟨updT τ.tm id none, τ.nx⟩) ok) ∧ w.heap.size < b8)
  case first =>
    cases hf : f id with
    | none =>
      go_wp2_with fail
      refine (cancel_none TMW h0 h1 hf).mono ?_
      rintro e w1 ⟨rfl, T1, M1⟩
      have D1 : Done w w1 B mb t k ν τ σ := D0.mut M1 (by omega) (D0.m.keep M1)
      have F1 := F0.mut M1 (by omega)
      have s1 := M1.size
      have HNO : Hid (τ.tm id = none) := hideIt (by rw [← HTW.out.tm]; exact tm_none hf)
      clear hf M1 T1
      simp only [timerV]
      go_wp2
      go_meet
      case rel => exact ⟨w1.heap.size, 0, 0, 0, 0, false, rfl, rfl, four_new _ _ _ _ _ _, by omega, F1.of_block ((one_alloc w1 _).block _ (by omega)), ⟨τ, D1.below (one_alloc _ _), ⟨fun _ => ⟨rfl, HNO.out⟩, fun q => by simp at q⟩⟩, by omega⟩
    | some i =>
      obtain ⟨x, rfl, _⟩ := I.map id i hf
      go_wp2_with fail
      refine (cancel_t TMW I h0 h1 hf HTW.out.wo).mono ?_
      rintro e w1 ⟨⟨c, d', q, htm, hc, rfl⟩, ⟨s1, L1, fr1, f1, T1, I1, wo1, tm1, nx1, e1, e2⟩, M1⟩
      rw [em] at M1 e2
      rw [en] at e1
      obtain ⟨τ', hτ'⟩ : ∃ τ' : TSt, τ' = ⟨updT τ.tm id none, τ.nx⟩ := ⟨_, rfl⟩
      have tw1 : TW s1 L1 fr1 f1 τ' k := ⟨wo1, by rw [tm1, HTW.out.tm, hτ'], by rw [nx1, HTW.out.nx, hτ'], by rw [nx1]; exact HTW.out.n0, by rw [nx1]; exact HTW.out.n1⟩
      have HRR : Hid (OkR (τ' = τ ∧ τ.tm id = none) ((∃ d0 ck, τ.tm id = some ⟨c, d0, ck⟩) ∧ τ' = ⟨updT τ.tm id none, τ.nx⟩) true) := hideIt ⟨fun q => by simp at q, fun _ => ⟨⟨_, _, by rw [← HTW.out.tm]; exact htm⟩, hτ'⟩⟩
      clear hτ' wo1 tm1 nx1 htm
      have D1 : Done w w1 B mb t k ν τ' σ := D0.wheel (by omega) M1 ⟨s1, L1, fr1, f1, T1, I1, e1, e2, tw1⟩
      have F1 := F0.mut2 M1 (by omega) (by omega)
      have s1 := M1.size
      clear hf M1 T1 e1 e2 en em tw1
      simp only [timerV]
      go_wp2
      go_meet
      case rel => exact ⟨w1.heap.size, id, c, d', q, true, rfl, rfl, four_new _ _ _ _ _ _, hc, F1.of_block ((one_alloc w1 _).block _ (by omega)), ⟨τ', D1.below (one_alloc _ _), ⟨HRR.out.1, fun q => ⟨rfl, HRR.out.2 q⟩⟩⟩, by omega⟩
  case rest =>
    obtain ⟨b8, a, c, dd, q, ok, rfl, rfl, F8, hc, FC, ⟨τ', D1, HR⟩, hb8⟩ := hcut
    clear F0 D0 TMW hb0 en em I T
    match ok with
    | false =>
      go_wp2_with fail
      refine (refuse_any D1.m.snk).mono ?_
      rintro e wx ⟨rfl, hwx⟩
      rw [← hwx] at D1 FC
      clear hwx
      obtain ⟨g0, g1, g2, g3, fz⟩ := FC
      go_wp2
      exact bodyPost_ret (v := .tuple #[timerV 0 0 0 0, .int .i64 10]) (by simp [timerV, results, Tryz.results72, go_sem, g0, g1, g2, g3]) rfl
        ⟨0, 0, 0, 0, 10, τ', σ, rfl, ((((D1.fresh ⟨w.heap.size, 0, none⟩ (Nat.le_refl _) hB0 hM0 _).fresh ⟨w.heap.size, 1, none⟩ (Nat.le_refl _) hB0 hM0 _).fresh ⟨w.heap.size, 2, none⟩ (Nat.le_refl _) hB0 hM0 _).fresh ⟨w.heap.size, 3, none⟩ (Nat.le_refl _) hB0 hM0 _), .inl ⟨rfl, (HR.1 rfl).1, rfl, (HR.1 rfl).2⟩⟩
    | true =>
      obtain ⟨y, rfl, hy⟩ : ∃ y : Nat, c = y ∧ y < 4 := ⟨c.toNat, by omega, by omega⟩
      obtain ⟨v1, E1, hv1⟩ := D1.m.cntf (f := 5) hy (by omega)
      obtain ⟨z0, z1, z2, z3, zf⟩ := F8
      have fz := D1.m.frz
      have j0 : (0 : Int) ≤ y := by omega
      have j1 : (y : Int) < 4 := by omega
      have q1 : ¬ (b8 = B) := by omega
      have q2 : ¬ (B = b8) := by omega
      go_upto_region 4 with fail
      go_cut [] (fun wd => Done w wd B mb t k ν τ' (σ.inc (y * 7 + 5)) ∧ Four wd b8 a y dd q ∧ Four wd w.heap.size 0 0 0 0)
      case first =>
        refine wp_region_held_drew (S := (fun _ => True)) (by kernel_rfl) trivial (fun hHeld => ?_)
        refine wpAnyH_take (i := 0) (oi := { dst := some 21, op := Go.Op.move (Go.Operand.tmp 0), type := 24, pos := _, after := #[], guard := none }) (v := ?vv1) rfl (by kernel_rfl) (by kernel_rfl) (by kernel_rfl) (fun _ _ _ h => h) (Or.inl ⟨by rfl, ?hy1⟩) (by assumption) ?tk1
        case hy1 => (intro w hSw; (try dsimp only at hSw); go_simp; (try with_reducible rfl))
        try simp only [Act.put, List.setIfInBounds_toArray, List.set_cons_zero, List.set_cons_succ]
        refine wpAnyH_take (i := 1) (oi := { dst := some 22, op := Go.Op.fieldAddr 84 (Go.Operand.tmp 6) 1, type := 0, pos := _, after := #[], guard := none }) (v := ?vv2) rfl (by kernel_rfl) (by kernel_rfl) (by kernel_rfl) (fun _ _ _ h => h) (Or.inl ⟨by rfl, ?hy2⟩) (by assumption) ?tk2
        case hy2 => (intro w hSw; (try dsimp only at hSw); go_simp; (try with_reducible rfl))
        try simp only [Act.put, List.setIfInBounds_toArray, List.set_cons_zero, List.set_cons_succ]
        refine wpAnyH_take (i := 3) (oi := { dst := some 24, op := Go.Op.nilCheck (Go.Operand.tmp 21), type := 0, pos := _, after := #[{ on := 0, ground := Go.Ground.data }], guard := none }) (v := ?vv3) rfl (by kernel_rfl) (by kernel_rfl) (by kernel_rfl) (fun _ _ _ h => h) (Or.inl ⟨by rfl, ?hy3⟩) (by assumption) ?tk3
        case hy3 => (intro w hSw; (try dsimp only at hSw); go_simp; (try with_reducible rfl))
        try simp only [Act.put, List.setIfInBounds_toArray, List.set_cons_zero, List.set_cons_succ]
        refine wpAnyH_take (i := 4) (oi := { dst := some 25, op := Go.Op.fieldAddr 190 (Go.Operand.tmp 24) 4, type := 0, pos := _, after := #[{ on := 3, ground := Go.Ground.data }], guard := none }) (v := ?vv4) rfl (by kernel_rfl) (by kernel_rfl) (by kernel_rfl) (fun _ _ _ h => h) (Or.inl ⟨by rfl, ?hy4⟩) (by assumption) ?tk4
        case hy4 => (intro w hSw; (try dsimp only at hSw); go_simp; (try with_reducible rfl))
        try simp only [Act.put, List.setIfInBounds_toArray, List.set_cons_zero, List.set_cons_succ]
        refine wpAnyH_take (i := 9) (oi := { dst := some 30, op := Go.Op.nilCheck (Go.Operand.tmp 21), type := 0, pos := _, after := #[{ on := 0, ground := Go.Ground.data }], guard := none }) (v := ?vv5) rfl (by kernel_rfl) (by kernel_rfl) (by kernel_rfl) (fun _ _ _ h => h) (Or.inl ⟨by rfl, ?hy5⟩) (by assumption) ?tk5
        case hy5 => (intro w hSw; (try dsimp only at hSw); go_simp; (try with_reducible rfl))
        try simp only [Act.put, List.setIfInBounds_toArray, List.set_cons_zero, List.set_cons_succ]
        refine wpAnyH_take (i := 10) (oi := { dst := some 31, op := Go.Op.fieldAddr 190 (Go.Operand.tmp 30) 4, type := 0, pos := _, after := #[{ on := 9, ground := Go.Ground.data }], guard := none }) (v := ?vv6) rfl (by kernel_rfl) (by kernel_rfl) (by kernel_rfl) (fun _ _ _ h => h) (Or.inl ⟨by rfl, ?hy6⟩) (by assumption) ?tk6
        case hy6 => (intro w hSw; (try dsimp only at hSw); go_simp; (try with_reducible rfl))
        try simp only [Act.put, List.setIfInBounds_toArray, List.set_cons_zero, List.set_cons_succ]
        refine wpAnyH_ready (rs := [2]) (by kernel_rfl) (by simp) ?_
        refine AllReadyH.cons (o := { dst := some 23, op := Go.Op.load 34 (Go.Operand.tmp 22), type := 34, pos := _, after := #[{ on := 1, ground := Go.Ground.data }], guard := none }) rfl (fun K' hK' => ?_) AllReadyH.nil
        go_simp
        clear hHeld
        refine hK'.out _ _ trivial (fun hHeld => ?_)
        clear hK' K'
        try simp only [Act.put, List.setIfInBounds_toArray, List.set_cons_zero, List.set_cons_succ]
        refine wpAnyH_take (i := 5) (oi := { dst := some 26, op := Go.Op.indexAddr 133 (Go.Operand.tmp 25) (Go.Operand.tmp 23), type := 0, pos := _, after := #[{ on := 4, ground := Go.Ground.data }, { on := 2, ground := Go.Ground.data }], guard := none }) (v := ?vv7) rfl (by kernel_rfl) (by kernel_rfl) (by kernel_rfl) (fun _ _ _ h => h) (Or.inl ⟨by rfl, ?hy7⟩) (by assumption) ?tk7
        case hy7 => (intro w hSw; (try dsimp only at hSw); go_simp; (try with_reducible rfl))
        try simp only [Act.put, List.setIfInBounds_toArray, List.set_cons_zero, List.set_cons_succ]
        refine wpAnyH_take (i := 6) (oi := { dst := some 27, op := Go.Op.fieldAddr 52 (Go.Operand.tmp 26) 5, type := 0, pos := _, after := #[{ on := 5, ground := Go.Ground.data }], guard := none }) (v := ?vv8) rfl (by kernel_rfl) (by kernel_rfl) (by kernel_rfl) (fun _ _ _ h => h) (Or.inl ⟨by rfl, ?hy8⟩) (by assumption) ?tk8
        case hy8 => (intro w hSw; (try dsimp only at hSw); go_simp; (try with_reducible rfl))
        try simp only [Act.put, List.setIfInBounds_toArray, List.set_cons_zero, List.set_cons_succ]
        refine wpAnyH_ready (rs := [7]) (by kernel_rfl) (by simp) ?_
        refine AllReadyH.cons (o := { dst := some 28, op := Go.Op.load 28 (Go.Operand.tmp 27), type := 28, pos := _, after := #[{ on := 6, ground := Go.Ground.data }], guard := none }) rfl (fun K' hK' => ?_) AllReadyH.nil
        go_simp
        clear hHeld
        refine hK'.out _ _ trivial (fun hHeld => ?_)
        clear hK' K'
        try simp only [Act.put, List.setIfInBounds_toArray, List.set_cons_zero, List.set_cons_succ]
        refine wpAnyH_take (i := 8) (oi := { dst := some 29, op := Go.Op.binOp Go.BinOp.add 28 (Go.Operand.tmp 28) (Go.Operand.const (Go.Value.int Go.IntKind.u64 1)) 28, type := 28, pos := _, after := #[{ on := 7, ground := Go.Ground.data }], guard := none }) (v := ?vv9) rfl (by kernel_rfl) (by kernel_rfl) (by kernel_rfl) (fun _ _ _ h => h) (Or.inl ⟨by rfl, ?hy9⟩) (by assumption) ?tk9
        case hy9 => (intro w hSw; (try dsimp only at hSw); go_simp; (try with_reducible rfl))
        try simp only [Act.put, List.setIfInBounds_toArray, List.set_cons_zero, List.set_cons_succ]
        refine wpAnyH_take (i := 11) (oi := { dst := some 32, op := Go.Op.indexAddr 133 (Go.Operand.tmp 31) (Go.Operand.tmp 23), type := 0, pos := _, after := #[{ on := 10, ground := Go.Ground.data }, { on := 2, ground := Go.Ground.data }, { on := 0, ground := Go.Ground.phase }, { on := 1, ground := Go.Ground.phase }, { on := 2, ground := Go.Ground.phase }, { on := 3, ground := Go.Ground.phase }, { on := 4, ground := Go.Ground.phase }, { on := 5, ground := Go.Ground.phase }, { on := 6, ground := Go.Ground.phase }, { on := 7, ground := Go.Ground.phase }, { on := 8, ground := Go.Ground.phase }], guard := none }) (v := ?vv10) rfl (by kernel_rfl) (by kernel_rfl) (by kernel_rfl) (fun _ _ _ h => h) (Or.inl ⟨by rfl, ?hy10⟩) (by assumption) ?tk10
        case hy10 => (intro w hSw; (try dsimp only at hSw); go_simp; (try with_reducible rfl))
        try simp only [Act.put, List.setIfInBounds_toArray, List.set_cons_zero, List.set_cons_succ]
        refine wpAnyH_take (i := 12) (oi := { dst := some 33, op := Go.Op.fieldAddr 52 (Go.Operand.tmp 32) 5, type := 0, pos := _, after := #[{ on := 11, ground := Go.Ground.data }, { on := 0, ground := Go.Ground.phase }, { on := 1, ground := Go.Ground.phase }, { on := 2, ground := Go.Ground.phase }, { on := 3, ground := Go.Ground.phase }, { on := 4, ground := Go.Ground.phase }, { on := 5, ground := Go.Ground.phase }, { on := 6, ground := Go.Ground.phase }, { on := 7, ground := Go.Ground.phase }, { on := 8, ground := Go.Ground.phase }], guard := none }) (v := ?vv11) rfl (by kernel_rfl) (by kernel_rfl) (by kernel_rfl) (fun _ _ _ h => h) (Or.inl ⟨by rfl, ?hy11⟩) (by assumption) ?tk11
        case hy11 => (intro w hSw; (try dsimp only at hSw); go_simp; (try with_reducible rfl))
        try simp only [Act.put, List.setIfInBounds_toArray, List.set_cons_zero, List.set_cons_succ]
        refine wpAnyH_ready (rs := [13]) (by kernel_rfl) (by simp) ?_
        refine AllReadyH.cons (o := { dst := none, op := Go.Op.store 28 (Go.Operand.tmp 33) (Go.Operand.tmp 29), type := 0, pos := _, after := #[{ on := 12, ground := Go.Ground.data }, { on := 8, ground := Go.Ground.data }, { on := 0, ground := Go.Ground.phase }, { on := 1, ground := Go.Ground.phase }, { on := 2, ground := Go.Ground.phase }, { on := 3, ground := Go.Ground.phase }, { on := 4, ground := Go.Ground.phase }, { on := 5, ground := Go.Ground.phase }, { on := 6, ground := Go.Ground.phase }, { on := 7, ground := Go.Ground.phase }, { on := 8, ground := Go.Ground.phase }], guard := none }) rfl (fun K' hK' => ?_) AllReadyH.nil
        go_simp
        clear hHeld
        refine hK'.out _ _ trivial (fun hHeld => ?_)
        clear hK' K'
        try simp only [Act.put, List.setIfInBounds_toArray, List.set_cons_zero, List.set_cons_succ]
        refine wpAnyH_done (by kernel_rfl) ?_ _
        go_wp2
        go_meet
        case rel =>
          have MM : Mut B 6724 6752 wc (wc.setCell ⟨B, 6724 + y * 7 + 5, none⟩ (.int .u64 (IntKind.u64.wrap (v1 + 1)))).drew := ((Mut.refl B 6724 6752 wc).setCell (by omega) (by omega) _).drew
          exact ⟨(D1.statf hy (f := 5) (by omega) E1).drew, Four.mut ⟨z0, z1, z2, z3, zf⟩ MM (by omega), FC.mut MM (by omega)⟩
      case rest =>
      clear D1 FC hv1 z0 z1 z2 z3 zf fz
      obtain ⟨D1, F8, FC⟩ := hcut
      have hcl := D1.m.clk
      go_wp2_with fail
      refine (noteTimer_any D1.m.snk).mono ?_
      rintro e wx ⟨rfl, hwx⟩
      rw [← hwx] at D1 FC F8
      clear hwx
      obtain ⟨g0, g1, g2, g3, fz⟩ := FC
      obtain ⟨z0, z1, z2, z3, zf⟩ := F8
      have n1 : ¬ (b8 = w.heap.size) := by omega
      have n2 : ¬ (w.heap.size = b8) := by omega
      go_wp2
      exact bodyPost_ret (v := .tuple #[timerV a y dd q, .int .i64 0]) (by simp [timerV, results, Tryz.results72, go_sem, g0, g1, g2, g3]) rfl
        ⟨a, y, dd, q, 0, τ', _, rfl, ((((D1.fresh ⟨w.heap.size, 0, none⟩ (Nat.le_refl _) hB0 hM0 _).fresh ⟨w.heap.size, 1, none⟩ (Nat.le_refl _) hB0 hM0 _).fresh ⟨w.heap.size, 2, none⟩ (Nat.le_refl _) hB0 hM0 _).fresh ⟨w.heap.size, 3, none⟩ (Nat.le_refl _) hB0 hM0 _), .inr ⟨rfl, (HR.2 rfl).1, (HR.2 rfl).2.1, (HR.2 rfl).2.2, by rw [Int.toNat_natCast]⟩⟩

end Go.Proofs.Qxb6500877aGreatDoor
