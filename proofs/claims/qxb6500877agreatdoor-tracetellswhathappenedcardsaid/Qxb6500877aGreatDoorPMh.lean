import Derived.Test.Qxb6500877aGreatDoorPMh0
set_option linter.unusedVariables false
set_option linter.unusedSimpArgs false
namespace Go.Proofs.Qxb6500877aGreatDoor
open Go.RowKit



/-- The counters behind a send. -/
def sendSg (σ : Sg) (a c : Int) : Sg := if c = 0 then σ.inc (a.toNat * 7 + 2) else σ
/-- What Send answers, and does to the mailboxes. -/
def SendRes (ν : Net) (a b kd now x0 x1 x2 x3 c : Int) (ν' : Net) : Prop :=
  (¬ ((0 ≤ a ∧ a < 4) ∧ (0 ≤ b ∧ b < 4)) ∧ c = 4 ∧ ν' = ν) ∨ ∃ x y : Nat, a = x ∧ x < 4 ∧ b = y ∧ y < 4 ∧ ∃ (m : MsgV) (ok : Bool), SendR ν (x * 4 + y) m ok ν' ∧ (ok = true → m = ⟨x, y, kd, m.mq, now, x0, x1, x2, x3⟩ ∧ c = 0) ∧ (ok = false → c = 8)
set_option maxHeartbeats 4000000 in
theorem send_m {w : World} {B mb t k : Nat} {ν : Net} {τ : TSt} {σ : Sg} {kd x0 x1 x2 x3 : Int} (M : Mach w B mb t k ν τ σ) (hk : k < 900000) (a b : Int) :
    Calls Tryz.prog 136 #[.pointer (some ⟨B, 0, none⟩), .int .i64 a, .int .i64 b, .int .u32 kd, .agg #[.int .u64 x0, .int .u64 x1, .int .u64 x2, .int .u64 x3]] w fun e w' => ∃ (c : Int) (ν' : Net), e = .returned (.int .i64 c) ∧ Done w w' B mb t (k + 1) ν' τ (sendSg σ a c) ∧ SendRes ν a b kd t x0 x1 x2 x3 c ν' := by
  have hB0 := M.lt
  have hM0 := M.mlt
  generalize hW : w.alloc (.cells #[.int .u64 x0, .int .u64 x1, .int .u64 x2, .int .u64 x3] 38) = W at *
  have hb0 : Below w.heap.size w W := by rw [← hW]; exact one_alloc _ _
  have hsz : W.heap.size = w.heap.size + 1 := by rw [← hW]; simp
  have g0 : W.cell? ⟨w.heap.size, 0, none⟩ = some (.int .u64 x0) := by rw [← hW]; simp
  have g1 : W.cell? ⟨w.heap.size, 1, none⟩ = some (.int .u64 x1) := by rw [← hW]; simp
  have g2 : W.cell? ⟨w.heap.size, 2, none⟩ = some (.int .u64 x2) := by rw [← hW]; simp
  have g3 : W.cell? ⟨w.heap.size, 3, none⟩ = some (.int .u64 x3) := by rw [← hW]; simp
  have DW : Done w W B mb t k ν τ σ := (Done.refl M).below hb0
  have hcl := DW.m.clk
  by_cases hva : 0 ≤ a ∧ a < 4
  · obtain ⟨x, rfl, hx⟩ : ∃ x : Nat, a = x ∧ x < 4 := ⟨a.toNat, by omega, by omega⟩
    have hv1 := validCore_any (x : Int) W
    rw [decide_eq_true hva] at hv1
    obtain ⟨j0, j1⟩ := hva
    by_cases hvb : 0 ≤ b ∧ b < 4
    · obtain ⟨y, rfl, hy⟩ : ∃ y : Nat, b = y ∧ y < 4 := ⟨b.toNat, by omega, by omega⟩
      have hv2 := validCore_any (y : Int) W
      rw [decide_eq_true hvb] at hv2
      clear hvb
      go_enter Tryz.func136, Tryz.ntmps136
      go_wp2_with fail
      refine hv1.mono ?_
      rintro e W ⟨rfl, rfl⟩
      go_wp2_with fail
      refine hv2.mono ?_
      rintro e W ⟨rfl, rfl⟩
      go_upto_region 3 with fail
      go_cut [11, 12] (fun a11 a12 wc => ∃ (b11 : Nat) (ok : Bool) (m : MsgV) (ν' : Net), a11 = .pointer (some ⟨b11, 0, none⟩) ∧ a12 = .bool ok ∧ Done w wc B mb t (k + 1) ν' τ σ ∧ SendR ν (x * 4 + y) m ok ν' ∧ (ok = true → m = ⟨x, y, kd, m.mq, t, x0, x1, x2, x3⟩))
      case first =>
        have DB : Done w (W.alloc (.cells #[.int .i64 0, .int .i64 0, .int .u32 0, .int .u64 0, .int .u64 0, .int .u64 0, .int .u64 0, .int .u64 0, .int .u64 0] 40)).drew B mb t k ν τ σ := (DW.below (one_alloc _ _)).drew
        have NB : Nine (W.alloc (.cells #[.int .i64 0, .int .i64 0, .int .u32 0, .int .u64 0, .int .u64 0, .int .u64 0, .int .u64 0, .int .u64 0, .int .u64 0] 40)).drew (w.heap.size + 1) msg0 := by
          rw [← hsz]
          exact nine_new W
        have hsB : (W.alloc (.cells #[.int .i64 0, .int .i64 0, .int .u32 0, .int .u64 0, .int .u64 0, .int .u64 0, .int .u64 0, .int .u64 0, .int .u64 0] 40)).drew.heap.size = w.heap.size + 2 := by
          show (W.alloc (.cells #[.int .i64 0, .int .i64 0, .int .u32 0, .int .u64 0, .int .u64 0, .int .u64 0, .int .u64 0, .int .u64 0, .int .u64 0] 40)).heap.size = _
          simp [hsz]
        have q1 : ¬ (w.heap.size + 1 = B) := by omega
        have q2 : ¬ (B = w.heap.size + 1) := by omega
        go_region_with (first | (go_at_call 182; refine (send_net (w := World.drew W) DW.drew.m hk hx hy).mono ?_; rintro e w1 ⟨m, ok, ν', rfl, D1, hS, hm⟩; have HS := hideIt hS; have HM := hideIt hm; clear hS hm; simp only [msgV]) | (go_at_call 182; refine (send_net (w := World.drew (World.alloc W _)) DB.m hk hx hy).mono ?_; rintro e w1 ⟨m, ok, ν', rfl, D1, hS, hm⟩; have HS := hideIt hS; have HM := hideIt hm; clear hS hm; have N1 := NB.blk (D1.f.block (w.heap.size + 1) (by omega) (by omega) (by omega)); obtain ⟨y0, y1, y2, y3, y4, y5, y6, y7, y8, yf⟩ := N1; simp only [msgV]) | fail)
        all_goals go_wp2
        all_goals go_meet
        all_goals case rel => first | exact ⟨_, _, _, _, rfl, rfl, (DW.drew.trans D1).below (one_alloc _ _), HS.out, HM.out⟩ | exact ⟨_, _, _, _, rfl, rfl, ((((((((((DB.trans D1).fresh ⟨w.heap.size + 1, 0, none⟩ (by show w.heap.size ≤ w.heap.size + 1; omega) hB0 hM0 _).fresh ⟨w.heap.size + 1, 1, none⟩ (by show w.heap.size ≤ w.heap.size + 1; omega) hB0 hM0 _).fresh ⟨w.heap.size + 1, 2, none⟩ (by show w.heap.size ≤ w.heap.size + 1; omega) hB0 hM0 _).fresh ⟨w.heap.size + 1, 3, none⟩ (by show w.heap.size ≤ w.heap.size + 1; omega) hB0 hM0 _).fresh ⟨w.heap.size + 1, 4, none⟩ (by show w.heap.size ≤ w.heap.size + 1; omega) hB0 hM0 _).fresh ⟨w.heap.size + 1, 5, none⟩ (by show w.heap.size ≤ w.heap.size + 1; omega) hB0 hM0 _).fresh ⟨w.heap.size + 1, 6, none⟩ (by show w.heap.size ≤ w.heap.size + 1; omega) hB0 hM0 _).fresh ⟨w.heap.size + 1, 7, none⟩ (by show w.heap.size ≤ w.heap.size + 1; omega) hB0 hM0 _).fresh ⟨w.heap.size + 1, 8, none⟩ (by show w.heap.size ≤ w.heap.size + 1; omega) hB0 hM0 _), HS.out, HM.out⟩
      case rest =>
        obtain ⟨b11, ok, m, ν', rfl, rfl, D1, hS, hm⟩ := hcut
        have HS := hideIt hS
        have HM := hideIt hm
        clear hS hm
        clear DW hcl g0 g1 g2 g3 hb0 hv1 hv2
        match ok with
        | false =>
          go_wp2_with fail
          refine (refuse_any D1.m.snk).mono ?_
          rintro e w1 ⟨rfl, hw1⟩
          rw [← hw1] at D1
          clear hw1
          go_wp2
          go_ret
          exact ⟨8, ν', rfl, by rw [sendSg, if_neg (by omega)]; exact D1, .inr ⟨x, y, rfl, hx, rfl, hy, m, false, HS.out, fun q => by simp at q, fun _ => rfl⟩⟩
        | true =>
          obtain ⟨v1, E1, hv1⟩ := D1.m.cntf (f := 2) hx (by omega)
          have fz := D1.m.frz
          go_wp2_with fail
          refine wp_region_held_drew (S := (fun _ => True)) (by kernel_rfl) trivial (fun hHeld => ?_)
          refine wpAnyH_take (i := 0) (oi := { dst := some 43, op := Go.Op.move (Go.Operand.tmp 0), type := 24, pos := _, after := #[], guard := none }) (v := ?vv1) rfl (by kernel_rfl) (by kernel_rfl) (by kernel_rfl) (fun _ _ _ h => h) (Or.inl ⟨by rfl, ?hy1⟩) (by assumption) ?tk1
          case hy1 => (intro w hSw; (try dsimp only at hSw); go_simp; (try with_reducible rfl))
          try simp only [Act.put, List.setIfInBounds_toArray, List.set_cons_zero, List.set_cons_succ]
          refine wpAnyH_take (i := 1) (oi := { dst := some 44, op := Go.Op.move (Go.Operand.tmp 1), type := 34, pos := _, after := #[], guard := none }) (v := ?vv2) rfl (by kernel_rfl) (by kernel_rfl) (by kernel_rfl) (fun _ _ _ h => h) (Or.inl ⟨by rfl, ?hy2⟩) (by assumption) ?tk2
          case hy2 => (intro w hSw; (try dsimp only at hSw); go_simp; (try with_reducible rfl))
          try simp only [Act.put, List.setIfInBounds_toArray, List.set_cons_zero, List.set_cons_succ]
          refine wpAnyH_take (i := 2) (oi := { dst := some 45, op := Go.Op.nilCheck (Go.Operand.tmp 43), type := 0, pos := _, after := #[{ on := 0, ground := Go.Ground.data }], guard := none }) (v := ?vv3) rfl (by kernel_rfl) (by kernel_rfl) (by kernel_rfl) (fun _ _ _ h => h) (Or.inl ⟨by rfl, ?hy3⟩) (by assumption) ?tk3
          case hy3 => (intro w hSw; (try dsimp only at hSw); go_simp; (try with_reducible rfl))
          try simp only [Act.put, List.setIfInBounds_toArray, List.set_cons_zero, List.set_cons_succ]
          refine wpAnyH_take (i := 3) (oi := { dst := some 46, op := Go.Op.fieldAddr 190 (Go.Operand.tmp 45) 4, type := 0, pos := _, after := #[{ on := 2, ground := Go.Ground.data }], guard := none }) (v := ?vv4) rfl (by kernel_rfl) (by kernel_rfl) (by kernel_rfl) (fun _ _ _ h => h) (Or.inl ⟨by rfl, ?hy4⟩) (by assumption) ?tk4
          case hy4 => (intro w hSw; (try dsimp only at hSw); go_simp; (try with_reducible rfl))
          try simp only [Act.put, List.setIfInBounds_toArray, List.set_cons_zero, List.set_cons_succ]
          refine wpAnyH_take (i := 4) (oi := { dst := some 47, op := Go.Op.indexAddr 133 (Go.Operand.tmp 46) (Go.Operand.tmp 44), type := 0, pos := _, after := #[{ on := 3, ground := Go.Ground.data }, { on := 1, ground := Go.Ground.data }], guard := none }) (v := ?vv5) rfl (by kernel_rfl) (by kernel_rfl) (by kernel_rfl) (fun _ _ _ h => h) (Or.inl ⟨by rfl, ?hy5⟩) (by assumption) ?tk5
          case hy5 => (intro w hSw; (try dsimp only at hSw); go_simp; (try with_reducible rfl))
          try simp only [Act.put, List.setIfInBounds_toArray, List.set_cons_zero, List.set_cons_succ]
          refine wpAnyH_take (i := 5) (oi := { dst := some 48, op := Go.Op.fieldAddr 52 (Go.Operand.tmp 47) 2, type := 0, pos := _, after := #[{ on := 4, ground := Go.Ground.data }], guard := none }) (v := ?vv6) rfl (by kernel_rfl) (by kernel_rfl) (by kernel_rfl) (fun _ _ _ h => h) (Or.inl ⟨by rfl, ?hy6⟩) (by assumption) ?tk6
          case hy6 => (intro w hSw; (try dsimp only at hSw); go_simp; (try with_reducible rfl))
          try simp only [Act.put, List.setIfInBounds_toArray, List.set_cons_zero, List.set_cons_succ]
          refine wpAnyH_take (i := 8) (oi := { dst := some 51, op := Go.Op.nilCheck (Go.Operand.tmp 43), type := 0, pos := _, after := #[{ on := 0, ground := Go.Ground.data }], guard := none }) (v := ?vv7) rfl (by kernel_rfl) (by kernel_rfl) (by kernel_rfl) (fun _ _ _ h => h) (Or.inl ⟨by rfl, ?hy7⟩) (by assumption) ?tk7
          case hy7 => (intro w hSw; (try dsimp only at hSw); go_simp; (try with_reducible rfl))
          try simp only [Act.put, List.setIfInBounds_toArray, List.set_cons_zero, List.set_cons_succ]
          refine wpAnyH_take (i := 9) (oi := { dst := some 52, op := Go.Op.fieldAddr 190 (Go.Operand.tmp 51) 4, type := 0, pos := _, after := #[{ on := 8, ground := Go.Ground.data }], guard := none }) (v := ?vv8) rfl (by kernel_rfl) (by kernel_rfl) (by kernel_rfl) (fun _ _ _ h => h) (Or.inl ⟨by rfl, ?hy8⟩) (by assumption) ?tk8
          case hy8 => (intro w hSw; (try dsimp only at hSw); go_simp; (try with_reducible rfl))
          try simp only [Act.put, List.setIfInBounds_toArray, List.set_cons_zero, List.set_cons_succ]
          refine wpAnyH_ready (rs := [6]) (by kernel_rfl) (by simp) ?_
          refine AllReadyH.cons (o := { dst := some 49, op := Go.Op.load 28 (Go.Operand.tmp 48), type := 28, pos := _, after := #[{ on := 5, ground := Go.Ground.data }], guard := none }) rfl (fun K' hK' => ?_) AllReadyH.nil
          go_simp
          clear hHeld
          refine hK'.out _ _ trivial (fun hHeld => ?_)
          clear hK' K'
          try simp only [Act.put, List.setIfInBounds_toArray, List.set_cons_zero, List.set_cons_succ]
          refine wpAnyH_take (i := 7) (oi := { dst := some 50, op := Go.Op.binOp Go.BinOp.add 28 (Go.Operand.tmp 49) (Go.Operand.const (Go.Value.int Go.IntKind.u64 1)) 28, type := 28, pos := _, after := #[{ on := 6, ground := Go.Ground.data }], guard := none }) (v := ?vv9) rfl (by kernel_rfl) (by kernel_rfl) (by kernel_rfl) (fun _ _ _ h => h) (Or.inl ⟨by rfl, ?hy9⟩) (by assumption) ?tk9
          case hy9 => (intro w hSw; (try dsimp only at hSw); go_simp; (try with_reducible rfl))
          try simp only [Act.put, List.setIfInBounds_toArray, List.set_cons_zero, List.set_cons_succ]
          refine wpAnyH_take (i := 10) (oi := { dst := some 53, op := Go.Op.indexAddr 133 (Go.Operand.tmp 52) (Go.Operand.tmp 44), type := 0, pos := _, after := #[{ on := 9, ground := Go.Ground.data }, { on := 1, ground := Go.Ground.data }, { on := 0, ground := Go.Ground.phase }, { on := 1, ground := Go.Ground.phase }, { on := 2, ground := Go.Ground.phase }, { on := 3, ground := Go.Ground.phase }, { on := 4, ground := Go.Ground.phase }, { on := 5, ground := Go.Ground.phase }, { on := 6, ground := Go.Ground.phase }, { on := 7, ground := Go.Ground.phase }], guard := none }) (v := ?vv10) rfl (by kernel_rfl) (by kernel_rfl) (by kernel_rfl) (fun _ _ _ h => h) (Or.inl ⟨by rfl, ?hy10⟩) (by assumption) ?tk10
          case hy10 => (intro w hSw; (try dsimp only at hSw); go_simp; (try with_reducible rfl))
          try simp only [Act.put, List.setIfInBounds_toArray, List.set_cons_zero, List.set_cons_succ]
          refine wpAnyH_take (i := 11) (oi := { dst := some 54, op := Go.Op.fieldAddr 52 (Go.Operand.tmp 53) 2, type := 0, pos := _, after := #[{ on := 10, ground := Go.Ground.data }, { on := 0, ground := Go.Ground.phase }, { on := 1, ground := Go.Ground.phase }, { on := 2, ground := Go.Ground.phase }, { on := 3, ground := Go.Ground.phase }, { on := 4, ground := Go.Ground.phase }, { on := 5, ground := Go.Ground.phase }, { on := 6, ground := Go.Ground.phase }, { on := 7, ground := Go.Ground.phase }], guard := none }) (v := ?vv11) rfl (by kernel_rfl) (by kernel_rfl) (by kernel_rfl) (fun _ _ _ h => h) (Or.inl ⟨by rfl, ?hy11⟩) (by assumption) ?tk11
          case hy11 => (intro w hSw; (try dsimp only at hSw); go_simp; (try with_reducible rfl))
          try simp only [Act.put, List.setIfInBounds_toArray, List.set_cons_zero, List.set_cons_succ]
          refine wpAnyH_ready (rs := [12]) (by kernel_rfl) (by simp) ?_
          refine AllReadyH.cons (o := { dst := none, op := Go.Op.store 28 (Go.Operand.tmp 54) (Go.Operand.tmp 50), type := 0, pos := _, after := #[{ on := 11, ground := Go.Ground.data }, { on := 7, ground := Go.Ground.data }, { on := 0, ground := Go.Ground.phase }, { on := 1, ground := Go.Ground.phase }, { on := 2, ground := Go.Ground.phase }, { on := 3, ground := Go.Ground.phase }, { on := 4, ground := Go.Ground.phase }, { on := 5, ground := Go.Ground.phase }, { on := 6, ground := Go.Ground.phase }, { on := 7, ground := Go.Ground.phase }], guard := none }) rfl (fun K' hK' => ?_) AllReadyH.nil
          go_simp
          clear hHeld
          refine hK'.out _ _ trivial (fun hHeld => ?_)
          clear hK' K'
          try simp only [Act.put, List.setIfInBounds_toArray, List.set_cons_zero, List.set_cons_succ]
          refine wpAnyH_done (by kernel_rfl) ?_ _
          have D2 := (D1.statf hx (f := 2) (by omega) E1).drew
          go_wp2_with fail
          refine (noteMsg_any (hide_at D2)).mono ?_
          rintro e w3 ⟨rfl, rfl⟩
          go_wp2
          go_ret
          exact ⟨0, ν', rfl, by rw [sendSg, if_pos rfl, Int.toNat_natCast]; exact D2, .inr ⟨x, y, rfl, hx, rfl, hy, m, true, HS.out, fun q => ⟨HM.out (by first | exact q | trivial), rfl⟩, fun q => by simp at q⟩⟩
    · have hv2 := validCore_any b W
      rw [decide_eq_false hvb] at hv2
      have HNV := hideIt (fun q : 0 ≤ b ∧ b < 4 => hvb q)
      go_enter Tryz.func136, Tryz.ntmps136
      go_wp2_with fail
      refine hv1.mono ?_
      rintro e W ⟨rfl, rfl⟩
      go_wp2_with fail
      refine hv2.mono ?_
      rintro e W ⟨rfl, rfl⟩
      go_wp2_with fail
      refine (refuse_any DW.m.snk).mono ?_
      rintro e w1 ⟨rfl, hw1⟩
      rw [← hw1] at DW
      clear hw1
      go_wp2
      go_ret
      exact ⟨4, ν, rfl, by rw [sendSg, if_neg (by omega)]; exact DW.mono (by omega), .inl ⟨fun q => HNV.out (by omega), rfl, rfl⟩⟩
  · have hv1 := validCore_any a W
    rw [decide_eq_false hva] at hv1
    have HNV := hideIt (fun q : 0 ≤ a ∧ a < 4 => hva q)
    go_enter Tryz.func136, Tryz.ntmps136
    go_wp2_with fail
    refine hv1.mono ?_
    rintro e W ⟨rfl, rfl⟩
    go_wp2_with fail
    refine (refuse_any DW.m.snk).mono ?_
    rintro e w1 ⟨rfl, hw1⟩
    rw [← hw1] at DW
    clear hw1
    go_wp2
    go_ret
    exact ⟨4, ν, rfl, by rw [sendSg, if_neg (by omega)]; exact DW.mono (by omega), .inl ⟨fun q => HNV.out (by omega), rfl, rfl⟩⟩

end Go.Proofs.Qxb6500877aGreatDoor
