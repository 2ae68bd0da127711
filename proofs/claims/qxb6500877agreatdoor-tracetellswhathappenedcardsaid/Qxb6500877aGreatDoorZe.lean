import Derived.Test.Qxb6500877aGreatDoorZd0
import Derived.Test.Qxb6500877aGreatDoorQf
set_option linter.unusedVariables false
set_option linter.unusedSimpArgs false
namespace Go.Proofs.Qxb6500877aGreatDoor
open Go.RowKit

theorem tm_of {s : Wheel} {L : Option (Nat × Nat) → List Nat} {fr : List Nat} {f : Int → Option Int} {τ : TSt} {k : Nat} (T : TW s L fr f τ k) {x : Nat} (h : Pend L [] x) : ∃ v, τ.tm (s.nd x).id = some v := by
  rw [← T.tm]
  unfold tmOf
  rw [(T.wo.inm x h).1]
  exact ⟨_, rfl⟩
theorem full_of {s : Wheel} {L : Option (Nat × Nat) → List Nat} {f : Int → Option Int} {τ : TSt} {k : Nat} (I : WInv s L [] f []) (T : TW s L [] f τ k) : FullT τ := by
  have hp : ∀ x, x < 64 → Pend L [] x := fun x hx => by
    rcases T.wo.all x hx with h | h
    · simp at h
    · exact h
  refine ⟨(List.range 64).map (fun x => (s.nd x).id), ?_, by simp, fun id hid => ?_⟩
  · rw [List.Nodup, List.pairwise_map]
    refine (List.nodup_range (n := 64)).imp_of_mem (fun {a b} ha hb hab e => ?_)
    exact hab (T.wo.inj (hp a (List.mem_range.1 ha)) (hp b (List.mem_range.1 hb)) e)
  · obtain ⟨x, hx, rfl⟩ := List.mem_map.1 hid
    exact tm_of T (hp x (List.mem_range.1 hx))
theorem room_of {s : Wheel} {L : Option (Nat × Nat) → List Nat} {fr : List Nat} {i : Nat} {f : Int → Option Int} {τ : TSt} {k : Nat} (I : WInv s L (i :: fr) f []) (T : TW s L (i :: fr) f τ k) : RoomT τ := by
  have hi : i < 64 := NC_lt _ _ I.fre i (by simp)
  refine ⟨((List.range 64).erase i).map (fun x => (s.nd x).id), ?_, fun id v h => ?_⟩
  · rw [List.length_map, List.length_erase_of_mem (List.mem_range.2 hi)]
    simp
  · rw [← T.tm] at h
    unfold tmOf at h
    cases hf : f id with
    | none => rw [hf] at h; cases h
    | some j =>
      obtain ⟨x, rfl, hx, rfl, hr⟩ := I.map _ _ hf
      refine List.mem_map.2 ⟨x, (List.mem_erase_of_ne (fun e => ?_)).2 (List.mem_range.2 hx), rfl⟩
      subst e
      have h1 := I.frl x (by simp)
      rcases hr with h | ⟨r, h⟩
      · simp at h
      · have h2 := (I.mem r x h).2.2.1
        rw [h1] at h2
        match r, h2 with
        | none, h2 => simp [lvOf] at h2
        | some (a, b), h2 => simp [lvOf] at h2
set_option maxHeartbeats 4000000 in
theorem armAt_m2 {w : World} {B mb t k : Nat} {ν : Net} {τ : TSt} {σ : Sg} {d : Nat} (M : Mach w B mb t k ν τ σ) (hk : k < 900000) (c : Int) (hd : d < 18446744073709551616) (ck : Int) : Calls Tryz.prog 68 #[.pointer (some ⟨B, 0, none⟩), .int .i64 c, .int .u64 (d : Int), .int .u64 ck] w fun e w' => ∃ (a z : Int) (τ' : TSt) (σ' : Sg), e = .returned (.tuple #[.int .u64 a, .int .i64 z]) ∧ Done w w' B mb t (k + 1) ν τ' σ' ∧ ArmR2 τ σ c d ck a z τ' σ' := by
  obtain ⟨s, L, fr, f, T, I, en, em, tw⟩ := M.tim
  have HTW := hideIt tw
  clear tw
  have hcl := M.clk
  by_cases hc : 0 ≤ c ∧ c < 4
  · obtain ⟨y, rfl, hy⟩ : ∃ y : Nat, c = y ∧ y < 4 := ⟨c.toNat, by omega, by omega⟩
    have hvc := validCore_any (y : Int) w
    rw [decide_eq_true hc] at hvc
    have hfull := full_any T.wh
    have HC := hideIt hc
    have HM := hideIt em
    obtain ⟨j0, j1⟩ := hc
    clear em
    match fr, I, HTW with
    | [], I, HTW =>
      have hfr : s.free = -1 := I.fre
      rw [decide_eq_true hfr] at hfull
      clear hfr en
      go_enter Tryz.func68, Tryz.ntmps68
      go_wp2_with fail
      refine hvc.mono ?_
      rintro e w ⟨rfl, rfl⟩
      go_wp2_with fail
      refine hfull.mono ?_
      rintro e w ⟨rfl, rfl⟩
      go_wp2_with fail
      refine (refuse_any M.snk).mono ?_
      rintro e w1 ⟨rfl, rfl⟩
      go_wp2
      go_ret2
      exact ⟨0, 9, τ, σ, rfl, (Done.refl M).mono (by omega), .inl ⟨by omega, rfl, rfl, rfl⟩, .inr (.inl ⟨rfl, HC.out, full_of I HTW.out⟩)⟩
    | i :: fr, I, HTW =>
      have HRM := hideIt (room_of I HTW.out)
      have hfr : ¬ (s.free = -1) := by have := I.fre.1; omega
      rw [decide_eq_false hfr] at hfull
      clear hfr
      have EN := hideIt en
      clear en
      go_enter Tryz.func68, Tryz.ntmps68
      go_wp2_with fail
      refine hvc.mono ?_
      rintro e w ⟨rfl, rfl⟩
      go_wp2_with fail
      refine hfull.mono ?_
      rintro e w ⟨rfl, rfl⟩
      go_wp2_with fail
      refine (arm_t T I EN.out HC.out hd (by omega) HTW.out.wo HTW.out.n0 (by have := HTW.out.n1; omega)).mono ?_
      rintro e w1 ⟨rfl, ⟨s', L', fr', f', T1, I1, wo1, tm1, nx1, e1, e2⟩, M1⟩
      rw [HM.out] at M1 e2
      obtain ⟨τ', hτ'⟩ : ∃ τ' : TSt, τ' = ⟨updT τ.tm τ.nx (some ⟨(y : Int), (d : Int), ck⟩), τ.nx + 1⟩ := ⟨_, rfl⟩
      have tw1 : TW s' L' fr' f' τ' (k + 1) := ⟨wo1, by rw [tm1, HTW.out.tm, HTW.out.nx, hτ'], by rw [nx1, HTW.out.nx, hτ'], by rw [nx1]; have := HTW.out.n0; omega, by rw [nx1]; have := HTW.out.n1; omega⟩
      have HTT := hideIt hτ'
      have HNX : Hid (s.nid = τ.nx) := hideIt HTW.out.nx
      clear hτ' wo1 tm1 nx1
      have D1 : Done w w1 B mb t (k + 1) ν τ' σ := (Done.refl M).wheel (by omega) M1 ⟨s', L', fr', f', T1, I1, e1, e2, tw1⟩
      obtain ⟨v1, E1, hv1⟩ := D1.m.cntf (f := 4) hy (by omega)
      have fz := D1.m.frz
      clear T1 I1 M1 e1 e2 tw1
      go_upto_region 6 with fail
      go_cut [] (fun wc => Done w wc B mb t (k + 1) ν τ' (σ.inc (y * 7 + 4)))
      case first =>
        refine wp_region_held_drew (S := (fun _ => True)) (by kernel_rfl) trivial (fun hHeld => ?_)
        refine wpAnyH_take (i := 0) (oi := { dst := some 29, op := Go.Op.move (Go.Operand.tmp 0), type := 24, pos := _, after := #[], guard := none }) (v := ?vv1) rfl (by kernel_rfl) (by kernel_rfl) (by kernel_rfl) (fun _ _ _ h => h) (Or.inl ⟨by rfl, ?hy1⟩) (by assumption) ?tk1
        case hy1 => (intro w hSw; (try dsimp only at hSw); go_simp; (try with_reducible rfl))
        try simp only [Act.put, List.setIfInBounds_toArray, List.set_cons_zero, List.set_cons_succ]
        refine wpAnyH_take (i := 1) (oi := { dst := some 30, op := Go.Op.move (Go.Operand.tmp 1), type := 34, pos := _, after := #[], guard := none }) (v := ?vv2) rfl (by kernel_rfl) (by kernel_rfl) (by kernel_rfl) (fun _ _ _ h => h) (Or.inl ⟨by rfl, ?hy2⟩) (by assumption) ?tk2
        case hy2 => (intro w hSw; (try dsimp only at hSw); go_simp; (try with_reducible rfl))
        try simp only [Act.put, List.setIfInBounds_toArray, List.set_cons_zero, List.set_cons_succ]
        refine wpAnyH_take (i := 2) (oi := { dst := some 31, op := Go.Op.nilCheck (Go.Operand.tmp 29), type := 0, pos := _, after := #[{ on := 0, ground := Go.Ground.data }], guard := none }) (v := ?vv3) rfl (by kernel_rfl) (by kernel_rfl) (by kernel_rfl) (fun _ _ _ h => h) (Or.inl ⟨by rfl, ?hy3⟩) (by assumption) ?tk3
        case hy3 => (intro w hSw; (try dsimp only at hSw); go_simp; (try with_reducible rfl))
        try simp only [Act.put, List.setIfInBounds_toArray, List.set_cons_zero, List.set_cons_succ]
        refine wpAnyH_take (i := 3) (oi := { dst := some 32, op := Go.Op.fieldAddr 190 (Go.Operand.tmp 31) 4, type := 0, pos := _, after := #[{ on := 2, ground := Go.Ground.data }], guard := none }) (v := ?vv4) rfl (by kernel_rfl) (by kernel_rfl) (by kernel_rfl) (fun _ _ _ h => h) (Or.inl ⟨by rfl, ?hy4⟩) (by assumption) ?tk4
        case hy4 => (intro w hSw; (try dsimp only at hSw); go_simp; (try with_reducible rfl))
        try simp only [Act.put, List.setIfInBounds_toArray, List.set_cons_zero, List.set_cons_succ]
        refine wpAnyH_take (i := 4) (oi := { dst := some 33, op := Go.Op.indexAddr 133 (Go.Operand.tmp 32) (Go.Operand.tmp 30), type := 0, pos := _, after := #[{ on := 3, ground := Go.Ground.data }, { on := 1, ground := Go.Ground.data }], guard := none }) (v := ?vv5) rfl (by kernel_rfl) (by kernel_rfl) (by kernel_rfl) (fun _ _ _ h => h) (Or.inl ⟨by rfl, ?hy5⟩) (by assumption) ?tk5
        case hy5 => (intro w hSw; (try dsimp only at hSw); go_simp; (try with_reducible rfl))
        try simp only [Act.put, List.setIfInBounds_toArray, List.set_cons_zero, List.set_cons_succ]
        refine wpAnyH_take (i := 5) (oi := { dst := some 34, op := Go.Op.fieldAddr 52 (Go.Operand.tmp 33) 4, type := 0, pos := _, after := #[{ on := 4, ground := Go.Ground.data }], guard := none }) (v := ?vv6) rfl (by kernel_rfl) (by kernel_rfl) (by kernel_rfl) (fun _ _ _ h => h) (Or.inl ⟨by rfl, ?hy6⟩) (by assumption) ?tk6
        case hy6 => (intro w hSw; (try dsimp only at hSw); go_simp; (try with_reducible rfl))
        try simp only [Act.put, List.setIfInBounds_toArray, List.set_cons_zero, List.set_cons_succ]
        refine wpAnyH_take (i := 8) (oi := { dst := some 37, op := Go.Op.nilCheck (Go.Operand.tmp 29), type := 0, pos := _, after := #[{ on := 0, ground := Go.Ground.data }], guard := none }) (v := ?vv7) rfl (by kernel_rfl) (by kernel_rfl) (by kernel_rfl) (fun _ _ _ h => h) (Or.inl ⟨by rfl, ?hy7⟩) (by assumption) ?tk7
        case hy7 => (intro w hSw; (try dsimp only at hSw); go_simp; (try with_reducible rfl))
        try simp only [Act.put, List.setIfInBounds_toArray, List.set_cons_zero, List.set_cons_succ]
        refine wpAnyH_take (i := 9) (oi := { dst := some 38, op := Go.Op.fieldAddr 190 (Go.Operand.tmp 37) 4, type := 0, pos := _, after := #[{ on := 8, ground := Go.Ground.data }], guard := none }) (v := ?vv8) rfl (by kernel_rfl) (by kernel_rfl) (by kernel_rfl) (fun _ _ _ h => h) (Or.inl ⟨by rfl, ?hy8⟩) (by assumption) ?tk8
        case hy8 => (intro w hSw; (try dsimp only at hSw); go_simp; (try with_reducible rfl))
        try simp only [Act.put, List.setIfInBounds_toArray, List.set_cons_zero, List.set_cons_succ]
        refine wpAnyH_ready (rs := [6]) (by kernel_rfl) (by simp) ?_
        refine AllReadyH.cons (o := { dst := some 35, op := Go.Op.load 28 (Go.Operand.tmp 34), type := 28, pos := _, after := #[{ on := 5, ground := Go.Ground.data }], guard := none }) rfl (fun K' hK' => ?_) AllReadyH.nil
        go_simp
        clear hHeld
        refine hK'.out _ _ trivial (fun hHeld => ?_)
        clear hK' K'
        try simp only [Act.put, List.setIfInBounds_toArray, List.set_cons_zero, List.set_cons_succ]
        refine wpAnyH_take (i := 7) (oi := { dst := some 36, op := Go.Op.binOp Go.BinOp.add 28 (Go.Operand.tmp 35) (Go.Operand.const (Go.Value.int Go.IntKind.u64 1)) 28, type := 28, pos := _, after := #[{ on := 6, ground := Go.Ground.data }], guard := none }) (v := ?vv9) rfl (by kernel_rfl) (by kernel_rfl) (by kernel_rfl) (fun _ _ _ h => h) (Or.inl ⟨by rfl, ?hy9⟩) (by assumption) ?tk9
        case hy9 => (intro w hSw; (try dsimp only at hSw); go_simp; (try with_reducible rfl))
        try simp only [Act.put, List.setIfInBounds_toArray, List.set_cons_zero, List.set_cons_succ]
        refine wpAnyH_take (i := 10) (oi := { dst := some 39, op := Go.Op.indexAddr 133 (Go.Operand.tmp 38) (Go.Operand.tmp 30), type := 0, pos := _, after := #[{ on := 9, ground := Go.Ground.data }, { on := 1, ground := Go.Ground.data }, { on := 0, ground := Go.Ground.phase }, { on := 1, ground := Go.Ground.phase }, { on := 2, ground := Go.Ground.phase }, { on := 3, ground := Go.Ground.phase }, { on := 4, ground := Go.Ground.phase }, { on := 5, ground := Go.Ground.phase }, { on := 6, ground := Go.Ground.phase }, { on := 7, ground := Go.Ground.phase }], guard := none }) (v := ?vv10) rfl (by kernel_rfl) (by kernel_rfl) (by kernel_rfl) (fun _ _ _ h => h) (Or.inl ⟨by rfl, ?hy10⟩) (by assumption) ?tk10
        case hy10 => (intro w hSw; (try dsimp only at hSw); go_simp; (try with_reducible rfl))
        try simp only [Act.put, List.setIfInBounds_toArray, List.set_cons_zero, List.set_cons_succ]
        refine wpAnyH_take (i := 11) (oi := { dst := some 40, op := Go.Op.fieldAddr 52 (Go.Operand.tmp 39) 4, type := 0, pos := _, after := #[{ on := 10, ground := Go.Ground.data }, { on := 0, ground := Go.Ground.phase }, { on := 1, ground := Go.Ground.phase }, { on := 2, ground := Go.Ground.phase }, { on := 3, ground := Go.Ground.phase }, { on := 4, ground := Go.Ground.phase }, { on := 5, ground := Go.Ground.phase }, { on := 6, ground := Go.Ground.phase }, { on := 7, ground := Go.Ground.phase }], guard := none }) (v := ?vv11) rfl (by kernel_rfl) (by kernel_rfl) (by kernel_rfl) (fun _ _ _ h => h) (Or.inl ⟨by rfl, ?hy11⟩) (by assumption) ?tk11
        case hy11 => (intro w hSw; (try dsimp only at hSw); go_simp; (try with_reducible rfl))
        try simp only [Act.put, List.setIfInBounds_toArray, List.set_cons_zero, List.set_cons_succ]
        refine wpAnyH_ready (rs := [12]) (by kernel_rfl) (by simp) ?_
        refine AllReadyH.cons (o := { dst := none, op := Go.Op.store 28 (Go.Operand.tmp 40) (Go.Operand.tmp 36), type := 0, pos := _, after := #[{ on := 11, ground := Go.Ground.data }, { on := 7, ground := Go.Ground.data }, { on := 0, ground := Go.Ground.phase }, { on := 1, ground := Go.Ground.phase }, { on := 2, ground := Go.Ground.phase }, { on := 3, ground := Go.Ground.phase }, { on := 4, ground := Go.Ground.phase }, { on := 5, ground := Go.Ground.phase }, { on := 6, ground := Go.Ground.phase }, { on := 7, ground := Go.Ground.phase }], guard := none }) rfl (fun K' hK' => ?_) AllReadyH.nil
        go_simp
        clear hHeld
        refine hK'.out _ _ trivial (fun hHeld => ?_)
        clear hK' K'
        try simp only [Act.put, List.setIfInBounds_toArray, List.set_cons_zero, List.set_cons_succ]
        refine wpAnyH_done (by kernel_rfl) ?_ _
        go_wp2
        go_meet
        case rel => exact (D1.statf hy (f := 4) (by omega) E1).drew
      case rest =>
        have D2 := hcut
        have hc1 := D2.m.clk
        have hlt1 := D2.m.lt
        have hne1 : ¬ (B = wc.heap.size) := by omega
        clear fz hv1 D1 hcut
        go_wp2_with fail
        refine (noteTimer_any (w := World.alloc _ _) (D2.below (one_alloc _ _)).m.snk).mono ?_
        rintro e w3 ⟨rfl, rfl⟩
        go_wp2
        go_ret2
        exact ⟨s.nid, 0, τ', _, rfl, D2.below (one_alloc _ _), .inr ⟨rfl, HC.out, HNX.out, HTT.out, by rw [Int.toNat_natCast]⟩, .inr (.inr ⟨rfl, HRM.out⟩)⟩
  · have hvc := validCore_any c w
    rw [decide_eq_false hc] at hvc
    clear en em
    go_enter Tryz.func68, Tryz.ntmps68
    go_wp2_with fail
    refine hvc.mono ?_
    rintro e w ⟨rfl, rfl⟩
    go_wp2_with fail
    refine (refuse_any M.snk).mono ?_
    rintro e w1 ⟨rfl, rfl⟩
    go_wp2
    go_ret2
    exact ⟨0, 4, τ, σ, rfl, (Done.refl M).mono (by omega), .inl ⟨by omega, rfl, rfl, rfl⟩, .inl ⟨rfl, hc⟩⟩

set_option maxHeartbeats 1000000 in
theorem armAfter_m2 {w : World} {B mb t k : Nat} {ν : Net} {τ : TSt} {σ : Sg} {d : Nat} (M : Mach w B mb t k ν τ σ) (hk : k < 900000) (c : Int) (hd : d < 18446744073709551616) (ck : Int) : Calls Tryz.prog 70 #[.pointer (some ⟨B, 0, none⟩), .int .i64 c, .int .u64 (d : Int), .int .u64 ck] w fun e w' => ∃ (a z : Int) (τ' : TSt) (σ' : Sg), e = .returned (.tuple #[.int .u64 a, .int .i64 z]) ∧ Done w w' B mb t (k + 1) ν τ' σ' ∧ ArmR2 τ σ c (afterF t d : Nat) ck a z τ' σ' := by
  have hcl := M.clk
  have ha := after_any M.tlt hd w
  have hlt := (afterF_lt t d M.tlt).1
  obtain ⟨q, hq⟩ : ∃ q, Hid (afterF t d = q) := ⟨_, hideIt rfl⟩
  rw [hq.out] at ha hlt
  go_enter Tryz.func70, Tryz.ntmps70
  go_wp2_with fail
  refine ha.mono ?_
  rintro e w ⟨rfl, rfl⟩
  go_wp2_with fail
  refine (armAt_m2 M hk c hlt ck).mono ?_
  rintro e w1 ⟨a, z, τ', σ', rfl, D, hR⟩
  have HR := hideIt hR
  clear hR
  go_wp2
  go_ret2
  exact ⟨a, z, τ', σ', rfl, D, by rw [hq.out]; exact HR.out⟩

end Go.Proofs.Qxb6500877aGreatDoor
