import Derived.Test.Qxb6500877aGreatDoorPMh
set_option linter.unusedVariables false
set_option linter.unusedSimpArgs false
namespace Go.Proofs.Qxb6500877aGreatDoor
open Go.RowKit



/-- The first i rounds of a broadcast. -/
def BcR (x : Nat) (kd now x0 x1 x2 x3 : Int) : Nat → Net → Net → Prop
  | 0, ν, ν' => ν' = ν
  | i + 1, ν, ν' => ∃ ν1, BcR x kd now x0 x1 x2 x3 i ν ν1 ∧ ((i = x ∧ ν' = ν1) ∨ (i ≠ x ∧ ∃ m, SendR ν1 (x * 4 + i) m true ν' ∧ m = ⟨x, i, kd, m.mq, now, x0, x1, x2, x3⟩))
theorem SendR.other {ν ν' : Net} {i : Nat} {m : MsgV} {ok : Bool} (h : SendR ν i m ok ν') {j : Nat} (hj : j ≠ i) : ν'.box j = ν.box j := by
  rcases h with ⟨_, _, rfl⟩ | ⟨_, _, _, h, n, _, _, _, _, rfl⟩
  · rfl
  · simp [sendF, Net.setBusy, Net.setBox, hj]
theorem BcR.later {x : Nat} {kd now x0 x1 x2 x3 : Int} {ν : Net} : ∀ {i : Nat} {ν' : Net}, BcR x kd now x0 x1 x2 x3 i ν ν' → ∀ j, i ≤ j → ν'.box (x * 4 + j) = ν.box (x * 4 + j)
  | 0, ν', h, j, _ => by rw [show ν' = ν from h]
  | i + 1, ν', ⟨ν1, h1, h2⟩, j, hj => by
    rw [← BcR.later h1 j (by omega)]
    rcases h2 with ⟨_, rfl⟩ | ⟨_, m, h, _⟩
    · rfl
    · exact h.other (by omega)
theorem BcR.step {x : Nat} {kd now x0 x1 x2 x3 : Int} {ν ν1 ν' : Net} {i : Nat} {m : MsgV} {ok : Bool} (h : BcR x kd now x0 x1 x2 x3 i ν ν1) (hix : ¬ (i = x)) (hf : (ν.box (x * 4 + i)).n ≠ 32) (hS : SendR ν1 (x * 4 + i) m ok ν') (hm : ok = true → m = ⟨x, i, kd, m.mq, now, x0, x1, x2, x3⟩) : BcR x kd now x0 x1 x2 x3 (i + 1) ν ν' := by
  have e := h.later i (by omega)
  cases ok with
  | true => exact ⟨ν1, h, .inr ⟨hix, m, hS, hm rfl⟩⟩
  | false =>
    rcases hS with ⟨h1, _, _⟩ | ⟨_, h2, _⟩
    · rw [e] at h1; exact absurd h1 hf
    · exact absurd h2 (by simp)
/-- What Broadcast answers, and does to the mailboxes. -/
def BcRes (ν : Net) (a kd now x0 x1 x2 x3 c : Int) (ν' : Net) : Prop :=
  (¬ (0 ≤ a ∧ a < 4) ∧ c = 4 ∧ ν' = ν) ∨ ∃ x : Nat, a = x ∧ x < 4 ∧ ((¬ (∀ k, k < 4 → k ≠ x → (ν.box (x * 4 + k)).n ≠ 32) ∧ c = 8 ∧ ν' = ν) ∨ ((∀ k, k < 4 → k ≠ x → (ν.box (x * 4 + k)).n ≠ 32) ∧ c = 0 ∧ BcR x kd now x0 x1 x2 x3 4 ν ν'))
/-- A counter turned so many times. -/
def Sg.incN (σ : Sg) (j : Nat) : Nat → Sg
  | 0 => σ
  | n + 1 => (σ.incN j n).inc j
def bcN (x i : Nat) : Nat := if x < i then i - 1 else i
theorem bcN_self (x : Nat) : bcN x (x + 1) = bcN x x := by unfold bcN; rw [if_pos (by omega), if_neg (by omega)]; omega
theorem bcN_succ {x i : Nat} (h : i ≠ x) : bcN x (i + 1) = bcN x i + 1 := by unfold bcN; split <;> split <;> omega
theorem bcN_zero (x : Nat) : bcN x 0 = 0 := by unfold bcN; rw [if_neg (by omega)]
/-- The counters behind a broadcast. -/
def bcSg (σ : Sg) (a c : Int) : Sg := if c = 0 then σ.incN (a.toNat * 7 + 2) 3 else σ
theorem heap_set {w : World} {q : Addr} {v : Value} {b : Nat} (h : q.block ≠ b) : (w.setCell q v).heap[b]? = w.heap[b]? := by
  simp only [World.setCell, Array.getElem?_modify]
  rw [if_neg h]
theorem heap_alloc {w : World} {o : Obj} {b : Nat} (h : b < w.heap.size) : (w.alloc o).heap[b]? = w.heap[b]? := (one_alloc w o).block b h
set_option maxHeartbeats 8000000 in
theorem broadcast_m {w : World} {B mb t k : Nat} {ν : Net} {τ : TSt} {σ : Sg} {kd x0 x1 x2 x3 : Int} (M : Mach w B mb t k ν τ σ) (hk : k < 800000) (a : Int) :
    Calls Tryz.prog 135 #[.pointer (some ⟨B, 0, none⟩), .int .i64 a, .int .u32 kd, .agg #[.int .u64 x0, .int .u64 x1, .int .u64 x2, .int .u64 x3]] w fun e w' => ∃ (c : Int) (ν' : Net), e = .returned (.int .i64 c) ∧ Done w w' B mb t (k + 4) ν' τ (bcSg σ a c) ∧ BcRes ν a kd t x0 x1 x2 x3 c ν' := by
  have hB0 := M.lt
  have hM0 := M.mlt
  generalize hW : w.alloc (.cells #[.int .u64 x0, .int .u64 x1, .int .u64 x2, .int .u64 x3] 38) = W at *
  have hb0 : Below w.heap.size w W := by rw [← hW]; exact one_alloc _ _
  have hsz : W.heap.size = w.heap.size + 1 := by rw [← hW]; simp
  have g0 : W.cell? ⟨w.heap.size, 0, none⟩ = some (.int .u64 x0) := by rw [← hW]; simp
  have g1 : W.cell? ⟨w.heap.size, 1, none⟩ = some (.int .u64 x1) := by rw [← hW]; simp
  have g2 : W.cell? ⟨w.heap.size, 2, none⟩ = some (.int .u64 x2) := by rw [← hW]; simp
  have g3 : W.cell? ⟨w.heap.size, 3, none⟩ = some (.int .u64 x3) := by rw [← hW]; simp
  have DW : Done w W B mb t k ν τ σ := (Done.refl M).below hb0
  by_cases hva : 0 ≤ a ∧ a < 4
  · obtain ⟨x, rfl, hx⟩ : ∃ x : Nat, a = x ∧ x < 4 := ⟨a.toNat, by omega, by omega⟩
    have hv1 := validCore_any (x : Int) W
    rw [decide_eq_true hva] at hv1
    obtain ⟨j0, j1⟩ := hva
    obtain ⟨N, K⟩ := DW.m.net
    have hroom := roomForAll_any N hx
    clear K N
    go_enter Tryz.func135, Tryz.ntmps135
    go_wp2_with fail
    refine hv1.mono ?_
    rintro e W ⟨rfl, rfl⟩
    go_wp2_with fail
    refine hroom.mono ?_
    rintro e w2 ⟨⟨r, rfl, hro⟩, hb2⟩
    have HRO := hideIt hro
    clear hro
    have D2 : Done w w2 B mb t k ν τ σ := DW.below hb2
    have hr2 : w2.heap[w.heap.size]? = W.heap[w.heap.size]? := hb2.block _ (by omega)
    clear hroom hb2 DW
    match r with
    | false =>
      go_wp2_with fail
      refine (refuse_any D2.m.snk).mono ?_
      rintro e w1 ⟨rfl, hw1⟩
      rw [← hw1] at D2
      clear hw1
      go_wp2
      go_ret
      exact ⟨8, ν, rfl, by rw [bcSg, if_neg (by omega)]; exact D2.mono (by omega), .inr ⟨x, rfl, hx, .inl ⟨fun q => by have := HRO.out.2 q; simp at this, rfl, rfl⟩⟩⟩
    | true =>
      have HFR : Hid (∀ k, k < 4 → k ≠ x → (ν.box (x * 4 + k)).n ≠ 32) := hideIt (HRO.out.1 rfl)
      clear HRO
      go_wp2_with fail
      go_loopg [9] 4 (fun g v wr => ∃ (i : Nat) (νi : Net), i + g = 4 ∧ v = .int .i64 (i : Int) ∧ Done w wr B mb t (k + i) νi τ (σ.incN (x * 7 + 2) (bcN x i)) ∧ wr.heap[w.heap.size]? = W.heap[w.heap.size]? ∧ Hid (BcR x kd t x0 x1 x2 x3 i ν νi))
      case atStart => exact ⟨0, ν, by omega, rfl, by rw [bcN_zero]; exact D2, hr2, hideIt rfl⟩
      case round =>
        clear D2 hr2
        obtain ⟨i, νi, hi, rfl, DR, hrow, HB⟩ := hrel
        by_cases hi4 : i < 4
        · have i0 : (0 : Int) ≤ i := by omega
          have i1 : (i : Int) < 4 := by omega
          by_cases hix : i = x
          · subst hix
            go_wp2
            go_roundg (4 - (i + 1))
            case measure => omega
            case rel => exact ⟨i + 1, νi, by omega, by go_num, by rw [bcN_self]; exact DR.mono (by omega), hrow, hideIt ⟨νi, HB.out, .inl ⟨rfl, rfl⟩⟩⟩
          · have hbx : ((i : Int) == (x : Int)) = false := by simp; omega
            have hix' : ¬ ((i : Int) = (x : Int)) := by omega
            have f0 : wr.cell? ⟨w.heap.size, 0, none⟩ = some (.int .u64 x0) := (World.cell?_of_block (a := ⟨w.heap.size, 0, none⟩) hrow).trans g0
            have f1 : wr.cell? ⟨w.heap.size, 1, none⟩ = some (.int .u64 x1) := (World.cell?_of_block (a := ⟨w.heap.size, 1, none⟩) hrow).trans g1
            have f2 : wr.cell? ⟨w.heap.size, 2, none⟩ = some (.int .u64 x2) := (World.cell?_of_block (a := ⟨w.heap.size, 2, none⟩) hrow).trans g2
            have f3 : wr.cell? ⟨w.heap.size, 3, none⟩ = some (.int .u64 x3) := (World.cell?_of_block (a := ⟨w.heap.size, 3, none⟩) hrow).trans g3
            have hcl := DR.m.clk
            have hltr := DR.m.lt
            have hbr : w.heap.size ≤ wr.heap.size := DR.f.size
            have hwr : w.heap.size < wr.heap.size := World.block_lt_of_cell? _ _ f0
            have hmlr := DR.m.mlt
            have G := hideIt (And.intro g0 (And.intro g1 (And.intro g2 g3)))
            clear g0 g1 g2 g3
            go_upto_region 9 with fail
            go_cut [] (fun wc => ∃ νj : Net, Done w wc B mb t (k + i + 1) νj τ (σ.incN (x * 7 + 2) (bcN x i)) ∧ wc.heap[w.heap.size]? = W.heap[w.heap.size]? ∧ Hid (BcR x kd t x0 x1 x2 x3 (i + 1) ν νj))
            case first =>
              have DB : Done w (wr.alloc (.cells #[.int .i64 0, .int .i64 0, .int .u32 0, .int .u64 0, .int .u64 0, .int .u64 0, .int .u64 0, .int .u64 0, .int .u64 0] 40)).drew B mb t (k + i) νi τ (σ.incN (x * 7 + 2) (bcN x i)) := (DR.below (one_alloc _ _)).drew
              have NB : Nine (wr.alloc (.cells #[.int .i64 0, .int .i64 0, .int .u32 0, .int .u64 0, .int .u64 0, .int .u64 0, .int .u64 0, .int .u64 0, .int .u64 0] 40)).drew wr.heap.size msg0 := nine_new wr
              have hsB : (wr.alloc (.cells #[.int .i64 0, .int .i64 0, .int .u32 0, .int .u64 0, .int .u64 0, .int .u64 0, .int .u64 0, .int .u64 0, .int .u64 0] 40)).drew.heap.size = wr.heap.size + 1 := by
                show (wr.alloc (.cells #[.int .i64 0, .int .i64 0, .int .u32 0, .int .u64 0, .int .u64 0, .int .u64 0, .int .u64 0, .int .u64 0, .int .u64 0] 40)).heap.size = _
                simp
              have q1 : ¬ (wr.heap.size = B) := by omega
              have q2 : ¬ (B = wr.heap.size) := by omega
              have q3 : ¬ (wr.heap.size = w.heap.size) := by omega
              have q4 : ¬ (w.heap.size = wr.heap.size) := by omega
              go_region_with (first | (go_at_call 182; refine (send_net (w := World.drew wr) DR.drew.m (by omega) hx hi4).mono ?_; rintro e w1 ⟨m, ok, νj, rfl, D1, hS, hm⟩; have HS := hideIt (HB.out.step hix (HFR.out i hi4 hix) hS hm); clear hS hm; have s1 := D1.f.block w.heap.size hwr (by omega) (by omega); have s2 := D1.f.size; simp only [msgV]) | (go_at_call 182; refine (send_net (w := World.drew (World.alloc wr _)) DB.m (by omega) hx hi4).mono ?_; rintro e w1 ⟨m, ok, νj, rfl, D1, hS, hm⟩; have HS := hideIt (HB.out.step hix (HFR.out i hi4 hix) hS hm); clear hS hm; have s1 := D1.f.block w.heap.size (by omega) (by omega) (by omega); have N1 := NB.blk (D1.f.block wr.heap.size (by omega) (by omega) (by omega)); obtain ⟨y0, y1, y2, y3, y4, y5, y6, y7, y8, yf⟩ := N1; simp only [msgV]) | fail)
              all_goals go_wp2
              all_goals go_meet
              all_goals case rel => first | exact ⟨νj, (DR.drew.trans D1).below (one_alloc _ _), (heap_alloc (Nat.lt_of_lt_of_le hwr s2)).trans (s1.trans hrow), HS⟩ | (refine ⟨νj, ((((((((((DB.trans D1).fresh ⟨wr.heap.size, 0, none⟩ hbr hB0 hM0 _).fresh ⟨wr.heap.size, 1, none⟩ hbr hB0 hM0 _).fresh ⟨wr.heap.size, 2, none⟩ hbr hB0 hM0 _).fresh ⟨wr.heap.size, 3, none⟩ hbr hB0 hM0 _).fresh ⟨wr.heap.size, 4, none⟩ hbr hB0 hM0 _).fresh ⟨wr.heap.size, 5, none⟩ hbr hB0 hM0 _).fresh ⟨wr.heap.size, 6, none⟩ hbr hB0 hM0 _).fresh ⟨wr.heap.size, 7, none⟩ hbr hB0 hM0 _).fresh ⟨wr.heap.size, 8, none⟩ hbr hB0 hM0 _), ?_, HS⟩; rw [heap_set q3, heap_set q3, heap_set q3, heap_set q3, heap_set q3, heap_set q3, heap_set q3, heap_set q3, heap_set q3]; exact s1.trans ((heap_alloc hwr).trans hrow))
            case rest =>
              obtain ⟨νj, D1, hrow1, HS⟩ := hcut
              clear f0 f1 f2 f3 hcl DR hrow
              obtain ⟨v1, E1, hv1⟩ := D1.m.cntf (f := 2) hx (by omega)
              have fz := D1.m.frz
              go_wp2_with fail
              refine wp_region_held_drew (S := (fun _ => True)) (by kernel_rfl) trivial (fun hHeld => ?_)
              refine wpAnyH_take (i := 0) (oi := { dst := some 48, op := Go.Op.move (Go.Operand.tmp 0), type := 24, pos := _, after := #[], guard := none }) (v := ?vv1) rfl (by kernel_rfl) (by kernel_rfl) (by kernel_rfl) (fun _ _ _ h => h) (Or.inl ⟨by rfl, ?hy1⟩) (by assumption) ?tk1
              case hy1 => (intro w hSw; (try dsimp only at hSw); go_simp; (try with_reducible rfl))
              try simp only [Act.put, List.setIfInBounds_toArray, List.set_cons_zero, List.set_cons_succ]
              refine wpAnyH_take (i := 1) (oi := { dst := some 49, op := Go.Op.move (Go.Operand.tmp 1), type := 34, pos := _, after := #[], guard := none }) (v := ?vv2) rfl (by kernel_rfl) (by kernel_rfl) (by kernel_rfl) (fun _ _ _ h => h) (Or.inl ⟨by rfl, ?hy2⟩) (by assumption) ?tk2
              case hy2 => (intro w hSw; (try dsimp only at hSw); go_simp; (try with_reducible rfl))
              try simp only [Act.put, List.setIfInBounds_toArray, List.set_cons_zero, List.set_cons_succ]
              refine wpAnyH_take (i := 2) (oi := { dst := some 50, op := Go.Op.nilCheck (Go.Operand.tmp 48), type := 0, pos := _, after := #[{ on := 0, ground := Go.Ground.data }], guard := none }) (v := ?vv3) rfl (by kernel_rfl) (by kernel_rfl) (by kernel_rfl) (fun _ _ _ h => h) (Or.inl ⟨by rfl, ?hy3⟩) (by assumption) ?tk3
              case hy3 => (intro w hSw; (try dsimp only at hSw); go_simp; (try with_reducible rfl))
              try simp only [Act.put, List.setIfInBounds_toArray, List.set_cons_zero, List.set_cons_succ]
              refine wpAnyH_take (i := 3) (oi := { dst := some 51, op := Go.Op.fieldAddr 190 (Go.Operand.tmp 50) 4, type := 0, pos := _, after := #[{ on := 2, ground := Go.Ground.data }], guard := none }) (v := ?vv4) rfl (by kernel_rfl) (by kernel_rfl) (by kernel_rfl) (fun _ _ _ h => h) (Or.inl ⟨by rfl, ?hy4⟩) (by assumption) ?tk4
              case hy4 => (intro w hSw; (try dsimp only at hSw); go_simp; (try with_reducible rfl))
              try simp only [Act.put, List.setIfInBounds_toArray, List.set_cons_zero, List.set_cons_succ]
              refine wpAnyH_take (i := 4) (oi := { dst := some 52, op := Go.Op.indexAddr 133 (Go.Operand.tmp 51) (Go.Operand.tmp 49), type := 0, pos := _, after := #[{ on := 3, ground := Go.Ground.data }, { on := 1, ground := Go.Ground.data }], guard := none }) (v := ?vv5) rfl (by kernel_rfl) (by kernel_rfl) (by kernel_rfl) (fun _ _ _ h => h) (Or.inl ⟨by rfl, ?hy5⟩) (by assumption) ?tk5
              case hy5 => (intro w hSw; (try dsimp only at hSw); go_simp; (try with_reducible rfl))
              try simp only [Act.put, List.setIfInBounds_toArray, List.set_cons_zero, List.set_cons_succ]
              refine wpAnyH_take (i := 5) (oi := { dst := some 53, op := Go.Op.fieldAddr 52 (Go.Operand.tmp 52) 2, type := 0, pos := _, after := #[{ on := 4, ground := Go.Ground.data }], guard := none }) (v := ?vv6) rfl (by kernel_rfl) (by kernel_rfl) (by kernel_rfl) (fun _ _ _ h => h) (Or.inl ⟨by rfl, ?hy6⟩) (by assumption) ?tk6
              case hy6 => (intro w hSw; (try dsimp only at hSw); go_simp; (try with_reducible rfl))
              try simp only [Act.put, List.setIfInBounds_toArray, List.set_cons_zero, List.set_cons_succ]
              refine wpAnyH_take (i := 8) (oi := { dst := some 56, op := Go.Op.nilCheck (Go.Operand.tmp 48), type := 0, pos := _, after := #[{ on := 0, ground := Go.Ground.data }], guard := none }) (v := ?vv7) rfl (by kernel_rfl) (by kernel_rfl) (by kernel_rfl) (fun _ _ _ h => h) (Or.inl ⟨by rfl, ?hy7⟩) (by assumption) ?tk7
              case hy7 => (intro w hSw; (try dsimp only at hSw); go_simp; (try with_reducible rfl))
              try simp only [Act.put, List.setIfInBounds_toArray, List.set_cons_zero, List.set_cons_succ]
              refine wpAnyH_take (i := 9) (oi := { dst := some 57, op := Go.Op.fieldAddr 190 (Go.Operand.tmp 56) 4, type := 0, pos := _, after := #[{ on := 8, ground := Go.Ground.data }], guard := none }) (v := ?vv8) rfl (by kernel_rfl) (by kernel_rfl) (by kernel_rfl) (fun _ _ _ h => h) (Or.inl ⟨by rfl, ?hy8⟩) (by assumption) ?tk8
              case hy8 => (intro w hSw; (try dsimp only at hSw); go_simp; (try with_reducible rfl))
              try simp only [Act.put, List.setIfInBounds_toArray, List.set_cons_zero, List.set_cons_succ]
              refine wpAnyH_ready (rs := [6]) (by kernel_rfl) (by simp) ?_
              refine AllReadyH.cons (o := { dst := some 54, op := Go.Op.load 28 (Go.Operand.tmp 53), type := 28, pos := _, after := #[{ on := 5, ground := Go.Ground.data }], guard := none }) rfl (fun K' hK' => ?_) AllReadyH.nil
              go_simp
              clear hHeld
              refine hK'.out _ _ trivial (fun hHeld => ?_)
              clear hK' K'
              try simp only [Act.put, List.setIfInBounds_toArray, List.set_cons_zero, List.set_cons_succ]
              refine wpAnyH_take (i := 7) (oi := { dst := some 55, op := Go.Op.binOp Go.BinOp.add 28 (Go.Operand.tmp 54) (Go.Operand.const (Go.Value.int Go.IntKind.u64 1)) 28, type := 28, pos := _, after := #[{ on := 6, ground := Go.Ground.data }], guard := none }) (v := ?vv9) rfl (by kernel_rfl) (by kernel_rfl) (by kernel_rfl) (fun _ _ _ h => h) (Or.inl ⟨by rfl, ?hy9⟩) (by assumption) ?tk9
              case hy9 => (intro w hSw; (try dsimp only at hSw); go_simp; (try with_reducible rfl))
              try simp only [Act.put, List.setIfInBounds_toArray, List.set_cons_zero, List.set_cons_succ]
              refine wpAnyH_take (i := 10) (oi := { dst := some 58, op := Go.Op.indexAddr 133 (Go.Operand.tmp 57) (Go.Operand.tmp 49), type := 0, pos := _, after := #[{ on := 9, ground := Go.Ground.data }, { on := 1, ground := Go.Ground.data }, { on := 0, ground := Go.Ground.phase }, { on := 1, ground := Go.Ground.phase }, { on := 2, ground := Go.Ground.phase }, { on := 3, ground := Go.Ground.phase }, { on := 4, ground := Go.Ground.phase }, { on := 5, ground := Go.Ground.phase }, { on := 6, ground := Go.Ground.phase }, { on := 7, ground := Go.Ground.phase }], guard := none }) (v := ?vv10) rfl (by kernel_rfl) (by kernel_rfl) (by kernel_rfl) (fun _ _ _ h => h) (Or.inl ⟨by rfl, ?hy10⟩) (by assumption) ?tk10
              case hy10 => (intro w hSw; (try dsimp only at hSw); go_simp; (try with_reducible rfl))
              try simp only [Act.put, List.setIfInBounds_toArray, List.set_cons_zero, List.set_cons_succ]
              refine wpAnyH_take (i := 11) (oi := { dst := some 59, op := Go.Op.fieldAddr 52 (Go.Operand.tmp 58) 2, type := 0, pos := _, after := #[{ on := 10, ground := Go.Ground.data }, { on := 0, ground := Go.Ground.phase }, { on := 1, ground := Go.Ground.phase }, { on := 2, ground := Go.Ground.phase }, { on := 3, ground := Go.Ground.phase }, { on := 4, ground := Go.Ground.phase }, { on := 5, ground := Go.Ground.phase }, { on := 6, ground := Go.Ground.phase }, { on := 7, ground := Go.Ground.phase }], guard := none }) (v := ?vv11) rfl (by kernel_rfl) (by kernel_rfl) (by kernel_rfl) (fun _ _ _ h => h) (Or.inl ⟨by rfl, ?hy11⟩) (by assumption) ?tk11
              case hy11 => (intro w hSw; (try dsimp only at hSw); go_simp; (try with_reducible rfl))
              try simp only [Act.put, List.setIfInBounds_toArray, List.set_cons_zero, List.set_cons_succ]
              refine wpAnyH_ready (rs := [12]) (by kernel_rfl) (by simp) ?_
              refine AllReadyH.cons (o := { dst := none, op := Go.Op.store 28 (Go.Operand.tmp 59) (Go.Operand.tmp 55), type := 0, pos := _, after := #[{ on := 11, ground := Go.Ground.data }, { on := 7, ground := Go.Ground.data }, { on := 0, ground := Go.Ground.phase }, { on := 1, ground := Go.Ground.phase }, { on := 2, ground := Go.Ground.phase }, { on := 3, ground := Go.Ground.phase }, { on := 4, ground := Go.Ground.phase }, { on := 5, ground := Go.Ground.phase }, { on := 6, ground := Go.Ground.phase }, { on := 7, ground := Go.Ground.phase }], guard := none }) rfl (fun K' hK' => ?_) AllReadyH.nil
              go_simp
              clear hHeld
              refine hK'.out _ _ trivial (fun hHeld => ?_)
              clear hK' K'
              try simp only [Act.put, List.setIfInBounds_toArray, List.set_cons_zero, List.set_cons_succ]
              refine wpAnyH_done (by kernel_rfl) ?_ _
              have D2 := (D1.statf hx (f := 2) (by omega) E1).drew
              have hrow2 : ((wc.setCell ⟨B, 6724 + x * 7 + 2, none⟩ (.int .u64 (IntKind.u64.wrap (v1 + 1)))).drew).heap[w.heap.size]? = W.heap[w.heap.size]? := by
                rw [← hrow1]
                exact heap_set (by show B ≠ w.heap.size; omega)
              go_wp2_with fail
              refine (noteMsg_any (hide_at D2)).mono ?_
              rintro e w3 ⟨rfl, hw3⟩
              rw [← hw3] at D2 hrow2
              clear hw3 hv1 fz D1 hrow1
              go_wp2
              go_roundg (4 - (i + 1))
              case measure => omega
              case rel => exact ⟨i + 1, νj, by omega, by go_num, by rw [bcN_succ hix]; exact D2, hrow2, HS⟩
        · have e4 : i = 4 := by omega
          subst e4
          go_wp2
          go_ret
          have e3 : bcN x 4 = 3 := by unfold bcN; rw [if_pos hx]
          exact ⟨0, νi, rfl, by rw [bcSg, if_pos rfl, Int.toNat_natCast]; rw [e3] at DR; exact DR, .inr ⟨x, rfl, hx, .inr ⟨HFR.out, rfl, HB.out⟩⟩⟩
  · have hv1 := validCore_any a W
    rw [decide_eq_false hva] at hv1
    have HNA := hideIt hva
    go_enter Tryz.func135, Tryz.ntmps135
    go_wp2_with fail
    refine hv1.mono ?_
    rintro e W ⟨rfl, rfl⟩
    go_wp2_with fail
    refine (refuse_any DW.m.snk).mono ?_
    rintro e w1 ⟨rfl, hw1⟩
    rw [← hw1] at DW
    clear hw1
    go_wp2
    go_ret
    exact ⟨4, ν, rfl, by rw [bcSg, if_neg (by omega)]; exact DW.mono (by omega), .inl ⟨HNA.out, rfl, rfl⟩⟩

end Go.Proofs.Qxb6500877aGreatDoor
