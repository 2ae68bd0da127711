import Derived.Deep.CutBlock
import Derived.OwnWalk
import Derived.Maps.AppendAt
import Derived.Test.Qxb6500877aGreatDoorTwh
set_option linter.unusedVariables false
set_option linter.unusedSimpArgs false
namespace Go.Proofs.Qxb6500877aGreatDoor
open Go.RowKit

namespace W
/-- What is told of the first i rounds of a broadcast. -/
def bcE (t : Nat) (ν : Net) (x : Nat) : Nat → List EvS
  | 0 => []
  | i + 1 => bcE t ν x i ++ (if i = x then [] else [evS t ν x i])
theorem bcE_len (t : Nat) (ν : Net) (x : Nat) : ∀ i, (bcE t ν x i).length ≤ i
  | 0 => Nat.le_refl _
  | i + 1 => by
    have := bcE_len t ν x i
    simp only [bcE, List.length_append]
    split <;> simp <;> omega
theorem evS_bc {x t i : Nat} {kd x0 x1 x2 x3 : Int} {ν ν1 ν' : Net} {m : MsgV} {ok : Bool} (h : BcR x kd t x0 x1 x2 x3 i ν ν1) (hf : (ν.box (x * 4 + i)).n ≠ 32) (hS : SendR ν1 (x * 4 + i) m ok ν') (hm : ok = true → m = ⟨x, i, kd, m.mq, t, x0, x1, x2, x3⟩) : evX t 2 m m.mf = evS t ν x i := by
  have e := h.later i (Nat.le_refl _)
  cases ok with
  | true =>
    rw [evS_of hS (hm rfl), e]
    rfl
  | false =>
    rcases hS with ⟨h1, _, _⟩ | ⟨_, h2, _⟩
    · rw [e] at h1; exact absurd h1 hf
    · exact absurd h2 (by simp)
/-- What is told of a broadcast. -/
def tellB (t : Nat) (ν : Net) (a c : Int) : List EvS := if c = 0 then bcE t ν a.toNat 4 else [evR t c]
set_option maxHeartbeats 8000000 in
theorem broadcast_m {w : World} {B mb t k : Nat} {ν : Net} {τ : TSt} {σ : Sg} {Λ : LS} {kd x0 x1 x2 x3 : Int} (M : Mach w B mb t k ν τ σ Λ) (hl : Λ.l.length < 999999000) (hk : k < 800000) (a : Int) :
    Calls Tryz.prog 135 #[.pointer (some ⟨B, 0, none⟩), .int .i64 a, .int .u32 kd, .agg #[.int .u64 x0, .int .u64 x1, .int .u64 x2, .int .u64 x3]] w fun e w' => ∃ (c : Int) (ν' : Net), e = .returned (.int .i64 c) ∧ (∃ Λ', Done w w' B mb t (k + 4) ν' τ (bcSg σ a c) Λ Λ' ∧ Λ'.l = Λ.l ++ tellB t ν a c) ∧ BcRes ν a kd t x0 x1 x2 x3 c ν' := by
  have FL : ∀ q, w.heap.size ≤ q → Far Λ q := fun q hq => M.far hq
  have hB0 := M.lt
  have hM0 := M.mlt
  generalize hW : w.alloc (.cells #[.int .u64 x0, .int .u64 x1, .int .u64 x2, .int .u64 x3] 38) = W at *
  have hb0 : Below w.heap.size w W := by rw [← hW]; exact one_alloc _ _
  have hsz : W.heap.size = w.heap.size + 1 := by rw [← hW]; simp
  have g0 : W.cell? ⟨w.heap.size, 0, none⟩ = some (.int .u64 x0) := by rw [← hW]; simp
  have g1 : W.cell? ⟨w.heap.size, 1, none⟩ = some (.int .u64 x1) := by rw [← hW]; simp
  have g2 : W.cell? ⟨w.heap.size, 2, none⟩ = some (.int .u64 x2) := by rw [← hW]; simp
  have g3 : W.cell? ⟨w.heap.size, 3, none⟩ = some (.int .u64 x3) := by rw [← hW]; simp
  have DW : Done w W B mb t k ν τ σ Λ Λ := (Done.refl M).below hb0
  by_cases hva : 0 ≤ a ∧ a < 4
  · obtain ⟨x, rfl, hx⟩ : ∃ x : Nat, a = x ∧ x < 4 := ⟨a.toNat, by omega, by omega⟩
    have hv1 := validCore_any (x : Int) W
    rw [decide_eq_true hva] at hv1
    obtain ⟨j0, j1⟩ := hva
    obtain ⟨N, K⟩ := DW.m.net
    have hroom := roomForAll_any N hx
    clear K N
    go_enter Tryz.func135, Tryz.ntmps135
    go_wp2_with fail
    refine hv1.mono ?_
    rintro e W ⟨rfl, rfl⟩
    go_wp2_with fail
    refine hroom.mono ?_
    rintro e w2 ⟨⟨r, rfl, hro⟩, hb2⟩
    have HRO := hideIt hro
    clear hro
    have D2 : Done w w2 B mb t k ν τ σ Λ Λ := DW.below hb2
    have hr2 : w2.heap[w.heap.size]? = W.heap[w.heap.size]? := hb2.block _ (by omega)
    clear hroom hb2 DW
    match r with
    | false =>
      go_wp2_with fail
      refine (refuse_any D2.m (by omega)).mono ?_
      rintro e w1 ⟨rfl, Λ1, N1, e1⟩
      have D2 := D2.trans N1
      go_wp2
      go_ret
      exact ⟨8, ν, rfl, ⟨Λ1, by rw [bcSg, if_neg (by omega)]; exact D2.mono (by omega), e1⟩, .inr ⟨x, rfl, hx, .inl ⟨fun q => by have := HRO.out.2 q; simp at this, rfl, rfl⟩⟩⟩
    | true =>
      have HFR : Hid (∀ k, k < 4 → k ≠ x → (ν.box (x * 4 + k)).n ≠ 32) := hideIt (HRO.out.1 rfl)
      clear HRO
      go_wp2_with fail
      go_loopg [9] 4 (fun g v wr => ∃ (i : Nat) (νi : Net) (Λi : LS), i + g = 4 ∧ v = .int .i64 (i : Int) ∧ (Done w wr B mb t (k + i) νi τ (σ.incN (x * 7 + 2) (bcN x i)) Λ Λi ∧ Far Λi w.heap.size ∧ Hid (Λi.l = Λ.l ++ bcE t ν x i)) ∧ wr.heap[w.heap.size]? = W.heap[w.heap.size]? ∧ Hid (BcR x kd t x0 x1 x2 x3 i ν νi))
      case atStart => exact ⟨0, ν, Λ, by omega, rfl, ⟨by rw [bcN_zero]; exact D2, FL _ (Nat.le_refl _), hideIt (List.append_nil _).symm⟩, hr2, hideIt rfl⟩
      case round =>
        clear D2 hr2
        obtain ⟨i, νi, Λi, hi, rfl, ⟨DR, FI, EI⟩, hrow, HB⟩ := hrel
        by_cases hi4 : i < 4
        · have i0 : (0 : Int) ≤ i := by omega
          have i1 : (i : Int) < 4 := by omega
          by_cases hix : i = x
          · subst hix
            go_wp2
            go_roundg (4 - (i + 1))
            case measure => omega
            case rel => exact ⟨i + 1, νi, Λi, by omega, by go_num, ⟨by rw [bcN_self]; exact DR.mono (by omega), FI, hideIt (by rw [EI.out]; simp [bcE])⟩, hrow, hideIt ⟨νi, HB.out, .inl ⟨rfl, rfl⟩⟩⟩
          · have hbx : ((i : Int) == (x : Int)) = false := by simp; omega
            have hix' : ¬ ((i : Int) = (x : Int)) := by omega
            have f0 : wr.cell? ⟨w.heap.size, 0, none⟩ = some (.int .u64 x0) := (World.cell?_of_block (a := ⟨w.heap.size, 0, none⟩) hrow).trans g0
            have f1 : wr.cell? ⟨w.heap.size, 1, none⟩ = some (.int .u64 x1) := (World.cell?_of_block (a := ⟨w.heap.size, 1, none⟩) hrow).trans g1
            have f2 : wr.cell? ⟨w.heap.size, 2, none⟩ = some (.int .u64 x2) := (World.cell?_of_block (a := ⟨w.heap.size, 2, none⟩) hrow).trans g2
            have f3 : wr.cell? ⟨w.heap.size, 3, none⟩ = some (.int .u64 x3) := (World.cell?_of_block (a := ⟨w.heap.size, 3, none⟩) hrow).trans g3
            have hli : Λi.l.length < 999999500 := by rw [EI.out, List.length_append]; have := bcE_len t ν x i; omega
            have FI2 : Far Λi wr.heap.size := DR.m.far (Nat.le_refl _)
            have hcl := DR.m.clk
            have hltr := DR.m.lt
            have hbr : w.heap.size ≤ wr.heap.size := DR.f.size
            have hwr : w.heap.size < wr.heap.size := World.block_lt_of_cell? _ _ f0
            have hmlr := DR.m.mlt
            have G := hideIt (And.intro g0 (And.intro g1 (And.intro g2 g3)))
            clear g0 g1 g2 g3
            go_upto_region 9 with fail
            go_cut [10] (fun a10 wc => ∃ (νj : Net) (m : MsgV) (b10 : Nat), a10 = .pointer (some ⟨b10, 0, none⟩) ∧ Done w wc B mb t (k + i + 1) νj τ (σ.incN (x * 7 + 2) (bcN x i)) Λ Λi ∧ wc.heap[w.heap.size]? = W.heap[w.heap.size]? ∧ Hid (BcR x kd t x0 x1 x2 x3 (i + 1) ν νj) ∧ Nine wc b10 m ∧ w.heap.size < b10 ∧ Hid (evX t 2 m m.mf = evS t ν x i))
            case first =>
              have DB : Done w (wr.alloc (.cells #[.int .i64 0, .int .i64 0, .int .u32 0, .int .u64 0, .int .u64 0, .int .u64 0, .int .u64 0, .int .u64 0, .int .u64 0] 40)).drew B mb t (k + i) νi τ (σ.incN (x * 7 + 2) (bcN x i)) Λ Λi := (DR.below (one_alloc _ _)).drew
              have NB : Nine (wr.alloc (.cells #[.int .i64 0, .int .i64 0, .int .u32 0, .int .u64 0, .int .u64 0, .int .u64 0, .int .u64 0, .int .u64 0, .int .u64 0] 40)).drew wr.heap.size msg0 := nine_new wr
              have hsB : (wr.alloc (.cells #[.int .i64 0, .int .i64 0, .int .u32 0, .int .u64 0, .int .u64 0, .int .u64 0, .int .u64 0, .int .u64 0, .int .u64 0] 40)).drew.heap.size = wr.heap.size + 1 := by
                show (wr.alloc (.cells #[.int .i64 0, .int .i64 0, .int .u32 0, .int .u64 0, .int .u64 0, .int .u64 0, .int .u64 0, .int .u64 0, .int .u64 0] 40)).heap.size = _
                simp
              have q1 : ¬ (wr.heap.size = B) := by omega
              have q2 : ¬ (B = wr.heap.size) := by omega
              have q3 : ¬ (wr.heap.size = w.heap.size) := by omega
              have q4 : ¬ (w.heap.size = wr.heap.size) := by omega
              go_region_with (first | (go_at_call 182; refine (send_net (w := World.drew wr) DR.drew.m (by omega) hx hi4).mono ?_; rintro e w1 ⟨m, ok, νj, rfl, D1, hS, hm⟩; have HS := hideIt (HB.out.step hix (HFR.out i hi4 hix) hS hm); have HEV := hideIt (evS_bc HB.out (HFR.out i hi4 hix) hS hm); clear hS hm; have s1 := D1.f.block w.heap.size hwr (by omega) (by omega) FI; have s2 : wr.heap.size ≤ w1.heap.size := D1.f.size; simp only [msgV]) | (go_at_call 182; refine (send_net (w := World.drew (World.alloc wr _)) DB.m (by omega) hx hi4).mono ?_; rintro e w1 ⟨m, ok, νj, rfl, D1, hS, hm⟩; have HS := hideIt (HB.out.step hix (HFR.out i hi4 hix) hS hm); have HEV := hideIt (evS_bc HB.out (HFR.out i hi4 hix) hS hm); clear hS hm; have s1 := D1.f.block w.heap.size (by omega) (by omega) (by omega) FI; have N1 := NB.blk (D1.f.block wr.heap.size (by omega) (by omega) (by omega) FI2); have N1' := N1; obtain ⟨y0, y1, y2, y3, y4, y5, y6, y7, y8, yf⟩ := N1; simp only [msgV]) | fail)
              all_goals go_wp2
              all_goals go_meet
              all_goals case rel => first | exact ⟨νj, m, _, rfl, (DR.drew.trans D1).below (one_alloc _ _), (heap_alloc (Nat.lt_of_lt_of_le hwr s2)).trans (s1.trans hrow), HS, nine_of _ _ _, by omega, HEV⟩ | (refine ⟨νj, m, _, rfl, ((((((((((DB.trans D1).fresh ⟨wr.heap.size, 0, none⟩ hbr hB0 hM0 FI2 _).fresh ⟨wr.heap.size, 1, none⟩ hbr hB0 hM0 FI2 _).fresh ⟨wr.heap.size, 2, none⟩ hbr hB0 hM0 FI2 _).fresh ⟨wr.heap.size, 3, none⟩ hbr hB0 hM0 FI2 _).fresh ⟨wr.heap.size, 4, none⟩ hbr hB0 hM0 FI2 _).fresh ⟨wr.heap.size, 5, none⟩ hbr hB0 hM0 FI2 _).fresh ⟨wr.heap.size, 6, none⟩ hbr hB0 hM0 FI2 _).fresh ⟨wr.heap.size, 7, none⟩ hbr hB0 hM0 FI2 _).fresh ⟨wr.heap.size, 8, none⟩ hbr hB0 hM0 FI2 _), ?_, HS, N1'.put9, by omega, HEV⟩; rw [heap_set q3, heap_set q3, heap_set q3, heap_set q3, heap_set q3, heap_set q3, heap_set q3, heap_set q3, heap_set q3]; exact s1.trans ((heap_alloc hwr).trans hrow))
            case rest =>
              obtain ⟨νj, m, b10, rfl, D1, hrow1, HS, N10, hb10, HEV⟩ := hcut
              clear f0 f1 f2 f3 hcl DR hrow
              obtain ⟨v1, E1, hv1⟩ := D1.m.cntf (f := 2) hx (by omega)
              have fz := D1.m.frz
              go_wp2_with fail
              refine wp_region_held_drew (S := (fun _ => True)) (by kernel_rfl) trivial (fun hHeld => ?_)
              refine wpAnyH_take (i := 0) (oi := { dst := some 48, op := Go.Op.move (Go.Operand.tmp 0), type := 24, pos := _, after := #[], guard := none }) (v := ?vv1) rfl (by kernel_rfl) (by kernel_rfl) (by kernel_rfl) (fun _ _ _ h => h) (Or.inl ⟨by rfl, ?hy1⟩) (by assumption) ?tk1
              case hy1 => (intro w hSw; (try dsimp only at hSw); go_simp; (try with_reducible rfl))
              try simp only [Act.put, List.setIfInBounds_toArray, List.set_cons_zero, List.set_cons_succ]
              refine wpAnyH_take (i := 1) (oi := { dst := some 49, op := Go.Op.move (Go.Operand.tmp 1), type := 34, pos := _, after := #[], guard := none }) (v := ?vv2) rfl (by kernel_rfl) (by kernel_rfl) (by kernel_rfl) (fun _ _ _ h => h) (Or.inl ⟨by rfl, ?hy2⟩) (by assumption) ?tk2
              case hy2 => (intro w hSw; (try dsimp only at hSw); go_simp; (try with_reducible rfl))
              try simp only [Act.put, List.setIfInBounds_toArray, List.set_cons_zero, List.set_cons_succ]
              refine wpAnyH_take (i := 2) (oi := { dst := some 50, op := Go.Op.nilCheck (Go.Operand.tmp 48), type := 0, pos := _, after := #[{ on := 0, ground := Go.Ground.data }], guard := none }) (v := ?vv3) rfl (by kernel_rfl) (by kernel_rfl) (by kernel_rfl) (fun _ _ _ h => h) (Or.inl ⟨by rfl, ?hy3⟩) (by assumption) ?tk3
              case hy3 => (intro w hSw; (try dsimp only at hSw); go_simp; (try with_reducible rfl))
              try simp only [Act.put, List.setIfInBounds_toArray, List.set_cons_zero, List.set_cons_succ]
              refine wpAnyH_take (i := 3) (oi := { dst := some 51, op := Go.Op.fieldAddr 190 (Go.Operand.tmp 50) 4, type := 0, pos := _, after := #[{ on := 2, ground := Go.Ground.data }], guard := none }) (v := ?vv4) rfl (by kernel_rfl) (by kernel_rfl) (by kernel_rfl) (fun _ _ _ h => h) (Or.inl ⟨by rfl, ?hy4⟩) (by assumption) ?tk4
              case hy4 => (intro w hSw; (try dsimp only at hSw); go_simp; (try with_reducible rfl))
              try simp only [Act.put, List.setIfInBounds_toArray, List.set_cons_zero, List.set_cons_succ]
              refine wpAnyH_take (i := 4) (oi := { dst := some 52, op := Go.Op.indexAddr 133 (Go.Operand.tmp 51) (Go.Operand.tmp 49), type := 0, pos := _, after := #[{ on := 3, ground := Go.Ground.data }, { on := 1, ground := Go.Ground.data }], guard := none }) (v := ?vv5) rfl (by kernel_rfl) (by kernel_rfl) (by kernel_rfl) (fun _ _ _ h => h) (Or.inl ⟨by rfl, ?hy5⟩) (by assumption) ?tk5
              case hy5 => (intro w hSw; (try dsimp only at hSw); go_simp; (try with_reducible rfl))
              try simp only [Act.put, List.setIfInBounds_toArray, List.set_cons_zero, List.set_cons_succ]
              refine wpAnyH_take (i := 5) (oi := { dst := some 53, op := Go.Op.fieldAddr 52 (Go.Operand.tmp 52) 2, type := 0, pos := _, after := #[{ on := 4, ground := Go.Ground.data }], guard := none }) (v := ?vv6) rfl (by kernel_rfl) (by kernel_rfl) (by kernel_rfl) (fun _ _ _ h => h) (Or.inl ⟨by rfl, ?hy6⟩) (by assumption) ?tk6
              case hy6 => (intro w hSw; (try dsimp only at hSw); go_simp; (try with_reducible rfl))
              try simp only [Act.put, List.setIfInBounds_toArray, List.set_cons_zero, List.set_cons_succ]
              refine wpAnyH_take (i := 8) (oi := { dst := some 56, op := Go.Op.nilCheck (Go.Operand.tmp 48), type := 0, pos := _, after := #[{ on := 0, ground := Go.Ground.data }], guard := none }) (v := ?vv7) rfl (by kernel_rfl) (by kernel_rfl) (by kernel_rfl) (fun _ _ _ h => h) (Or.inl ⟨by rfl, ?hy7⟩) (by assumption) ?tk7
              case hy7 => (intro w hSw; (try dsimp only at hSw); go_simp; (try with_reducible rfl))
              try simp only [Act.put, List.setIfInBounds_toArray, List.set_cons_zero, List.set_cons_succ]
              refine wpAnyH_take (i := 9) (oi := { dst := some 57, op := Go.Op.fieldAddr 190 (Go.Operand.tmp 56) 4, type := 0, pos := _, after := #[{ on := 8, ground := Go.Ground.data }], guard := none }) (v := ?vv8) rfl (by kernel_rfl) (by kernel_rfl) (by kernel_rfl) (fun _ _ _ h => h) (Or.inl ⟨by rfl, ?hy8⟩) (by assumption) ?tk8
              case hy8 => (intro w hSw; (try dsimp only at hSw); go_simp; (try with_reducible rfl))
              try simp only [Act.put, List.setIfInBounds_toArray, List.set_cons_zero, List.set_cons_succ]
              refine wpAnyH_ready (rs := [6]) (by kernel_rfl) (by simp) ?_
              refine AllReadyH.cons (o := { dst := some 54, op := Go.Op.load 28 (Go.Operand.tmp 53), type := 28, pos := _, after := #[{ on := 5, ground := Go.Ground.data }], guard := none }) rfl (fun K' hK' => ?_) AllReadyH.nil
              go_simp
              clear hHeld
              refine hK'.out _ _ trivial (fun hHeld => ?_)
              clear hK' K'
              try simp only [Act.put, List.setIfInBounds_toArray, List.set_cons_zero, List.set_cons_succ]
              refine wpAnyH_take (i := 7) (oi := { dst := some 55, op := Go.Op.binOp Go.BinOp.add 28 (Go.Operand.tmp 54) (Go.Operand.const (Go.Value.int Go.IntKind.u64 1)) 28, type := 28, pos := _, after := #[{ on := 6, ground := Go.Ground.data }], guard := none }) (v := ?vv9) rfl (by kernel_rfl) (by kernel_rfl) (by kernel_rfl) (fun _ _ _ h => h) (Or.inl ⟨by rfl, ?hy9⟩) (by assumption) ?tk9
              case hy9 => (intro w hSw; (try dsimp only at hSw); go_simp; (try with_reducible rfl))
              try simp only [Act.put, List.setIfInBounds_toArray, List.set_cons_zero, List.set_cons_succ]
              refine wpAnyH_take (i := 10) (oi := { dst := some 58, op := Go.Op.indexAddr 133 (Go.Operand.tmp 57) (Go.Operand.tmp 49), type := 0, pos := _, after := #[{ on := 9, ground := Go.Ground.data }, { on := 1, ground := Go.Ground.data }, { on := 0, ground := Go.Ground.phase }, { on := 1, ground := Go.Ground.phase }, { on := 2, ground := Go.Ground.phase }, { on := 3, ground := Go.Ground.phase }, { on := 4, ground := Go.Ground.phase }, { on := 5, ground := Go.Ground.phase }, { on := 6, ground := Go.Ground.phase }, { on := 7, ground := Go.Ground.phase }], guard := none }) (v := ?vv10) rfl (by kernel_rfl) (by kernel_rfl) (by kernel_rfl) (fun _ _ _ h => h) (Or.inl ⟨by rfl, ?hy10⟩) (by assumption) ?tk10
              case hy10 => (intro w hSw; (try dsimp only at hSw); go_simp; (try with_reducible rfl))
              try simp only [Act.put, List.setIfInBounds_toArray, List.set_cons_zero, List.set_cons_succ]
              refine wpAnyH_take (i := 11) (oi := { dst := some 59, op := Go.Op.fieldAddr 52 (Go.Operand.tmp 58) 2, type := 0, pos := _, after := #[{ on := 10, ground := Go.Ground.data }, { on := 0, ground := Go.Ground.phase }, { on := 1, ground := Go.Ground.phase }, { on := 2, ground := Go.Ground.phase }, { on := 3, ground := Go.Ground.phase }, { on := 4, ground := Go.Ground.phase }, { on := 5, ground := Go.Ground.phase }, { on := 6, ground := Go.Ground.phase }, { on := 7, ground := Go.Ground.phase }], guard := none }) (v := ?vv11) rfl (by kernel_rfl) (by kernel_rfl) (by kernel_rfl) (fun _ _ _ h => h) (Or.inl ⟨by rfl, ?hy11⟩) (by assumption) ?tk11
              case hy11 => (intro w hSw; (try dsimp only at hSw); go_simp; (try with_reducible rfl))
              try simp only [Act.put, List.setIfInBounds_toArray, List.set_cons_zero, List.set_cons_succ]
              refine wpAnyH_ready (rs := [12]) (by kernel_rfl) (by simp) ?_
              refine AllReadyH.cons (o := { dst := none, op := Go.Op.store 28 (Go.Operand.tmp 59) (Go.Operand.tmp 55), type := 0, pos := _, after := #[{ on := 11, ground := Go.Ground.data }, { on := 7, ground := Go.Ground.data }, { on := 0, ground := Go.Ground.phase }, { on := 1, ground := Go.Ground.phase }, { on := 2, ground := Go.Ground.phase }, { on := 3, ground := Go.Ground.phase }, { on := 4, ground := Go.Ground.phase }, { on := 5, ground := Go.Ground.phase }, { on := 6, ground := Go.Ground.phase }, { on := 7, ground := Go.Ground.phase }], guard := none }) rfl (fun K' hK' => ?_) AllReadyH.nil
              go_simp
              clear hHeld
              refine hK'.out _ _ trivial (fun hHeld => ?_)
              clear hK' K'
              try simp only [Act.put, List.setIfInBounds_toArray, List.set_cons_zero, List.set_cons_succ]
              refine wpAnyH_done (by kernel_rfl) ?_ _
              have D2 := (D1.statf hx (f := 2) (by omega) E1).drew
              have hrow2 : ((wc.setCell ⟨B, 6724 + x * 7 + 2, none⟩ (.int .u64 (IntKind.u64.wrap (v1 + 1)))).drew).heap[w.heap.size]? = W.heap[w.heap.size]? := by
                rw [← hrow1]
                exact heap_set (by show B ≠ w.heap.size; omega)
              have N2 : Nine ((wc.setCell ⟨B, 6724 + x * 7 + 2, none⟩ (.int .u64 (IntKind.u64.wrap (v1 + 1)))).drew) b10 m := N10.blk (heap_set (by show B ≠ b10; omega))
              have l2 : w.heap.size < ((wc.setCell ⟨B, 6724 + x * 7 + 2, none⟩ (.int .u64 (IntKind.u64.wrap (v1 + 1)))).drew).heap.size := by
                have := World.block_lt_of_cell? _ _ N2.c0
                exact Nat.lt_trans hb10 this
              go_wp2_with fail
              refine (noteMsg_s (m := m) D2.m (by omega) N2.c0 N2.c1 N2.c3).mono ?_
              rintro e w3 ⟨rfl, Λ3, N3, e3⟩
              have FR := N3.f.row w.heap.size l2 FI
              have hrow2 := (N3.f.block w.heap.size l2 (by omega) (by omega) FI).trans hrow2
              have D2 := D2.trans N3
              have E3 : Hid (Λ3.l = Λ.l ++ bcE t ν x (i + 1)) := hideIt (by rw [e3, HEV.out, EI.out, bcE, if_neg hix, List.append_assoc])
              clear hv1 fz D1 hrow1 N2 N3 N10 e3 l2
              go_wp2
              go_roundg (4 - (i + 1))
              case measure => omega
              case rel => exact ⟨i + 1, νj, Λ3, by omega, by go_num, ⟨by rw [bcN_succ hix]; exact D2, FR, E3⟩, hrow2, HS⟩
        · have e4 : i = 4 := by omega
          subst e4
          go_wp2
          go_ret
          have e3 : bcN x 4 = 3 := by unfold bcN; rw [if_pos hx]
          exact ⟨0, νi, rfl, ⟨Λi, by rw [bcSg, if_pos rfl, Int.toNat_natCast]; rw [e3] at DR; exact DR, EI.out⟩, .inr ⟨x, rfl, hx, .inr ⟨HFR.out, rfl, HB.out⟩⟩⟩
  · have hv1 := validCore_any a W
    rw [decide_eq_false hva] at hv1
    have HNA := hideIt hva
    go_enter Tryz.func135, Tryz.ntmps135
    go_wp2_with fail
    refine hv1.mono ?_
    rintro e W ⟨rfl, rfl⟩
    go_wp2_with fail
    refine (refuse_any DW.m (by omega)).mono ?_
    rintro e w1 ⟨rfl, Λ1, N1, e1⟩
    have DW := DW.trans N1
    go_wp2
    go_ret
    exact ⟨4, ν, rfl, ⟨Λ1, by rw [bcSg, if_neg (by omega)]; exact DW.mono (by omega), e1⟩, .inl ⟨HNA.out, rfl, rfl⟩⟩
end W
end Go.Proofs.Qxb6500877aGreatDoor
