import Derived.Deep.CutBlock
import Derived.OwnWalk
import Derived.Maps.AppendAt
import Derived.Test.Qxb6500877aGreatDoorTwg
import Derived.Test.Qxb6500877aGreatDoorPMk
import Derived.Test.Qxb6500877aGreatDoorPMj
set_option linter.unusedVariables false
set_option linter.unusedSimpArgs false
namespace Go.Proofs.Qxb6500877aGreatDoor
open Go.RowKit

theorem Nine.put9 {w : World} {b : Nat} {m m' : MsgV} (h : Nine w b m) : Nine (World.setCell (World.setCell (World.setCell (World.setCell (World.setCell (World.setCell (World.setCell (World.setCell (World.setCell w ⟨b, 0, none⟩ (.int .i64 m'.mf)) ⟨b, 1, none⟩ (.int .i64 m'.mt)) ⟨b, 2, none⟩ (.int .u32 m'.md)) ⟨b, 3, none⟩ (.int .u64 m'.mq)) ⟨b, 4, none⟩ (.int .u64 m'.ma)) ⟨b, 5, none⟩ (.int .u64 m'.x0)) ⟨b, 6, none⟩ (.int .u64 m'.x1)) ⟨b, 7, none⟩ (.int .u64 m'.x2)) ⟨b, 8, none⟩ (.int .u64 m'.x3)) b m' := by
  refine ⟨?_, ?_, ?_, ?_, ?_, ?_, ?_, ?_, ?_, fun o => by simpa using h.fz o⟩
  · rw [World.cell?_setCell_other _ _ _ _ (by simp), World.cell?_setCell_other _ _ _ _ (by simp), World.cell?_setCell_other _ _ _ _ (by simp), World.cell?_setCell_other _ _ _ _ (by simp), World.cell?_setCell_other _ _ _ _ (by simp), World.cell?_setCell_other _ _ _ _ (by simp), World.cell?_setCell_other _ _ _ _ (by simp), World.cell?_setCell_other _ _ _ _ (by simp)]; exact World.cell?_setCell_same _ _ _ h.c0
  · rw [World.cell?_setCell_other _ _ _ _ (by simp), World.cell?_setCell_other _ _ _ _ (by simp), World.cell?_setCell_other _ _ _ _ (by simp), World.cell?_setCell_other _ _ _ _ (by simp), World.cell?_setCell_other _ _ _ _ (by simp), World.cell?_setCell_other _ _ _ _ (by simp), World.cell?_setCell_other _ _ _ _ (by simp)]; exact World.cell?_setCell_same _ _ _ (by rw [World.cell?_setCell_other _ _ _ _ (by simp)]; exact h.c1)
  · rw [World.cell?_setCell_other _ _ _ _ (by simp), World.cell?_setCell_other _ _ _ _ (by simp), World.cell?_setCell_other _ _ _ _ (by simp), World.cell?_setCell_other _ _ _ _ (by simp), World.cell?_setCell_other _ _ _ _ (by simp), World.cell?_setCell_other _ _ _ _ (by simp)]; exact World.cell?_setCell_same _ _ _ (by rw [World.cell?_setCell_other _ _ _ _ (by simp), World.cell?_setCell_other _ _ _ _ (by simp)]; exact h.c2)
  · rw [World.cell?_setCell_other _ _ _ _ (by simp), World.cell?_setCell_other _ _ _ _ (by simp), World.cell?_setCell_other _ _ _ _ (by simp), World.cell?_setCell_other _ _ _ _ (by simp), World.cell?_setCell_other _ _ _ _ (by simp)]; exact World.cell?_setCell_same _ _ _ (by rw [World.cell?_setCell_other _ _ _ _ (by simp), World.cell?_setCell_other _ _ _ _ (by simp), World.cell?_setCell_other _ _ _ _ (by simp)]; exact h.c3)
  · rw [World.cell?_setCell_other _ _ _ _ (by simp), World.cell?_setCell_other _ _ _ _ (by simp), World.cell?_setCell_other _ _ _ _ (by simp), World.cell?_setCell_other _ _ _ _ (by simp)]; exact World.cell?_setCell_same _ _ _ (by rw [World.cell?_setCell_other _ _ _ _ (by simp), World.cell?_setCell_other _ _ _ _ (by simp), World.cell?_setCell_other _ _ _ _ (by simp), World.cell?_setCell_other _ _ _ _ (by simp)]; exact h.c4)
  · rw [World.cell?_setCell_other _ _ _ _ (by simp), World.cell?_setCell_other _ _ _ _ (by simp), World.cell?_setCell_other _ _ _ _ (by simp)]; exact World.cell?_setCell_same _ _ _ (by rw [World.cell?_setCell_other _ _ _ _ (by simp), World.cell?_setCell_other _ _ _ _ (by simp), World.cell?_setCell_other _ _ _ _ (by simp), World.cell?_setCell_other _ _ _ _ (by simp), World.cell?_setCell_other _ _ _ _ (by simp)]; exact h.c5)
  · rw [World.cell?_setCell_other _ _ _ _ (by simp), World.cell?_setCell_other _ _ _ _ (by simp)]; exact World.cell?_setCell_same _ _ _ (by rw [World.cell?_setCell_other _ _ _ _ (by simp), World.cell?_setCell_other _ _ _ _ (by simp), World.cell?_setCell_other _ _ _ _ (by simp), World.cell?_setCell_other _ _ _ _ (by simp), World.cell?_setCell_other _ _ _ _ (by simp), World.cell?_setCell_other _ _ _ _ (by simp)]; exact h.c6)
  · rw [World.cell?_setCell_other _ _ _ _ (by simp)]; exact World.cell?_setCell_same _ _ _ (by rw [World.cell?_setCell_other _ _ _ _ (by simp), World.cell?_setCell_other _ _ _ _ (by simp), World.cell?_setCell_other _ _ _ _ (by simp), World.cell?_setCell_other _ _ _ _ (by simp), World.cell?_setCell_other _ _ _ _ (by simp), World.cell?_setCell_other _ _ _ _ (by simp), World.cell?_setCell_other _ _ _ _ (by simp)]; exact h.c7)
  · exact World.cell?_setCell_same _ _ _ (by rw [World.cell?_setCell_other _ _ _ _ (by simp), World.cell?_setCell_other _ _ _ _ (by simp), World.cell?_setCell_other _ _ _ _ (by simp), World.cell?_setCell_other _ _ _ _ (by simp), World.cell?_setCell_other _ _ _ _ (by simp), World.cell?_setCell_other _ _ _ _ (by simp), World.cell?_setCell_other _ _ _ _ (by simp), World.cell?_setCell_other _ _ _ _ (by simp)]; exact h.c8)
theorem evS_of {x y t : Nat} {ν ν' : Net} {m : MsgV} {kd x0 x1 x2 x3 : Int} (hS : SendR ν (x * 4 + y) m true ν') (hm : m = ⟨x, y, kd, m.mq, t, x0, x1, x2, x3⟩) : evX t 2 m m.mf = ⟨2, t, x, -1, 0, boxF x y, (ν.box (x * 4 + y)).acc + 1, 0, 0⟩ := by
  have h1 : m.mf = x := by rw [hm]
  have h2 : m.mt = y := by rw [hm]
  have h3 : m.mq = (ν.box (x * 4 + y)).acc + 1 := by
    rcases hS with ⟨_, h, _⟩ | ⟨_, _, h, _⟩
    · exact absurd h (by simp)
    · exact h
  unfold evX
  rw [h1, h2, h3]
namespace W
theorem send_net {w : World} {B mb t k : Nat} {ν : Net} {τ : TSt} {σ : Sg} {Λ : LS} {a b : Nat} {now kd x0 x1 x2 x3 : Int} (M : Mach w B mb t k ν τ σ Λ) (hk : k < 900000) (ha : a < 4) (hb : b < 4) :
    Calls Tryz.prog 182 #[.pointer (some ⟨B, 1939, none⟩), .int .u64 now, .int .i64 (a : Int), .int .i64 (b : Int), .int .u32 kd, .agg #[.int .u64 x0, .int .u64 x1, .int .u64 x2, .int .u64 x3]] w fun e w' => ∃ (m : MsgV) (ok : Bool) (ν' : Net), e = .returned (.tuple #[msgV m, .bool ok]) ∧ Done w w' B mb t (k + 1) ν' τ σ Λ Λ ∧ SendR ν (a * 4 + b) m ok ν' ∧ (ok = true → m = ⟨a, b, kd, m.mq, now, x0, x1, x2, x3⟩) := by
  obtain ⟨N, K⟩ := M.net
  have KB := K (a * 4 + b) (by omega)
  obtain ⟨h, eh, hh⟩ := KB.head
  obtain ⟨n, en, hn⟩ := KB.n
  have hacc := KB.acc
  by_cases h32 : n = 32
  · have e32 : (ν.box (a * 4 + b)).n = 32 := by rw [en, h32]; rfl
    refine (send_full N ha hb e32).mono ?_
    rintro e w1 ⟨rfl, N1, M1⟩
    exact ⟨msg0, false, ν, rfl, (Done.refl M).mut M1 (by omega) ((M.mono (by omega)).nets M1 ⟨N1, K.mono (by omega)⟩), .inl ⟨e32, rfl, rfl⟩, fun q => by simp at q⟩
  · refine (send_ok N ha hb eh hh en (by omega) (by omega)).mono ?_
    rintro e w1 ⟨rfl, N1, M1⟩
    exact ⟨_, true, _, rfl, (Done.refl M).mut M1 (by omega) ((M.mono (by omega)).nets M1 ⟨N1, K.push (by omega) eh hh (by omega) ⟨by show (0 : Int) ≤ b; omega, by show (b : Int) < 4; omega⟩⟩), .inr ⟨by rw [en]; omega, rfl, rfl, h, n, eh, hh, en, by omega, rfl⟩, fun _ => rfl⟩
theorem deliver_net {w : World} {B mb t k : Nat} {ν : Net} {τ : TSt} {σ : Sg} {Λ : LS} {i : Nat} (M : Mach w B mb t k ν τ σ Λ) (hi : i < 16) :
    Calls Tryz.prog 132 #[.pointer (some ⟨B, 1939, none⟩), .int .i64 (i : Int)] w fun e w' => ∃ (m : MsgV) (ok : Bool) (ν' : Net), (0 ≤ m.mt ∧ m.mt < 4) ∧ e = .returned (.tuple #[msgV m, .bool ok]) ∧ Done w w' B mb t k ν' τ σ Λ Λ ∧ DelR ν i m ok ν' := by
  obtain ⟨N, K⟩ := M.net
  have KB := K i hi
  obtain ⟨h, eh, hh⟩ := KB.head
  obtain ⟨n, en, hn⟩ := KB.n
  by_cases h0 : n = 0
  · have e0 : (ν.box i).n = 0 := by rw [en, h0]; rfl
    refine (deliver_empty N hi e0).mono ?_
    rintro e w1 ⟨rfl, N1, M1⟩
    exact ⟨msg0, false, ν, ⟨Int.le_refl _, by show (0 : Int) < 4; omega⟩, rfl, (Done.refl M).mut M1 (by omega) (M.nets M1 ⟨N1, K⟩), .inl ⟨e0, rfl, rfl, rfl⟩⟩
  · refine (deliver_some N hi eh hh en (by omega)).mono ?_
    rintro e w1 ⟨rfl, N1, M1⟩
    exact ⟨_, true, _, KB.to_ h hh, rfl, (Done.refl M).mut M1 (by omega) (M.nets M1 ⟨N1, K.pop hi hh (by omega)⟩), .inr ⟨rfl, h, n, eh, hh, en, by omega, hn, rfl, rfl⟩⟩
/-- What is told of a sending. -/
def evS (t : Nat) (ν : Net) (a b : Int) : EvS := ⟨2, t, a, -1, 0, boxF a b, (ν.box (a.toNat * 4 + b.toNat)).acc + 1, 0, 0⟩
set_option maxHeartbeats 4000000 in
theorem send_m {w : World} {B mb t k : Nat} {ν : Net} {τ : TSt} {σ : Sg} {Λ : LS} {kd x0 x1 x2 x3 : Int} (M : Mach w B mb t k ν τ σ Λ) (hl : Λ.l.length < 999999000) (hk : k < 900000) (a b : Int) :
    Calls Tryz.prog 136 #[.pointer (some ⟨B, 0, none⟩), .int .i64 a, .int .i64 b, .int .u32 kd, .agg #[.int .u64 x0, .int .u64 x1, .int .u64 x2, .int .u64 x3]] w fun e w' => ∃ (c : Int) (ν' : Net), e = .returned (.int .i64 c) ∧ (∃ Λ', Done w w' B mb t (k + 1) ν' τ (sendSg σ a c) Λ Λ' ∧ Λ'.l = Λ.l ++ tellM t c (evS t ν a b)) ∧ SendRes ν a b kd t x0 x1 x2 x3 c ν' := by
  have FL : ∀ q, w.heap.size ≤ q → Far Λ q := fun q hq => M.far hq
  have hB0 := M.lt
  have hM0 := M.mlt
  generalize hW : w.alloc (.cells #[.int .u64 x0, .int .u64 x1, .int .u64 x2, .int .u64 x3] 38) = W at *
  have hb0 : Below w.heap.size w W := by rw [← hW]; exact one_alloc _ _
  have hsz : W.heap.size = w.heap.size + 1 := by rw [← hW]; simp
  have g0 : W.cell? ⟨w.heap.size, 0, none⟩ = some (.int .u64 x0) := by rw [← hW]; simp
  have g1 : W.cell? ⟨w.heap.size, 1, none⟩ = some (.int .u64 x1) := by rw [← hW]; simp
  have g2 : W.cell? ⟨w.heap.size, 2, none⟩ = some (.int .u64 x2) := by rw [← hW]; simp
  have g3 : W.cell? ⟨w.heap.size, 3, none⟩ = some (.int .u64 x3) := by rw [← hW]; simp
  have DW : Done w W B mb t k ν τ σ Λ Λ := (Done.refl M).below hb0
  have hcl := DW.m.clk
  by_cases hva : 0 ≤ a ∧ a < 4
  · obtain ⟨x, rfl, hx⟩ : ∃ x : Nat, a = x ∧ x < 4 := ⟨a.toNat, by omega, by omega⟩
    have hv1 := validCore_any (x : Int) W
    rw [decide_eq_true hva] at hv1
    obtain ⟨j0, j1⟩ := hva
    by_cases hvb : 0 ≤ b ∧ b < 4
    · obtain ⟨y, rfl, hy⟩ : ∃ y : Nat, b = y ∧ y < 4 := ⟨b.toNat, by omega, by omega⟩
      have hv2 := validCore_any (y : Int) W
      rw [decide_eq_true hvb] at hv2
      clear hvb
      go_enter Tryz.func136, Tryz.ntmps136
      go_wp2_with fail
      refine hv1.mono ?_
      rintro e W ⟨rfl, rfl⟩
      go_wp2_with fail
      refine hv2.mono ?_
      rintro e W ⟨rfl, rfl⟩
      go_upto_region 3 with fail
      go_cut [11, 12] (fun a11 a12 wc => ∃ (b11 : Nat) (ok : Bool) (m : MsgV) (ν' : Net), a11 = .pointer (some ⟨b11, 0, none⟩) ∧ a12 = .bool ok ∧ Done w wc B mb t (k + 1) ν' τ σ Λ Λ ∧ SendR ν (x * 4 + y) m ok ν' ∧ (ok = true → m = ⟨x, y, kd, m.mq, t, x0, x1, x2, x3⟩) ∧ Nine wc b11 m ∧ w.heap.size < b11)
      case first =>
        have DB : Done w (W.alloc (.cells #[.int .i64 0, .int .i64 0, .int .u32 0, .int .u64 0, .int .u64 0, .int .u64 0, .int .u64 0, .int .u64 0, .int .u64 0] 40)).drew B mb t k ν τ σ Λ Λ := (DW.below (one_alloc _ _)).drew
        have NB : Nine (W.alloc (.cells #[.int .i64 0, .int .i64 0, .int .u32 0, .int .u64 0, .int .u64 0, .int .u64 0, .int .u64 0, .int .u64 0, .int .u64 0] 40)).drew (w.heap.size + 1) msg0 := by
          rw [← hsz]
          exact nine_new W
        have hsB : (W.alloc (.cells #[.int .i64 0, .int .i64 0, .int .u32 0, .int .u64 0, .int .u64 0, .int .u64 0, .int .u64 0, .int .u64 0, .int .u64 0] 40)).drew.heap.size = w.heap.size + 2 := by
          show (W.alloc (.cells #[.int .i64 0, .int .i64 0, .int .u32 0, .int .u64 0, .int .u64 0, .int .u64 0, .int .u64 0, .int .u64 0, .int .u64 0] 40)).heap.size = _
          simp [hsz]
        have q1 : ¬ (w.heap.size + 1 = B) := by omega
        have q2 : ¬ (B = w.heap.size + 1) := by omega
        go_region_with (first | (go_at_call 182; refine (send_net (w := World.drew W) DW.drew.m hk hx hy).mono ?_; rintro e w1 ⟨m, ok, ν', rfl, D1, hS, hm⟩; have HS := hideIt hS; have HM := hideIt hm; clear hS hm; have hs1 : W.heap.size ≤ w1.heap.size := D1.f.size; simp only [msgV]) | (go_at_call 182; refine (send_net (w := World.drew (World.alloc W _)) DB.m hk hx hy).mono ?_; rintro e w1 ⟨m, ok, ν', rfl, D1, hS, hm⟩; have HS := hideIt hS; have HM := hideIt hm; clear hS hm; have N1 := NB.blk (D1.f.block (w.heap.size + 1) (by omega) (by omega) (by omega) (FL _ (by omega))); have N1' := N1; obtain ⟨y0, y1, y2, y3, y4, y5, y6, y7, y8, yf⟩ := N1; simp only [msgV]) | fail)
        all_goals go_wp2
        all_goals go_meet
        all_goals case rel => first | exact ⟨_, _, _, _, rfl, rfl, (DW.drew.trans D1).below (one_alloc _ _), HS.out, HM.out, nine_of _ _ _, by omega⟩ | exact ⟨_, _, _, _, rfl, rfl, ((((((((((DB.trans D1).fresh ⟨w.heap.size + 1, 0, none⟩ (by show w.heap.size ≤ w.heap.size + 1; omega) hB0 hM0 (FL _ (by show w.heap.size ≤ w.heap.size + 1; omega)) _).fresh ⟨w.heap.size + 1, 1, none⟩ (by show w.heap.size ≤ w.heap.size + 1; omega) hB0 hM0 (FL _ (by show w.heap.size ≤ w.heap.size + 1; omega)) _).fresh ⟨w.heap.size + 1, 2, none⟩ (by show w.heap.size ≤ w.heap.size + 1; omega) hB0 hM0 (FL _ (by show w.heap.size ≤ w.heap.size + 1; omega)) _).fresh ⟨w.heap.size + 1, 3, none⟩ (by show w.heap.size ≤ w.heap.size + 1; omega) hB0 hM0 (FL _ (by show w.heap.size ≤ w.heap.size + 1; omega)) _).fresh ⟨w.heap.size + 1, 4, none⟩ (by show w.heap.size ≤ w.heap.size + 1; omega) hB0 hM0 (FL _ (by show w.heap.size ≤ w.heap.size + 1; omega)) _).fresh ⟨w.heap.size + 1, 5, none⟩ (by show w.heap.size ≤ w.heap.size + 1; omega) hB0 hM0 (FL _ (by show w.heap.size ≤ w.heap.size + 1; omega)) _).fresh ⟨w.heap.size + 1, 6, none⟩ (by show w.heap.size ≤ w.heap.size + 1; omega) hB0 hM0 (FL _ (by show w.heap.size ≤ w.heap.size + 1; omega)) _).fresh ⟨w.heap.size + 1, 7, none⟩ (by show w.heap.size ≤ w.heap.size + 1; omega) hB0 hM0 (FL _ (by show w.heap.size ≤ w.heap.size + 1; omega)) _).fresh ⟨w.heap.size + 1, 8, none⟩ (by show w.heap.size ≤ w.heap.size + 1; omega) hB0 hM0 (FL _ (by show w.heap.size ≤ w.heap.size + 1; omega)) _), HS.out, HM.out, N1'.put9, by omega⟩
      case rest =>
        obtain ⟨b11, ok, m, ν', rfl, rfl, D1, hS, hm, N11, hb11⟩ := hcut
        have HS := hideIt hS
        have HM := hideIt hm
        clear hS hm
        clear DW hcl g0 g1 g2 g3 hb0 hv1 hv2
        match ok with
        | false =>
          go_wp2_with fail
          refine (refuse_any D1.m (by omega)).mono ?_
          rintro e w1 ⟨rfl, Λ1, N1, e1⟩
          have D1 := D1.trans N1
          go_wp2
          go_ret
          exact ⟨8, ν', rfl, ⟨Λ1, by rw [sendSg, if_neg (by omega)]; exact D1, e1⟩, .inr ⟨x, y, rfl, hx, rfl, hy, m, false, HS.out, fun q => by simp at q, fun _ => rfl⟩⟩
        | true =>
          obtain ⟨v1, E1, hv1⟩ := D1.m.cntf (f := 2) hx (by omega)
          have fz := D1.m.frz
          go_wp2_with fail
          refine wp_region_held_drew (S := (fun _ => True)) (by kernel_rfl) trivial (fun hHeld => ?_)
          refine wpAnyH_take (i := 0) (oi := { dst := some 43, op := Go.Op.move (Go.Operand.tmp 0), type := 24, pos := _, after := #[], guard := none }) (v := ?vv1) rfl (by kernel_rfl) (by kernel_rfl) (by kernel_rfl) (fun _ _ _ h => h) (Or.inl ⟨by rfl, ?hy1⟩) (by assumption) ?tk1
          case hy1 => (intro w hSw; (try dsimp only at hSw); go_simp; (try with_reducible rfl))
          try simp only [Act.put, List.setIfInBounds_toArray, List.set_cons_zero, List.set_cons_succ]
          refine wpAnyH_take (i := 1) (oi := { dst := some 44, op := Go.Op.move (Go.Operand.tmp 1), type := 34, pos := _, after := #[], guard := none }) (v := ?vv2) rfl (by kernel_rfl) (by kernel_rfl) (by kernel_rfl) (fun _ _ _ h => h) (Or.inl ⟨by rfl, ?hy2⟩) (by assumption) ?tk2
          case hy2 => (intro w hSw; (try dsimp only at hSw); go_simp; (try with_reducible rfl))
          try simp only [Act.put, List.setIfInBounds_toArray, List.set_cons_zero, List.set_cons_succ]
          refine wpAnyH_take (i := 2) (oi := { dst := some 45, op := Go.Op.nilCheck (Go.Operand.tmp 43), type := 0, pos := _, after := #[{ on := 0, ground := Go.Ground.data }], guard := none }) (v := ?vv3) rfl (by kernel_rfl) (by kernel_rfl) (by kernel_rfl) (fun _ _ _ h => h) (Or.inl ⟨by rfl, ?hy3⟩) (by assumption) ?tk3
          case hy3 => (intro w hSw; (try dsimp only at hSw); go_simp; (try with_reducible rfl))
          try simp only [Act.put, List.setIfInBounds_toArray, List.set_cons_zero, List.set_cons_succ]
          refine wpAnyH_take (i := 3) (oi := { dst := some 46, op := Go.Op.fieldAddr 190 (Go.Operand.tmp 45) 4, type := 0, pos := _, after := #[{ on := 2, ground := Go.Ground.data }], guard := none }) (v := ?vv4) rfl (by kernel_rfl) (by kernel_rfl) (by kernel_rfl) (fun _ _ _ h => h) (Or.inl ⟨by rfl, ?hy4⟩) (by assumption) ?tk4
          case hy4 => (intro w hSw; (try dsimp only at hSw); go_simp; (try with_reducible rfl))
          try simp only [Act.put, List.setIfInBounds_toArray, List.set_cons_zero, List.set_cons_succ]
          refine wpAnyH_take (i := 4) (oi := { dst := some 47, op := Go.Op.indexAddr 133 (Go.Operand.tmp 46) (Go.Operand.tmp 44), type := 0, pos := _, after := #[{ on := 3, ground := Go.Ground.data }, { on := 1, ground := Go.Ground.data }], guard := none }) (v := ?vv5) rfl (by kernel_rfl) (by kernel_rfl) (by kernel_rfl) (fun _ _ _ h => h) (Or.inl ⟨by rfl, ?hy5⟩) (by assumption) ?tk5
          case hy5 => (intro w hSw; (try dsimp only at hSw); go_simp; (try with_reducible rfl))
          try simp only [Act.put, List.setIfInBounds_toArray, List.set_cons_zero, List.set_cons_succ]
          refine wpAnyH_take (i := 5) (oi := { dst := some 48, op := Go.Op.fieldAddr 52 (Go.Operand.tmp 47) 2, type := 0, pos := _, after := #[{ on := 4, ground := Go.Ground.data }], guard := none }) (v := ?vv6) rfl (by kernel_rfl) (by kernel_rfl) (by kernel_rfl) (fun _ _ _ h => h) (Or.inl ⟨by rfl, ?hy6⟩) (by assumption) ?tk6
          case hy6 => (intro w hSw; (try dsimp only at hSw); go_simp; (try with_reducible rfl))
          try simp only [Act.put, List.setIfInBounds_toArray, List.set_cons_zero, List.set_cons_succ]
          refine wpAnyH_take (i := 8) (oi := { dst := some 51, op := Go.Op.nilCheck (Go.Operand.tmp 43), type := 0, pos := _, after := #[{ on := 0, ground := Go.Ground.data }], guard := none }) (v := ?vv7) rfl (by kernel_rfl) (by kernel_rfl) (by kernel_rfl) (fun _ _ _ h => h) (Or.inl ⟨by rfl, ?hy7⟩) (by assumption) ?tk7
          case hy7 => (intro w hSw; (try dsimp only at hSw); go_simp; (try with_reducible rfl))
          try simp only [Act.put, List.setIfInBounds_toArray, List.set_cons_zero, List.set_cons_succ]
          refine wpAnyH_take (i := 9) (oi := { dst := some 52, op := Go.Op.fieldAddr 190 (Go.Operand.tmp 51) 4, type := 0, pos := _, after := #[{ on := 8, ground := Go.Ground.data }], guard := none }) (v := ?vv8) rfl (by kernel_rfl) (by kernel_rfl) (by kernel_rfl) (fun _ _ _ h => h) (Or.inl ⟨by rfl, ?hy8⟩) (by assumption) ?tk8
          case hy8 => (intro w hSw; (try dsimp only at hSw); go_simp; (try with_reducible rfl))
          try simp only [Act.put, List.setIfInBounds_toArray, List.set_cons_zero, List.set_cons_succ]
          refine wpAnyH_ready (rs := [6]) (by kernel_rfl) (by simp) ?_
          refine AllReadyH.cons (o := { dst := some 49, op := Go.Op.load 28 (Go.Operand.tmp 48), type := 28, pos := _, after := #[{ on := 5, ground := Go.Ground.data }], guard := none }) rfl (fun K' hK' => ?_) AllReadyH.nil
          go_simp
          clear hHeld
          refine hK'.out _ _ trivial (fun hHeld => ?_)
          clear hK' K'
          try simp only [Act.put, List.setIfInBounds_toArray, List.set_cons_zero, List.set_cons_succ]
          refine wpAnyH_take (i := 7) (oi := { dst := some 50, op := Go.Op.binOp Go.BinOp.add 28 (Go.Operand.tmp 49) (Go.Operand.const (Go.Value.int Go.IntKind.u64 1)) 28, type := 28, pos := _, after := #[{ on := 6, ground := Go.Ground.data }], guard := none }) (v := ?vv9) rfl (by kernel_rfl) (by kernel_rfl) (by kernel_rfl) (fun _ _ _ h => h) (Or.inl ⟨by rfl, ?hy9⟩) (by assumption) ?tk9
          case hy9 => (intro w hSw; (try dsimp only at hSw); go_simp; (try with_reducible rfl))
          try simp only [Act.put, List.setIfInBounds_toArray, List.set_cons_zero, List.set_cons_succ]
          refine wpAnyH_take (i := 10) (oi := { dst := some 53, op := Go.Op.indexAddr 133 (Go.Operand.tmp 52) (Go.Operand.tmp 44), type := 0, pos := _, after := #[{ on := 9, ground := Go.Ground.data }, { on := 1, ground := Go.Ground.data }, { on := 0, ground := Go.Ground.phase }, { on := 1, ground := Go.Ground.phase }, { on := 2, ground := Go.Ground.phase }, { on := 3, ground := Go.Ground.phase }, { on := 4, ground := Go.Ground.phase }, { on := 5, ground := Go.Ground.phase }, { on := 6, ground := Go.Ground.phase }, { on := 7, ground := Go.Ground.phase }], guard := none }) (v := ?vv10) rfl (by kernel_rfl) (by kernel_rfl) (by kernel_rfl) (fun _ _ _ h => h) (Or.inl ⟨by rfl, ?hy10⟩) (by assumption) ?tk10
          case hy10 => (intro w hSw; (try dsimp only at hSw); go_simp; (try with_reducible rfl))
          try simp only [Act.put, List.setIfInBounds_toArray, List.set_cons_zero, List.set_cons_succ]
          refine wpAnyH_take (i := 11) (oi := { dst := some 54, op := Go.Op.fieldAddr 52 (Go.Operand.tmp 53) 2, type := 0, pos := _, after := #[{ on := 10, ground := Go.Ground.data }, { on := 0, ground := Go.Ground.phase }, { on := 1, ground := Go.Ground.phase }, { on := 2, ground := Go.Ground.phase }, { on := 3, ground := Go.Ground.phase }, { on := 4, ground := Go.Ground.phase }, { on := 5, ground := Go.Ground.phase }, { on := 6, ground := Go.Ground.phase }, { on := 7, ground := Go.Ground.phase }], guard := none }) (v := ?vv11) rfl (by kernel_rfl) (by kernel_rfl) (by kernel_rfl) (fun _ _ _ h => h) (Or.inl ⟨by rfl, ?hy11⟩) (by assumption) ?tk11
          case hy11 => (intro w hSw; (try dsimp only at hSw); go_simp; (try with_reducible rfl))
          try simp only [Act.put, List.setIfInBounds_toArray, List.set_cons_zero, List.set_cons_succ]
          refine wpAnyH_ready (rs := [12]) (by kernel_rfl) (by simp) ?_
          refine AllReadyH.cons (o := { dst := none, op := Go.Op.store 28 (Go.Operand.tmp 54) (Go.Operand.tmp 50), type := 0, pos := _, after := #[{ on := 11, ground := Go.Ground.data }, { on := 7, ground := Go.Ground.data }, { on := 0, ground := Go.Ground.phase }, { on := 1, ground := Go.Ground.phase }, { on := 2, ground := Go.Ground.phase }, { on := 3, ground := Go.Ground.phase }, { on := 4, ground := Go.Ground.phase }, { on := 5, ground := Go.Ground.phase }, { on := 6, ground := Go.Ground.phase }, { on := 7, ground := Go.Ground.phase }], guard := none }) rfl (fun K' hK' => ?_) AllReadyH.nil
          go_simp
          clear hHeld
          refine hK'.out _ _ trivial (fun hHeld => ?_)
          clear hK' K'
          try simp only [Act.put, List.setIfInBounds_toArray, List.set_cons_zero, List.set_cons_succ]
          refine wpAnyH_done (by kernel_rfl) ?_ _
          have D2 := (D1.statf hx (f := 2) (by omega) E1).drew
          have N2 : Nine ((wc.setCell ⟨B, 6724 + x * 7 + 2, none⟩ (.int .u64 (IntKind.u64.wrap (v1 + 1)))).drew) b11 m := N11.blk (heap_set (by show B ≠ b11; omega))
          go_wp2_with fail
          refine (noteMsg_s (m := m) D2.m (by omega) N2.c0 N2.c1 N2.c3).mono ?_
          rintro e w3 ⟨rfl, Λ3, N3, e3⟩
          go_wp2
          go_ret
          exact ⟨0, ν', rfl, ⟨Λ3, by rw [sendSg, if_pos rfl, Int.toNat_natCast]; exact D2.trans N3, by rw [e3, evS_of HS.out (HM.out (by first | trivial | rfl))]; rfl⟩, .inr ⟨x, y, rfl, hx, rfl, hy, m, true, HS.out, fun q => ⟨HM.out (by first | exact q | trivial), rfl⟩, fun q => by simp at q⟩⟩
    · have hv2 := validCore_any b W
      rw [decide_eq_false hvb] at hv2
      have HNV := hideIt (fun q : 0 ≤ b ∧ b < 4 => hvb q)
      go_enter Tryz.func136, Tryz.ntmps136
      go_wp2_with fail
      refine hv1.mono ?_
      rintro e W ⟨rfl, rfl⟩
      go_wp2_with fail
      refine hv2.mono ?_
      rintro e W ⟨rfl, rfl⟩
      go_wp2_with fail
      refine (refuse_any DW.m (by omega)).mono ?_
      rintro e w1 ⟨rfl, Λ1, N1, e1⟩
      have DW := DW.trans N1
      go_wp2
      go_ret
      exact ⟨4, ν, rfl, ⟨Λ1, by rw [sendSg, if_neg (by omega)]; exact DW.mono (by omega), e1⟩, .inl ⟨fun q => HNV.out (by omega), rfl, rfl⟩⟩
  · have hv1 := validCore_any a W
    rw [decide_eq_false hva] at hv1
    have HNV := hideIt (fun q : 0 ≤ a ∧ a < 4 => hva q)
    go_enter Tryz.func136, Tryz.ntmps136
    go_wp2_with fail
    refine hv1.mono ?_
    rintro e W ⟨rfl, rfl⟩
    go_wp2_with fail
    refine (refuse_any DW.m (by omega)).mono ?_
    rintro e w1 ⟨rfl, Λ1, N1, e1⟩
    have DW := DW.trans N1
    go_wp2
    go_ret
    exact ⟨4, ν, rfl, ⟨Λ1, by rw [sendSg, if_neg (by omega)]; exact DW.mono (by omega), e1⟩, .inl ⟨fun q => HNV.out (by omega), rfl, rfl⟩⟩
end W
end Go.Proofs.Qxb6500877aGreatDoor
