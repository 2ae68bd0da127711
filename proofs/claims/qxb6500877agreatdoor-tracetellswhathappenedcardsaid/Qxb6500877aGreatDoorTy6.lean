import Derived.Deep.CutBlock
import Derived.OwnWalk
import Derived.Maps.AppendAt
import Derived.Test.Qxb6500877aGreatDoorTx4
set_option linter.unusedVariables false
set_option linter.unusedSimpArgs false
namespace Go.Proofs.Qxb6500877aGreatDoor
open Go.RowKit

theorem ring_at {N k : Nat} {l : List EvS} (hk : k < min l.length N) : (rS N l + k) % N = (l.length - min l.length N + k) % N := by
  unfold rS
  split
  · rename_i h
    rw [Nat.min_eq_left h, Nat.sub_self]
  · rename_i h
    rw [Nat.min_eq_right (by omega), Nat.mod_add_mod]
    have : l.length - N + k + N = l.length + k := by omega
    rw [← this, Nat.add_mod_right]
theorem rS_lt {N : Nat} {l : List EvS} (hN : 0 < N) : rS N l < N := by
  unfold rS
  split
  · exact hN
  · exact Nat.mod_lt _ hN
/-- A row of n events, the first k of them as told. -/
structure RowE (w : World) (g n k : Nat) (f : Nat → Option EvS) : Prop where
  ex : ∀ j, j < n * 9 → ∃ v, w.cell? ⟨g, j, none⟩ = some v
  fz : ∀ o, w.frozen? ⟨g, o, none⟩ = false
  pre : ∀ j e, j < k → f j = some e → Ev9 w g (j * 9) e
theorem RowE.put {w : World} {g n k : Nat} {f : Nat → Option EvS} {e : EvS} (h : RowE w g n k f) (hk : k < n) (hf : f k = some e) : RowE (putEv w g (k * 9) e) g n (k + 1) f := by
  refine ⟨fun j hj => putEv_ex (h.ex j hj), fun o => (putEv_frz _ _ _ _ _).trans (h.fz o), fun j e' hj he => ?_⟩
  by_cases q : j = k
  · subst q
    rw [hf] at he
    obtain rfl : e = e' := Option.some.inj he
    exact putEv_at (fun i hi => h.ex _ (by omega))
  · have hE := h.pre j e' (by omega) he
    have o : ∀ i, i < 9 → (putEv w g (k * 9) e).cell? ⟨g, j * 9 + i, none⟩ = w.cell? ⟨g, j * 9 + i, none⟩ := fun i hi => putEv_other _ _ _ _ (by omega)
    have o0 := o 0 (by omega)
    rw [Nat.add_zero] at o0
    exact ⟨o0.trans hE.c0, (o 1 (by omega)).trans hE.c1, (o 2 (by omega)).trans hE.c2, (o 3 (by omega)).trans hE.c3, (o 4 (by omega)).trans hE.c4, (o 5 (by omega)).trans hE.c5, (o 6 (by omega)).trans hE.c6, (o 7 (by omega)).trans hE.c7, (o 8 (by omega)).trans hE.c8⟩
theorem below_putEv {n : Nat} {w w1 : World} (h : Below n w w1) {g o : Nat} {e : EvS} (hg : n ≤ g) : Below n w (putEv w1 g o e) := by
  unfold putEv
  repeat' (refine below_cell ?_ _ hg _)
  exact h
theorem RowE.drew {w : World} {g n k : Nat} {f : Nat → Option EvS} (h : RowE w g n k f) : RowE w.drew g n k f := ⟨h.ex, h.fz, fun j e hj he => (h.pre j e hj he).blk rfl⟩
set_option maxRecDepth 20000 in
set_option maxHeartbeats 8000000 in
theorem events_any {w : World} {R F N : Nat} {l : List EvS} (H : RingAt w R F N l) (hN : 0 < N ∧ N ≤ 8) (hl : l.length < 1000000000000) :
    Calls Tryz.prog 61 #[.pointer (some ⟨R, 0, none⟩)] w fun e w' => ∃ v, e = .returned v ∧ EvIn w' v (l.drop (l.length - min l.length N)) ∧ Below w.heap.size w w' := by
  obtain ⟨i0_, hi_, hz0, hz1, hz2⟩ := info_parts info123
  have c0 := H.c0
  have c1 := H.c1
  have c2 := H.c2
  obtain ⟨n, hn⟩ : ∃ n, min l.length N = n := ⟨_, rfl⟩
  obtain ⟨s, hs⟩ : ∃ s, rS N l = s := ⟨_, rfl⟩
  rw [hn] at c2 ⊢
  rw [hs] at c1
  have hsN : s < N := by rw [← hs]; exact rS_lt hN.1
  have hnN : n ≤ N := by omega
  have HNN := hideIt hn
  have HSS := hideIt hs
  have HH := hideIt H
  have hR : R < w.heap.size := H.lt
  have hF : F < w.heap.size := H.ltF hN.1
  obtain ⟨N0, N8⟩ := hN
  have HLL := hideIt hl
  have HLN : Hid (n ≤ l.length) := hideIt (by omega)
  have HAT : Hid (∀ k, k < n → ∃ e, (l.drop (l.length - n))[k]? = some e ∧ rF N l ((s + k) % N) = some e) := hideIt (fun k hk => by
    have hi : l.length - n + k < l.length := by omega
    refine ⟨l[l.length - n + k], by rw [List.getElem?_drop]; exact List.getElem?_eq_getElem hi, ?_⟩
    rw [← hs, ring_at (by omega), hn, rF_get hi (by omega)]
    exact List.getElem?_eq_getElem hi)
  clear hn hs H hl
  go_enter Tryz.func61, Tryz.ntmps61
  go_wp2_with (first | (at_make; refine wpList_make_full _ rfl _ _ 111 rfl w.heap.size 123 i0_ _ 9 Tryz.underlying111 hi_ hz0 hz1 .i64 .i64 (n : Int) (n : Int) n rfl rfl rfl rfl (by rw [hz2]; omega) (by unfold maxLen; omega) (Nat.le_refl _) ?_; intro w3 hown3 hgrow3) | go_in)
  have hb3 : Below w.heap.size w w3 := ⟨hgrow3.os, hgrow3.tape, hgrow3.output, hgrow3.size, fun k hk => hgrow3.block k hk (by simp)⟩
  have R3 : RowE w3 w.heap.size n 0 (fun k => (l.drop (l.length - n))[k]?) := by
    refine ⟨fun j hj => ?_, fun o => hown3.frozenAt o, fun j e hj => by omega⟩
    have e := hown3.cellAt j hj
    have hl := hown3.1
    exact ⟨_, e.trans (List.getElem?_eq_getElem (by omega))⟩
  clear hgrow3 hown3 c0 c1 c2
  have hgR : ¬ (w.heap.size = R) := by omega
  have hRg : ¬ (R = w.heap.size) := by omega
  have hgF : ¬ (w.heap.size = F) := by omega
  have hFg : ¬ (F = w.heap.size) := by omega
  go_wp2_with fail
  go_loopg [12] n (fun gg v wr => ∃ k : Nat, k + gg = n ∧ v = .int .i64 (k : Int) ∧ RowE wr w.heap.size n k (fun k => (l.drop (l.length - n))[k]?) ∧ Below w.heap.size w wr)
  case atStart => exact ⟨0, by omega, rfl, R3, hb3⟩
  case round =>
    clear R3 hb3
    obtain ⟨k, hk, rfl, Rw, hb⟩ := hrel
    by_cases hkn : k < n
    · have k0 : (0 : Int) ≤ k := by omega
      have k1 : (k : Int) < (n : Int) := by omega
      have Hr : RingAt wr R F N l := RingX.two HH.out (hb.block R hR) (hb.block F hF)
      obtain ⟨e, he, hf⟩ := HAT.out k hkn
      obtain ⟨p, HP⟩ : ∃ p, Hid ((s + k) % N = p) := ⟨_, hideIt rfl⟩
      rw [HP.out] at hf
      have hp : p < N := by rw [← HP.out]; exact Nat.mod_lt _ N0
      have p0 : (0 : Int) ≤ p := by omega
      have p1 : (p : Int) < (N : Int) := by omega
      have c0 := Hr.c0
      have c1 := Hr.c1
      rw [HSS.out] at c1
      obtain ⟨e0, e1, e2, e3, e4, e5, e6, e7, e8⟩ := Hr.bf p e hp hf
      have hw1 : IntKind.i64.wrap ((s : Int) + k) = (s : Int) + k := by rw [IntKind.wrap_i64]; omega
      have hN0 : ((N : Int) == 0) = false := beq_eq_false_iff_ne.2 (by omega)
      have htm : ((s : Int) + k).tmod N = (p : Int) := by
        rw [Int.tmod_eq_emod_of_nonneg (by omega), ← HP.out]
        rfl
      have hNz : ¬ (N = 0) := by omega
      have hNz' : ¬ ((N : Int) = 0) := by omega
      have fz := Rw.fz
      obtain ⟨v0, x0⟩ := Rw.ex (k * 9) (by omega)
      obtain ⟨v1, x1⟩ := Rw.ex (k * 9 + 1) (by omega)
      obtain ⟨v2, x2⟩ := Rw.ex (k * 9 + 2) (by omega)
      obtain ⟨v3, x3⟩ := Rw.ex (k * 9 + 3) (by omega)
      obtain ⟨v4, x4⟩ := Rw.ex (k * 9 + 4) (by omega)
      obtain ⟨v5, x5⟩ := Rw.ex (k * 9 + 5) (by omega)
      obtain ⟨v6, x6⟩ := Rw.ex (k * 9 + 6) (by omega)
      obtain ⟨v7, x7⟩ := Rw.ex (k * 9 + 7) (by omega)
      obtain ⟨v8, x8⟩ := Rw.ex (k * 9 + 8) (by omega)
      have HE := hideIt he
      clear he hf Hr
      go_upto_region 5 with fail
      refine wp_region_l (l := 21) (S := (fun w' => (w'.cell? ⟨R, 0, none⟩ = some (.slice (some ⟨F, 0, none⟩) N N) ∧ w'.cell? ⟨R, 1, none⟩ = some (.int .i64 (s : Int))) ∧ w'.cell? ⟨F, p * 9, none⟩ = some (.int .u8 e.kd) ∧ w'.cell? ⟨F, p * 9 + 1, none⟩ = some (.int .u64 e.ti) ∧ w'.cell? ⟨F, p * 9 + 2, none⟩ = some (.int .i64 e.co) ∧ w'.cell? ⟨F, p * 9 + 3, none⟩ = some (.int .i64 e.tk) ∧ w'.cell? ⟨F, p * 9 + 4, none⟩ = some (.int .u64 e.tm) ∧ w'.cell? ⟨F, p * 9 + 5, none⟩ = some (.int .i64 e.bx) ∧ w'.cell? ⟨F, p * 9 + 6, none⟩ = some (.int .u64 e.sq) ∧ w'.cell? ⟨F, p * 9 + 7, none⟩ = some (.int .u8 e.st) ∧ w'.cell? ⟨F, p * 9 + 8, none⟩ = some (.int .i64 e.cd))) (by kernel_rfl) ⟨⟨c0, c1⟩, e0, e1, e2, e3, e4, e5, e6, e7, e8⟩ (fun hHeld => ?_)
      refine AnyL.take2 (i := 0) (oi := { dst := some 15, op := Go.Op.move (Go.Operand.tmp 3), type := 111, pos := _, after := #[], guard := none }) (v := ?vv12001) (by kernel_rfl) (by kernel_rfl) rfl (by kernel_rfl) (by kernel_rfl) (by kernel_rfl) (fun _ _ _ h => h) (Or.inl ⟨by rfl, ?hy12001⟩) (by assumption) ?tk12001
      case hy12001 => (intro w hSw; (try dsimp only at hSw); go_simp; (try with_reducible rfl))
      try simp only [Act.put, List.setIfInBounds_toArray, List.set_cons_zero, List.set_cons_succ]
      refine AnyL.take2 (i := 1) (oi := { dst := some 16, op := Go.Op.move (Go.Operand.tmp 4), type := 3, pos := _, after := #[], guard := none }) (v := ?vv12002) (by kernel_rfl) (by kernel_rfl) rfl (by kernel_rfl) (by kernel_rfl) (by kernel_rfl) (fun _ _ _ h => h) (Or.inl ⟨by rfl, ?hy12002⟩) (by assumption) ?tk12002
      case hy12002 => (intro w hSw; (try dsimp only at hSw); go_simp; (try with_reducible rfl))
      try simp only [Act.put, List.setIfInBounds_toArray, List.set_cons_zero, List.set_cons_succ]
      refine AnyL.take2 (i := 2) (oi := { dst := some 17, op := Go.Op.move (Go.Operand.tmp 0), type := 108, pos := _, after := #[], guard := none }) (v := ?vv12003) (by kernel_rfl) (by kernel_rfl) rfl (by kernel_rfl) (by kernel_rfl) (by kernel_rfl) (fun _ _ _ h => h) (Or.inl ⟨by rfl, ?hy12003⟩) (by assumption) ?tk12003
      case hy12003 => (intro w hSw; (try dsimp only at hSw); go_simp; (try with_reducible rfl))
      try simp only [Act.put, List.setIfInBounds_toArray, List.set_cons_zero, List.set_cons_succ]
      refine AnyL.take2 (i := 3) (oi := { dst := some 18, op := Go.Op.nilCheck (Go.Operand.tmp 17), type := 0, pos := _, after := #[{ on := 2, ground := Go.Ground.data }], guard := none }) (v := ?vv12004) (by kernel_rfl) (by kernel_rfl) rfl (by kernel_rfl) (by kernel_rfl) (by kernel_rfl) (fun _ _ _ h => h) (Or.inl ⟨by rfl, ?hy12004⟩) (by assumption) ?tk12004
      case hy12004 => (intro w hSw; (try dsimp only at hSw); go_simp; (try with_reducible rfl))
      try simp only [Act.put, List.setIfInBounds_toArray, List.set_cons_zero, List.set_cons_succ]
      refine AnyL.take2 (i := 4) (oi := { dst := some 19, op := Go.Op.fieldAddr 217 (Go.Operand.tmp 18) 0, type := 0, pos := _, after := #[{ on := 3, ground := Go.Ground.data }], guard := none }) (v := ?vv12005) (by kernel_rfl) (by kernel_rfl) rfl (by kernel_rfl) (by kernel_rfl) (by kernel_rfl) (fun _ _ _ h => h) (Or.inl ⟨by rfl, ?hy12005⟩) (by assumption) ?tk12005
      case hy12005 => (intro w hSw; (try dsimp only at hSw); go_simp; (try with_reducible rfl))
      try simp only [Act.put, List.setIfInBounds_toArray, List.set_cons_zero, List.set_cons_succ]
      refine AnyL.take2 (i := 5) (oi := { dst := some 20, op := Go.Op.load 111 (Go.Operand.tmp 19), type := 111, pos := _, after := #[{ on := 4, ground := Go.Ground.data }], guard := none }) (v := ?vv12006) (by kernel_rfl) (by kernel_rfl) rfl (by kernel_rfl) (by kernel_rfl) (by kernel_rfl) (fun _ _ _ h => h) (Or.inl ⟨by rfl, ?hy12006⟩) (by assumption) ?tk12006
      case hy12006 => (intro w hSw; (try dsimp only at hSw); go_simp; (try with_reducible rfl))
      try simp only [Act.put, List.setIfInBounds_toArray, List.set_cons_zero, List.set_cons_succ]
      refine AnyL.take2 (i := 6) (oi := { dst := some 21, op := Go.Op.move (Go.Operand.tmp 0), type := 108, pos := _, after := #[], guard := none }) (v := ?vv12007) (by kernel_rfl) (by kernel_rfl) rfl (by kernel_rfl) (by kernel_rfl) (by kernel_rfl) (fun _ _ _ h => h) (Or.inl ⟨by rfl, ?hy12007⟩) (by assumption) ?tk12007
      case hy12007 => (intro w hSw; (try dsimp only at hSw); go_simp; (try with_reducible rfl))
      try simp only [Act.put, List.setIfInBounds_toArray, List.set_cons_zero, List.set_cons_succ]
      refine AnyL.take2 (i := 7) (oi := { dst := some 22, op := Go.Op.nilCheck (Go.Operand.tmp 21), type := 0, pos := _, after := #[{ on := 6, ground := Go.Ground.data }], guard := none }) (v := ?vv12008) (by kernel_rfl) (by kernel_rfl) rfl (by kernel_rfl) (by kernel_rfl) (by kernel_rfl) (fun _ _ _ h => h) (Or.inl ⟨by rfl, ?hy12008⟩) (by assumption) ?tk12008
      case hy12008 => (intro w hSw; (try dsimp only at hSw); go_simp; (try with_reducible rfl))
      try simp only [Act.put, List.setIfInBounds_toArray, List.set_cons_zero, List.set_cons_succ]
      refine AnyL.take2 (i := 8) (oi := { dst := some 23, op := Go.Op.fieldAddr 217 (Go.Operand.tmp 22) 1, type := 0, pos := _, after := #[{ on := 7, ground := Go.Ground.data }], guard := none }) (v := ?vv12009) (by kernel_rfl) (by kernel_rfl) rfl (by kernel_rfl) (by kernel_rfl) (by kernel_rfl) (fun _ _ _ h => h) (Or.inl ⟨by rfl, ?hy12009⟩) (by assumption) ?tk12009
      case hy12009 => (intro w hSw; (try dsimp only at hSw); go_simp; (try with_reducible rfl))
      try simp only [Act.put, List.setIfInBounds_toArray, List.set_cons_zero, List.set_cons_succ]
      refine AnyL.take2 (i := 9) (oi := { dst := some 24, op := Go.Op.load 3 (Go.Operand.tmp 23), type := 3, pos := _, after := #[{ on := 8, ground := Go.Ground.data }], guard := none }) (v := ?vv12010) (by kernel_rfl) (by kernel_rfl) rfl (by kernel_rfl) (by kernel_rfl) (by kernel_rfl) (fun _ _ _ h => h) (Or.inl ⟨by rfl, ?hy12010⟩) (by assumption) ?tk12010
      case hy12010 => (intro w hSw; (try dsimp only at hSw); go_simp; (try with_reducible rfl))
      try simp only [Act.put, List.setIfInBounds_toArray, List.set_cons_zero, List.set_cons_succ]
      refine AnyL.take2 (i := 10) (oi := { dst := some 25, op := Go.Op.move (Go.Operand.tmp 4), type := 3, pos := _, after := #[], guard := none }) (v := ?vv12011) (by kernel_rfl) (by kernel_rfl) rfl (by kernel_rfl) (by kernel_rfl) (by kernel_rfl) (fun _ _ _ h => h) (Or.inl ⟨by rfl, ?hy12011⟩) (by assumption) ?tk12011
      case hy12011 => (intro w hSw; (try dsimp only at hSw); go_simp; (try with_reducible rfl))
      try simp only [Act.put, List.setIfInBounds_toArray, List.set_cons_zero, List.set_cons_succ]
      refine AnyL.take2 (i := 11) (oi := { dst := some 26, op := Go.Op.binOp Go.BinOp.add 3 (Go.Operand.tmp 24) (Go.Operand.tmp 25) 3, type := 3, pos := _, after := #[{ on := 9, ground := Go.Ground.data }, { on := 10, ground := Go.Ground.data }], guard := none }) (v := ?vv12012) (by kernel_rfl) (by kernel_rfl) rfl (by kernel_rfl) (by kernel_rfl) (by kernel_rfl) (fun _ _ _ h => h) (Or.inl ⟨by rfl, ?hy12012⟩) (by assumption) ?tk12012
      case hy12012 => (intro w hSw; (try dsimp only at hSw); go_simp; (try with_reducible rfl))
      try simp only [Act.put, List.setIfInBounds_toArray, List.set_cons_zero, List.set_cons_succ]
      refine AnyL.take2 (i := 12) (oi := { dst := some 27, op := Go.Op.move (Go.Operand.tmp 0), type := 108, pos := _, after := #[], guard := none }) (v := ?vv12013) (by kernel_rfl) (by kernel_rfl) rfl (by kernel_rfl) (by kernel_rfl) (by kernel_rfl) (fun _ _ _ h => h) (Or.inl ⟨by rfl, ?hy12013⟩) (by assumption) ?tk12013
      case hy12013 => (intro w hSw; (try dsimp only at hSw); go_simp; (try with_reducible rfl))
      try simp only [Act.put, List.setIfInBounds_toArray, List.set_cons_zero, List.set_cons_succ]
      refine AnyL.take2 (i := 13) (oi := { dst := some 28, op := Go.Op.nilCheck (Go.Operand.tmp 27), type := 0, pos := _, after := #[{ on := 12, ground := Go.Ground.data }], guard := none }) (v := ?vv12014) (by kernel_rfl) (by kernel_rfl) rfl (by kernel_rfl) (by kernel_rfl) (by kernel_rfl) (fun _ _ _ h => h) (Or.inl ⟨by rfl, ?hy12014⟩) (by assumption) ?tk12014
      case hy12014 => (intro w hSw; (try dsimp only at hSw); go_simp; (try with_reducible rfl))
      try simp only [Act.put, List.setIfInBounds_toArray, List.set_cons_zero, List.set_cons_succ]
      refine AnyL.take2 (i := 14) (oi := { dst := some 29, op := Go.Op.fieldAddr 217 (Go.Operand.tmp 28) 0, type := 0, pos := _, after := #[{ on := 13, ground := Go.Ground.data }], guard := none }) (v := ?vv12015) (by kernel_rfl) (by kernel_rfl) rfl (by kernel_rfl) (by kernel_rfl) (by kernel_rfl) (fun _ _ _ h => h) (Or.inl ⟨by rfl, ?hy12015⟩) (by assumption) ?tk12015
      case hy12015 => (intro w hSw; (try dsimp only at hSw); go_simp; (try with_reducible rfl))
      try simp only [Act.put, List.setIfInBounds_toArray, List.set_cons_zero, List.set_cons_succ]
      refine AnyL.take2 (i := 15) (oi := { dst := some 30, op := Go.Op.load 111 (Go.Operand.tmp 29), type := 111, pos := _, after := #[{ on := 14, ground := Go.Ground.data }], guard := none }) (v := ?vv12016) (by kernel_rfl) (by kernel_rfl) rfl (by kernel_rfl) (by kernel_rfl) (by kernel_rfl) (fun _ _ _ h => h) (Or.inl ⟨by rfl, ?hy12016⟩) (by assumption) ?tk12016
      case hy12016 => (intro w hSw; (try dsimp only at hSw); go_simp; (try with_reducible rfl))
      try simp only [Act.put, List.setIfInBounds_toArray, List.set_cons_zero, List.set_cons_succ]
      refine AnyL.take2 (i := 16) (oi := { dst := some 31, op := Go.Op.call { callee := Go.Callee.builtin Go.Builtin.len, args := #[Go.Operand.tmp 30], argTypes := #[111] }, type := 3, pos := _, after := #[{ on := 15, ground := Go.Ground.data }], guard := none }) (v := ?vv12017) (by kernel_rfl) (by kernel_rfl) rfl (by kernel_rfl) (by kernel_rfl) (by kernel_rfl) (fun _ _ _ h => h) (Or.inl ⟨by rfl, ?hy12017⟩) (by assumption) ?tk12017
      case hy12017 => (intro w hSw; (try dsimp only at hSw); go_simp; (try with_reducible rfl))
      try simp only [Act.put, List.setIfInBounds_toArray, List.set_cons_zero, List.set_cons_succ]
      refine AnyL.take2 (i := 17) (oi := { dst := some 32, op := Go.Op.binOp Go.BinOp.rem 3 (Go.Operand.tmp 26) (Go.Operand.tmp 31) 3, type := 3, pos := _, after := #[{ on := 11, ground := Go.Ground.data }, { on := 16, ground := Go.Ground.data }], guard := none }) (v := ?vv12018) (by kernel_rfl) (by kernel_rfl) rfl (by kernel_rfl) (by kernel_rfl) (by kernel_rfl) (fun _ _ _ h => h) (Or.inl ⟨by rfl, ?hy12018⟩) (by assumption) ?tk12018
      case hy12018 => (intro w hSw; (try dsimp only at hSw); go_simp; (try with_reducible rfl))
      try simp only [Act.put, List.setIfInBounds_toArray, List.set_cons_zero, List.set_cons_succ]
      refine AnyL.take2 (i := 18) (oi := { dst := some 33, op := Go.Op.indexAddr 111 (Go.Operand.tmp 20) (Go.Operand.tmp 32), type := 0, pos := _, after := #[{ on := 5, ground := Go.Ground.data }, { on := 17, ground := Go.Ground.data }], guard := none }) (v := ?vv12019) (by kernel_rfl) (by kernel_rfl) rfl (by kernel_rfl) (by kernel_rfl) (by kernel_rfl) (fun _ _ _ h => h) (Or.inl ⟨by rfl, ?hy12019⟩) (by assumption) ?tk12019
      case hy12019 => (intro w hSw; (try dsimp only at hSw); go_simp; (try with_reducible rfl))
      try simp only [Act.put, List.setIfInBounds_toArray, List.set_cons_zero, List.set_cons_succ]
      refine AnyL.take2 (i := 19) (oi := { dst := some 34, op := Go.Op.load 123 (Go.Operand.tmp 33), type := 123, pos := _, after := #[{ on := 18, ground := Go.Ground.data }], guard := none }) (v := ?vv12020) (by kernel_rfl) (by kernel_rfl) rfl (by kernel_rfl) (by kernel_rfl) (by kernel_rfl) (fun _ _ _ h => h) (Or.inl ⟨by rfl, ?hy12020⟩) (by assumption) ?tk12020
      case hy12020 => (intro w hSw; (try dsimp only at hSw); go_simp; (try with_reducible rfl))
      try simp only [Act.put, List.setIfInBounds_toArray, List.set_cons_zero, List.set_cons_succ]
      refine AnyL.take2 (i := 20) (oi := { dst := some 35, op := Go.Op.indexAddr 111 (Go.Operand.tmp 15) (Go.Operand.tmp 16), type := 0, pos := _, after := #[{ on := 0, ground := Go.Ground.data }, { on := 1, ground := Go.Ground.data }, { on := 0, ground := Go.Ground.phase }, { on := 1, ground := Go.Ground.phase }, { on := 2, ground := Go.Ground.phase }, { on := 3, ground := Go.Ground.phase }, { on := 4, ground := Go.Ground.phase }, { on := 5, ground := Go.Ground.phase }, { on := 6, ground := Go.Ground.phase }, { on := 7, ground := Go.Ground.phase }, { on := 8, ground := Go.Ground.phase }, { on := 9, ground := Go.Ground.phase }, { on := 10, ground := Go.Ground.phase }, { on := 11, ground := Go.Ground.phase }, { on := 12, ground := Go.Ground.phase }, { on := 13, ground := Go.Ground.phase }, { on := 14, ground := Go.Ground.phase }, { on := 15, ground := Go.Ground.phase }, { on := 16, ground := Go.Ground.phase }, { on := 17, ground := Go.Ground.phase }, { on := 18, ground := Go.Ground.phase }, { on := 19, ground := Go.Ground.phase }], guard := none }) (v := ?vv12021) (by kernel_rfl) (by kernel_rfl) rfl (by kernel_rfl) (by kernel_rfl) (by kernel_rfl) (fun _ _ _ h => h) (Or.inl ⟨by rfl, ?hy12021⟩) (by assumption) ?tk12021
      case hy12021 => (intro w hSw; (try dsimp only at hSw); go_simp; (try with_reducible rfl))
      try simp only [Act.put, List.setIfInBounds_toArray, List.set_cons_zero, List.set_cons_succ]
      refine AnyL.last (o := { dst := none, op := Go.Op.store 123 (Go.Operand.tmp 35) (Go.Operand.tmp 34), type := 0, pos := _, after := #[{ on := 20, ground := Go.Ground.data }, { on := 19, ground := Go.Ground.data }, { on := 0, ground := Go.Ground.phase }, { on := 1, ground := Go.Ground.phase }, { on := 2, ground := Go.Ground.phase }, { on := 3, ground := Go.Ground.phase }, { on := 4, ground := Go.Ground.phase }, { on := 5, ground := Go.Ground.phase }, { on := 6, ground := Go.Ground.phase }, { on := 7, ground := Go.Ground.phase }, { on := 8, ground := Go.Ground.phase }, { on := 9, ground := Go.Ground.phase }, { on := 10, ground := Go.Ground.phase }, { on := 11, ground := Go.Ground.phase }, { on := 12, ground := Go.Ground.phase }, { on := 13, ground := Go.Ground.phase }, { on := 14, ground := Go.Ground.phase }, { on := 15, ground := Go.Ground.phase }, { on := 16, ground := Go.Ground.phase }, { on := 17, ground := Go.Ground.phase }, { on := 18, ground := Go.Ground.phase }, { on := 19, ground := Go.Ground.phase }], guard := none }) (by kernel_rfl) rfl (by kernel_rfl) (fun K' hK' => ?_)
      go_simp
      clear hHeld
      refine hK'.out _ _ ?_
      clear hK' K'
      try simp only [Act.put, List.setIfInBounds_toArray, List.set_cons_zero, List.set_cons_succ]
      go_wp2
      go_roundg (n - (k + 1))
      case measure => omega
      case rel =>
        have q1 := (Rw.put (e := e) hkn HE.out).drew
        have q2 := below_dr (below_putEv (o := k * 9) (e := e) hb (Nat.le_refl _))
        unfold putEv at q1 q2
        exact ⟨k + 1, by omega, by go_num, q1, q2⟩
    · have e4 : k = n := by omega
      subst e4
      go_wp2
      go_ret
      have hlen : (l.drop (l.length - k)).length = k := by rw [List.length_drop]; have := HLN.out; omega
      refine ⟨_, rfl, ⟨some ⟨w.heap.size, 0, none⟩, k, by rw [hlen]; rfl, .inr ⟨w.heap.size, 0, rfl, fun j e hj => ?_⟩⟩, hb⟩
      have hjk : j < k := by
        have := (List.getElem?_eq_some_iff.1 hj).1
        omega
      have := Rw.pre j e hjk hj
      rw [Nat.zero_add]
      exact this
end Go.Proofs.Qxb6500877aGreatDoor
