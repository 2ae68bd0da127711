import Derived.Deep.CutBlock
import Derived.OwnWalk
import Derived.Maps.AppendAt
import Derived.Test.Qxb6500877aGreatDoorTr3
import Derived.Test.Qxb6500877aGreatDoorAv
set_option linter.unusedVariables false
set_option linter.unusedSimpArgs false
namespace Go.Proofs.Qxb6500877aGreatDoor
open Go.RowKit

theorem own_keep {w w' : World} {base e s n : Nat} {v : Value} {xs : List Value} (h : w.ownsRow base e s v n xs) (hs : w.heap.size ≤ w'.heap.size) (hk : ∀ q, base ≤ q → q < w.heap.size → w'.heap[q]? = w.heap[q]?) : w'.ownsRow base e s v n xs := by
  refine ⟨h.1, ?_⟩
  have hlt := h.lt
  rcases h.2 with q | ⟨g, cap, cur, e1, h1, h2, r⟩
  · exact .inl q
  · subst e1
    exact .inr ⟨g, cap, cur, rfl, h1, (hk g h1 (hlt g rfl).2).trans h2, r⟩
/-- The onlooker: a collector, and the ring behind it. -/
structure TrAt (w : World) (C R F N b : Nat) (V : Value) (l : List EvS) : Prop where
  c0 : w.cell? ⟨C, 0, none⟩ = some V
  c1 : w.cell? ⟨C, 1, none⟩ = some (.iface 108 (.pointer (some ⟨R, 0, none⟩)))
  fz : ∀ o, w.frozen? ⟨C, o, none⟩ = false
  own : w.ownsRow b 123 9 V l.length (evCells l)
  ring : RingAt w R F N l
  hN : 0 < N ∧ N ≤ 8
  lt : C < b ∧ R < b ∧ F < b ∧ C ≠ R ∧ C ≠ F
theorem meth_ring (v : Value) (w : World) : (method 445 108 v "Record").run Tryz.prog w = .ok (259, v) w := by kernel_rfl
theorem meth_coll (v : Value) (w : World) : (method 445 110 v "Record").run Tryz.prog w = .ok (261, v) w := by kernel_rfl
/-- What an onlooker writes. -/
structure TrW (C R F : Nat) (V V' : Value) (w w' : World) : Prop where
  os : w'.os = w.os
  tape : w'.tape = w.tape
  output : w'.output = w.output
  size : w.heap.size ≤ w'.heap.size
  block : ∀ q, q < w.heap.size → q ≠ C → q ≠ R → q ≠ F → V.ownBlock ≠ some q → w'.heap[q]? = w.heap[q]?
  row : V'.ownBlock = V.ownBlock ∨ ∃ q, V'.ownBlock = some q ∧ w.heap.size ≤ q
set_option maxRecDepth 20000 in
set_option maxHeartbeats 4000000 in
theorem coll_rec {w : World} {C R F N b kk : Nat} {V : Value} {l : List EvS} {e : EvS} (H : TrAt w C R F N b V l) (hb : b ≤ w.heap.size) (hl : l.length < 1000000000) (ek : e.kd = (kk : Int)) (hkk : kk < 11) :
    Calls Tryz.prog 261 #[.pointer (some ⟨C, 0, none⟩), evV e] w fun x w' => x = .returned (.tuple #[]) ∧ ∃ V', TrAt w' C R F N b V' (l ++ [e]) ∧ TrW C R F V V' w w' := by
  obtain ⟨i0_, hi_, hz0, hz1, hz2⟩ := info_parts info123
  obtain ⟨hlC, hlR, hlF, hCR, hCF⟩ := H.lt
  have hb0 := one_alloc w (.cells #[.int .u8 e.kd, .int .u64 e.ti, .int .i64 e.co, .int .i64 e.tk, .int .u64 e.tm, .int .i64 e.bx, .int .u64 e.sq, .int .u8 e.st, .int .i64 e.cd] 123)
  have E0 := Ev9.new w e 123
  have s0 := (World.cell?_of_block (a := ⟨C, 0, none⟩) (hb0.block C (by omega))).trans H.c0
  have s1 := (World.cell?_of_block (a := ⟨C, 1, none⟩) (hb0.block C (by omega))).trans H.c1
  have fz := fun o => (World.frozen?_of_block (a := ⟨C, o, none⟩) (hb0.block C (by omega))).trans (H.fz o)
  obtain ⟨pv, cap, ev⟩ := own_shape H.own
  have hown := H.own.alloc (.cells #[.int .u8 e.kd, .int .u64 e.ti, .int .i64 e.co, .int .i64 e.tk, .int .u64 e.tm, .int .i64 e.bx, .int .u64 e.sq, .int .u8 e.st, .int .i64 e.cd] 123)
  have hsz : w.heap.size < (w.alloc (.cells #[.int .u8 e.kd, .int .u64 e.ti, .int .i64 e.co, .int .i64 e.tk, .int .u64 e.tm, .int .i64 e.bx, .int .u64 e.sq, .int .u8 e.st, .int .i64 e.cd] 123)).heap.size := by simp
  obtain ⟨n, hn⟩ : ∃ n, n = l.length := ⟨_, rfl⟩
  rw [← hn] at hl ev hown
  rw [ev] at s0 hown
  have HN := hideIt hn
  have HEV := hideIt ev
  have HH := hideIt H
  have HB0 := hideIt hb0
  have HEK := hideIt ek
  clear hn ev H hb0 ek
  unfold evV
  go_enter Tryz.func261, Tryz.ntmps261
  go_upto_region 1 with fail
  generalize hWa : World.alloc w (.cells #[.int .u8 e.kd, .int .u64 e.ti, .int .i64 e.co, .int .i64 e.tk, .int .u64 e.tm, .int .i64 e.bx, .int .u64 e.sq, .int .u8 e.st, .int .i64 e.cd] 123) = wa at *
  clear hWa
  generalize hp : w.heap.size = p0 at *
  have hCw : C < wa.heap.size := by omega
  have hCr : some C ≠ (Value.slice pv n cap).ownBlock := fun q => by have := (hown.lt C q.symm).1; omega
  have hPr : some p0 ≠ (Value.slice pv n cap).ownBlock := fun q => by
    have := ((HH.out.own).lt p0 (by rw [HEV.out]; exact q.symm)).2
    omega
  have HOW := hideIt hown
  obtain ⟨e0, e1, e2, e3, e4, e5, e6, e7, e8⟩ := E0
  have E0 : Ev9 wa p0 0 e := ⟨e0, e1, e2, e3, e4, e5, e6, e7, e8⟩
  simp only [Nat.zero_add] at e1 e2 e3 e4 e5 e6 e7 e8
  go_upto_region 1 with fail
  go_cut [] (fun wd => ∃ V', wd.cell? ⟨C, 0, none⟩ = some V' ∧ Hid (wd.ownsRow b 123 9 V' (n + 1) (evCells l ++ ev9 e)) ∧ Ev9 wd p0 0 e ∧ Hid (∀ q, q < wa.heap.size → q ≠ C → (Value.slice pv n cap).ownBlock ≠ some q → wd.heap[q]? = wa.heap[q]?) ∧ (wd.os = wa.os ∧ wd.tape = wa.tape ∧ wd.output = wa.output ∧ wa.heap.size ≤ wd.heap.size) ∧ (V'.ownBlock = (Value.slice pv n cap).ownBlock ∨ ∃ q, V'.ownBlock = some q ∧ wa.heap.size ≤ q) ∧ (∀ o, wd.frozen? ⟨C, o, none⟩ = false) ∧ wd.cell? ⟨C, 1, none⟩ = some (.iface 108 (.pointer (some ⟨R, 0, none⟩))))
  case first =>
    refine wp_region_l (l := 10) (S := (fun w' => w'.cell? ⟨C, 0, none⟩ = some (.slice pv n cap) ∧ w'.cell? ⟨p0, 0, none⟩ = some (.int .u8 e.kd) ∧ w'.cell? ⟨p0, 1, none⟩ = some (.int .u64 e.ti) ∧ w'.cell? ⟨p0, 2, none⟩ = some (.int .i64 e.co) ∧ w'.cell? ⟨p0, 3, none⟩ = some (.int .i64 e.tk) ∧ w'.cell? ⟨p0, 4, none⟩ = some (.int .u64 e.tm) ∧ w'.cell? ⟨p0, 5, none⟩ = some (.int .i64 e.bx) ∧ w'.cell? ⟨p0, 6, none⟩ = some (.int .u64 e.sq) ∧ w'.cell? ⟨p0, 7, none⟩ = some (.int .u8 e.st) ∧ w'.cell? ⟨p0, 8, none⟩ = some (.int .i64 e.cd))) (by kernel_rfl) ⟨s0, e0, e1, e2, e3, e4, e5, e6, e7, e8⟩ (fun hHeld => ?_)
    refine AnyL.take2 (i := 0) (oi := { dst := some 4, op := Go.Op.move (Go.Operand.tmp 0), type := 110, pos := _, after := #[], guard := none }) (v := ?vv1) (by kernel_rfl) (by kernel_rfl) rfl (by kernel_rfl) (by kernel_rfl) (by kernel_rfl) (fun _ _ _ h => h) (Or.inl ⟨by rfl, ?hy1⟩) (by assumption) ?tk1
    case hy1 => (intro w hSw; (try dsimp only at hSw); go_simp; (try with_reducible rfl))
    try simp only [Act.put, List.setIfInBounds_toArray, List.set_cons_zero, List.set_cons_succ]
    refine AnyL.take2 (i := 1) (oi := { dst := some 5, op := Go.Op.move (Go.Operand.tmp 0), type := 110, pos := _, after := #[], guard := none }) (v := ?vv2) (by kernel_rfl) (by kernel_rfl) rfl (by kernel_rfl) (by kernel_rfl) (by kernel_rfl) (fun _ _ _ h => h) (Or.inl ⟨by rfl, ?hy2⟩) (by assumption) ?tk2
    case hy2 => (intro w hSw; (try dsimp only at hSw); go_simp; (try with_reducible rfl))
    try simp only [Act.put, List.setIfInBounds_toArray, List.set_cons_zero, List.set_cons_succ]
    refine AnyL.take2 (i := 2) (oi := { dst := some 6, op := Go.Op.nilCheck (Go.Operand.tmp 5), type := 0, pos := _, after := #[{ on := 1, ground := Go.Ground.data }], guard := none }) (v := ?vv3) (by kernel_rfl) (by kernel_rfl) rfl (by kernel_rfl) (by kernel_rfl) (by kernel_rfl) (fun _ _ _ h => h) (Or.inl ⟨by rfl, ?hy3⟩) (by assumption) ?tk3
    case hy3 => (intro w hSw; (try dsimp only at hSw); go_simp; (try with_reducible rfl))
    try simp only [Act.put, List.setIfInBounds_toArray, List.set_cons_zero, List.set_cons_succ]
    refine AnyL.take2 (i := 3) (oi := { dst := some 7, op := Go.Op.fieldAddr 115 (Go.Operand.tmp 6) 0, type := 0, pos := _, after := #[{ on := 2, ground := Go.Ground.data }], guard := none }) (v := ?vv4) (by kernel_rfl) (by kernel_rfl) rfl (by kernel_rfl) (by kernel_rfl) (by kernel_rfl) (fun _ _ _ h => h) (Or.inl ⟨by rfl, ?hy4⟩) (by assumption) ?tk4
    case hy4 => (intro w hSw; (try dsimp only at hSw); go_simp; (try with_reducible rfl))
    try simp only [Act.put, List.setIfInBounds_toArray, List.set_cons_zero, List.set_cons_succ]
    refine AnyL.take2 (i := 4) (oi := { dst := some 8, op := Go.Op.load 111 (Go.Operand.tmp 7), type := 111, pos := _, after := #[{ on := 3, ground := Go.Ground.data }], guard := none }) (v := ?vv5) (by kernel_rfl) (by kernel_rfl) rfl (by kernel_rfl) (by kernel_rfl) (by kernel_rfl) (fun _ _ _ h => h) (Or.inl ⟨by rfl, ?hy5⟩) (by assumption) ?tk5
    case hy5 => (intro w hSw; (try dsimp only at hSw); go_simp; (try with_reducible rfl))
    try simp only [Act.put, List.setIfInBounds_toArray, List.set_cons_zero, List.set_cons_succ]
    refine AnyL.take2 (i := 5) (oi := { dst := some 9, op := Go.Op.load 123 (Go.Operand.tmp 3), type := 123, pos := _, after := #[], guard := none }) (v := ?vv6) (by kernel_rfl) (by kernel_rfl) rfl (by kernel_rfl) (by kernel_rfl) (by kernel_rfl) (fun _ _ _ h => h) (Or.inl ⟨by rfl, ?hy6⟩) (by assumption) ?tk6
    case hy6 => (intro w hSw; (try dsimp only at hSw); go_simp; (try with_reducible rfl))
    try simp only [Act.put, List.setIfInBounds_toArray, List.set_cons_zero, List.set_cons_succ]
    refine AnyL.one (i := 6) (o := { dst := some 10, op := Go.Op.buildSlice 111 1 #[(0, Go.Operand.tmp 9)], type := 111, pos := _, after := #[{ on := 5, ground := Go.Ground.data }], guard := none }) (by kernel_rfl) rfl rfl (fun K' hK' => ?_)
    go_simp
    clear hHeld
    refine hK'.out _ _ (by refine ⟨?_, ?_, ?_, ?_, ?_, ?_, ?_, ?_, ?_, ?_⟩ <;> go_simp) (fun hHeld => ?_)
    clear hK' K'
    try simp only [Act.put, List.setIfInBounds_toArray, List.set_cons_zero, List.set_cons_succ]
    refine AnyL.one (i := 7) (o := { dst := some 11, op := Go.Op.call { callee := Go.Callee.builtin Go.Builtin.append, args := #[Go.Operand.tmp 8, Go.Operand.tmp 10], argTypes := #[111, 111] }, type := 111, pos := _, after := #[{ on := 4, ground := Go.Ground.data }, { on := 6, ground := Go.Ground.data }], guard := none }) (by kernel_rfl) rfl rfl (fun K' hK' => ?_)
    refine ite_take (by rfl) ?_
    refine wp_append_own_at (.tmp 8) (.tmp 10) 111 rfl b 123 i0_ (.agg #[.int .u8 0, .int .u64 0, .int .i64 0, .int .i64 0, .int .u64 0, .int .i64 0, .int .u64 0, .int .u8 0, .int .i64 0]) 9 72 Tryz.underlying111 hi_ hz0 hz1 hz2 rfl (by decide) (.slice pv n cap) n (evCells l) rfl (hown.alloc _) ⟨wa.heap.size, 0, none⟩ 1 1 (ev9 e) rfl rfl (cell_ev_new _ _ _) (ev9_one e) (by unfold maxLen; omega) (by omega) (by simp; omega) ?_
    intro v' w3 hown' hgrow hblk
    obtain ⟨p', c', rfl⟩ := own_shape hown'
    have fz3 := fun o => (pushed_frozen hgrow hCw hCr o).trans (fz o)
    have k0 := hgrow.cell (a := ⟨C, 0, none⟩) hHeld.1 hCr
    have k1 := hgrow.cell (a := ⟨p0, 0, none⟩) hHeld.2.1 hPr
    have k2 := hgrow.cell (a := ⟨p0, 1, none⟩) hHeld.2.2.1 hPr
    have k3 := hgrow.cell (a := ⟨p0, 2, none⟩) hHeld.2.2.2.1 hPr
    have k4 := hgrow.cell (a := ⟨p0, 3, none⟩) hHeld.2.2.2.2.1 hPr
    have k5 := hgrow.cell (a := ⟨p0, 4, none⟩) hHeld.2.2.2.2.2.1 hPr
    have k6 := hgrow.cell (a := ⟨p0, 5, none⟩) hHeld.2.2.2.2.2.2.1 hPr
    have k7 := hgrow.cell (a := ⟨p0, 6, none⟩) hHeld.2.2.2.2.2.2.2.1 hPr
    have k8 := hgrow.cell (a := ⟨p0, 7, none⟩) hHeld.2.2.2.2.2.2.2.2.1 hPr
    have k9 := hgrow.cell (a := ⟨p0, 8, none⟩) hHeld.2.2.2.2.2.2.2.2.2 hPr
    have HG := hideIt (And.intro hown' (And.intro hgrow hblk))
    clear hown' hgrow hblk
    clear hHeld
    refine hK'.out _ _ ⟨k0, k1, k2, k3, k4, k5, k6, k7, k8, k9⟩ (fun hHeld => ?_)
    clear hK' K'
    try simp only [Act.put, List.setIfInBounds_toArray, List.set_cons_zero, List.set_cons_succ]
    refine AnyL.take2 (i := 8) (oi := { dst := some 12, op := Go.Op.nilCheck (Go.Operand.tmp 4), type := 0, pos := _, after := #[{ on := 0, ground := Go.Ground.data }, { on := 0, ground := Go.Ground.phase }, { on := 1, ground := Go.Ground.phase }, { on := 2, ground := Go.Ground.phase }, { on := 3, ground := Go.Ground.phase }, { on := 4, ground := Go.Ground.phase }, { on := 5, ground := Go.Ground.phase }, { on := 6, ground := Go.Ground.phase }, { on := 7, ground := Go.Ground.phase }], guard := none }) (v := ?vv7) (by kernel_rfl) (by kernel_rfl) rfl (by kernel_rfl) (by kernel_rfl) (by kernel_rfl) (fun _ _ _ h => h) (Or.inl ⟨by rfl, ?hy7⟩) (by assumption) ?tk7
    case hy7 => (intro w hSw; (try dsimp only at hSw); go_simp; (try with_reducible rfl))
    try simp only [Act.put, List.setIfInBounds_toArray, List.set_cons_zero, List.set_cons_succ]
    refine AnyL.take2 (i := 9) (oi := { dst := some 13, op := Go.Op.fieldAddr 115 (Go.Operand.tmp 12) 0, type := 0, pos := _, after := #[{ on := 8, ground := Go.Ground.data }, { on := 0, ground := Go.Ground.phase }, { on := 1, ground := Go.Ground.phase }, { on := 2, ground := Go.Ground.phase }, { on := 3, ground := Go.Ground.phase }, { on := 4, ground := Go.Ground.phase }, { on := 5, ground := Go.Ground.phase }, { on := 6, ground := Go.Ground.phase }, { on := 7, ground := Go.Ground.phase }], guard := none }) (v := ?vv8) (by kernel_rfl) (by kernel_rfl) rfl (by kernel_rfl) (by kernel_rfl) (by kernel_rfl) (fun _ _ _ h => h) (Or.inl ⟨by rfl, ?hy8⟩) (by assumption) ?tk8
    case hy8 => (intro w hSw; (try dsimp only at hSw); go_simp; (try with_reducible rfl))
    try simp only [Act.put, List.setIfInBounds_toArray, List.set_cons_zero, List.set_cons_succ]
    refine AnyL.last (o := { dst := none, op := Go.Op.store 111 (Go.Operand.tmp 13) (Go.Operand.tmp 11), type := 0, pos := _, after := #[{ on := 9, ground := Go.Ground.data }, { on := 7, ground := Go.Ground.data }, { on := 7, ground := Go.Ground.chain }, { on := 0, ground := Go.Ground.phase }, { on := 1, ground := Go.Ground.phase }, { on := 2, ground := Go.Ground.phase }, { on := 3, ground := Go.Ground.phase }, { on := 4, ground := Go.Ground.phase }, { on := 5, ground := Go.Ground.phase }, { on := 6, ground := Go.Ground.phase }, { on := 7, ground := Go.Ground.phase }], guard := none }) (by kernel_rfl) rfl (by kernel_rfl) (fun K' hK' => ?_)
    go_simp
    clear hHeld
    refine hK'.out _ _ ?_
    clear hK' K'
    try simp only [Act.put, List.setIfInBounds_toArray, List.set_cons_zero, List.set_cons_succ]
    go_wp2
    go_meet
    case rel =>
      obtain ⟨ho, hg, hk⟩ := HG.out
      have bd := below_dr (one_alloc wa (.cells #[.int .u8 e.kd, .int .u64 e.ti, .int .i64 e.co, .int .i64 e.tk, .int .u64 e.tm, .int .i64 e.bx, .int .u64 e.sq, .int .u8 e.st, .int .i64 e.cd] 123))
      have hg' := grown_da hg bd
      have hk' := blk_da hk bd
      have G : w3.grownBy (w3.setCell ⟨C, 0, none⟩ (.slice p' (n + 1) c')) (some C) := ⟨rfl, rfl, rfl, by simp, fun k _ hk => far_set (fun e => hk (by rw [e]))⟩
      refine ⟨.slice p' (n + 1) c', World.cell?_setCell_same _ _ _ k0, hideIt (ho.kept G (.inr (fun q => by have := (ho.lt C q).1; omega))), E0.blk ((far_set (show p0 ≠ C by omega)).trans (hg'.block p0 (by omega) hPr)), hideIt (fun q h1 h2 h3 => (far_set h2).trans (hg'.block q h1 (fun z => h3 z.symm))), ⟨hg'.os, hg'.tape, hg'.output, by simpa using hg'.size⟩, hk', fun o => (World.frozen?_setCell _ _ _ _).trans (fz3 o), ?_⟩
      rw [World.cell?_setCell_other _ _ _ _ (by simp)]
      exact (World.cell?_of_block (a := ⟨C, 1, none⟩) (hg'.block C hCw hCr)).trans s1
  case rest =>
  clear s0 s1 fz E0 e0 e1 e2 e3 e4 e5 e6 e7 e8
  obtain ⟨V', s0, HO, E1, HF, ⟨ho1, ho2, ho3, ho4⟩, hk, fzc, s1⟩ := hcut
  have low : ∀ q, (Value.slice pv n cap).ownBlock = some q → b ≤ q := fun q z => (HOW.out.lt q z).1
  have keep : ∀ q, q < b → q ≠ C → wc.heap[q]? = w.heap[q]? := fun q h1 h2 => (HF.out q (by omega) h2 (fun z => by have := low q z; omega)).trans (HB0.out.block q (by omega))
  have rg : RingAt (World.drew wc) R F N l := RingX.two HH.out.ring (keep R hlR (fun z => hCR z.symm)) (keep F hlF (fun z => hCF z.symm))
  have hrec := ring_rec (e := e) rg HH.out.hN (by rw [← HN.out]; omega) HEK.out hkk
  unfold evV at hrec
  have hme := fun w => meth_ring (.pointer (some ⟨R, 0, none⟩)) w
  have hCd : C < (World.drew wc).heap.size := by show C < wc.heap.size; omega
  have hPd : p0 < (World.drew wc).heap.size := by show p0 < wc.heap.size; omega
  have hPR : p0 ≠ R := by omega
  have hPF : p0 ≠ F := by omega
  have HK := hideIt (And.intro keep (And.intro low hk))
  clear keep low hk rg
  obtain ⟨e0, e1, e2, e3, e4, e5, e6, e7, e8⟩ := E1
  have E1 : Ev9 wc p0 0 e := ⟨e0, e1, e2, e3, e4, e5, e6, e7, e8⟩
  simp only [Nat.zero_add] at e1 e2 e3 e4 e5 e6 e7 e8
  go_upto_region 2 with fail
  refine wp_region_held_drew (S := (fun w' => w'.cell? ⟨C, 1, none⟩ = some (.iface 108 (.pointer (some ⟨R, 0, none⟩))) ∧ w'.cell? ⟨p0, 0, none⟩ = some (.int .u8 e.kd) ∧ w'.cell? ⟨p0, 1, none⟩ = some (.int .u64 e.ti) ∧ w'.cell? ⟨p0, 2, none⟩ = some (.int .i64 e.co) ∧ w'.cell? ⟨p0, 3, none⟩ = some (.int .i64 e.tk) ∧ w'.cell? ⟨p0, 4, none⟩ = some (.int .u64 e.tm) ∧ w'.cell? ⟨p0, 5, none⟩ = some (.int .i64 e.bx) ∧ w'.cell? ⟨p0, 6, none⟩ = some (.int .u64 e.sq) ∧ w'.cell? ⟨p0, 7, none⟩ = some (.int .u8 e.st) ∧ w'.cell? ⟨p0, 8, none⟩ = some (.int .i64 e.cd))) (by kernel_rfl) ⟨s1, e0, e1, e2, e3, e4, e5, e6, e7, e8⟩ (fun hHeld => ?_)
  refine wpAnyH_take (i := 0) (oi := { dst := some 14, op := Go.Op.move (Go.Operand.tmp 0), type := 110, pos := _, after := #[], guard := none }) (v := ?vv9) rfl (by kernel_rfl) (by kernel_rfl) (by kernel_rfl) (fun _ _ _ h => h) (Or.inl ⟨by rfl, ?hy9⟩) (by assumption) ?tk9
  case hy9 => (intro w hSw; (try dsimp only at hSw); go_simp; (try with_reducible rfl))
  try simp only [Act.put, List.setIfInBounds_toArray, List.set_cons_zero, List.set_cons_succ]
  refine wpAnyH_take (i := 1) (oi := { dst := some 15, op := Go.Op.nilCheck (Go.Operand.tmp 14), type := 0, pos := _, after := #[{ on := 0, ground := Go.Ground.data }], guard := none }) (v := ?vv10) rfl (by kernel_rfl) (by kernel_rfl) (by kernel_rfl) (fun _ _ _ h => h) (Or.inl ⟨by rfl, ?hy10⟩) (by assumption) ?tk10
  case hy10 => (intro w hSw; (try dsimp only at hSw); go_simp; (try with_reducible rfl))
  try simp only [Act.put, List.setIfInBounds_toArray, List.set_cons_zero, List.set_cons_succ]
  refine wpAnyH_take (i := 2) (oi := { dst := some 16, op := Go.Op.fieldAddr 115 (Go.Operand.tmp 15) 1, type := 0, pos := _, after := #[{ on := 1, ground := Go.Ground.data }], guard := none }) (v := ?vv11) rfl (by kernel_rfl) (by kernel_rfl) (by kernel_rfl) (fun _ _ _ h => h) (Or.inl ⟨by rfl, ?hy11⟩) (by assumption) ?tk11
  case hy11 => (intro w hSw; (try dsimp only at hSw); go_simp; (try with_reducible rfl))
  try simp only [Act.put, List.setIfInBounds_toArray, List.set_cons_zero, List.set_cons_succ]
  refine wpAnyH_take (i := 3) (oi := { dst := some 17, op := Go.Op.load 113 (Go.Operand.tmp 16), type := 113, pos := _, after := #[{ on := 2, ground := Go.Ground.data }], guard := none }) (v := ?vv12) rfl (by kernel_rfl) (by kernel_rfl) (by kernel_rfl) (fun _ _ _ h => h) (Or.inl ⟨by rfl, ?hy12⟩) (by assumption) ?tk12
  case hy12 => (intro w hSw; (try dsimp only at hSw); go_simp; (try with_reducible rfl))
  try simp only [Act.put, List.setIfInBounds_toArray, List.set_cons_zero, List.set_cons_succ]
  refine wpAnyH_take (i := 4) (oi := { dst := some 18, op := Go.Op.load 123 (Go.Operand.tmp 3), type := 123, pos := _, after := #[], guard := none }) (v := ?vv13) rfl (by kernel_rfl) (by kernel_rfl) (by kernel_rfl) (fun _ _ _ h => h) (Or.inl ⟨by rfl, ?hy13⟩) (by assumption) ?tk13
  case hy13 => (intro w hSw; (try dsimp only at hSw); go_simp; (try with_reducible rfl))
  try simp only [Act.put, List.setIfInBounds_toArray, List.set_cons_zero, List.set_cons_succ]
  refine wpAnyH_ready (rs := [5]) (by kernel_rfl) (by simp) ?_
  refine AllReadyH.cons (o := { dst := some 19, op := Go.Op.call { callee := Go.Callee.invoke (Go.Operand.tmp 17) "Record", args := #[Go.Operand.tmp 18], argTypes := #[123] }, type := 0, pos := _, after := #[{ on := 3, ground := Go.Ground.data }, { on := 4, ground := Go.Ground.data }], guard := none }) rfl (fun K' hK' => ?_) AllReadyH.nil
  go_simp
  go_at_call 259
  refine hrec.mono ?_
  rintro x w4 ⟨rfl, RG4, RW4⟩
  have HQ := hideIt (And.intro RG4 RW4)
  have t1 := (World.cell?_of_block (a := ⟨C, 1, none⟩) (RW4.block C hCd hCR hCF)).trans s1
  have E4 := E1.blk (w' := w4) ((RW4.block p0 hPd hPR hPF).trans rfl)
  clear RG4 RW4
  obtain ⟨f0, f1, f2, f3, f4, f5, f6, f7, f8⟩ := E4
  clear hHeld
  refine hK'.out _ _ ⟨t1, f0, f1, f2, f3, f4, f5, f6, f7, f8⟩ (fun hHeld => ?_)
  clear hK' K'
  try simp only [Act.put, List.setIfInBounds_toArray, List.set_cons_zero, List.set_cons_succ]
  refine wpAnyH_done (by kernel_rfl) ?_ _
  go_end0
  obtain ⟨RG4, RW4⟩ := HQ.out
  obtain ⟨keep, low, hk⟩ := HK.out
  have s4 := RW4.size
  have hdz : (World.drew wc).heap.size = wc.heap.size := rfl
  have bC : w4.heap[C]? = wc.heap[C]? := RW4.block C hCd hCR hCF
  refine ⟨rfl, V', ⟨(World.cell?_of_block (a := ⟨C, 0, none⟩) bC).trans s0, t1, fun o => (World.frozen?_of_block (a := ⟨C, o, none⟩) bC).trans (fzc o), ?_, RG4, HH.out.hN, HH.out.lt⟩, ⟨RW4.os.trans (ho1.trans HB0.out.os), RW4.tape.trans (ho2.trans HB0.out.tape), RW4.output.trans (ho3.trans HB0.out.output), by omega, fun q h1 h2 h3 h4 h5 => ?_, ?_⟩⟩
  · rw [List.length_append, List.length_singleton, evCells_snoc, ← HN.out]
    exact own_keep HO.out (by omega) (fun q h1 h2 => RW4.block q h2 (by omega) (by omega))
  · refine (RW4.block q (by omega) h3 h4).trans ((HF.out q (by omega) h2 (fun z => h5 (by rw [HEV.out]; exact z))).trans (HB0.out.block q (by omega)))
  · rw [HEV.out]
    rcases hk with z | ⟨q, z1, z2⟩
    · exact .inl z
    · exact .inr ⟨q, z1, by omega⟩
end Go.Proofs.Qxb6500877aGreatDoor
