import Derived.Test.Qxb6500877aGreatDoorCb
set_option linter.unusedVariables false
set_option linter.unusedSimpArgs false
namespace Go.Proofs.Qxb6500877aGreatDoor
open Go.RowKit

def withMb (s : Wheel) (m : Nat) : Wheel := { s with mb := m }
theorem WInv.withMb {s : Wheel} {L : Option (Nat × Nat) → List Nat} {fr : List Nat} {f : Int → Option Int} (h : WInv s L fr f []) (m : Nat) : WInv (withMb s m) L fr f [] :=
  ⟨h.dll, h.nod, h.mem, h.hnd, h.hnod, NC_congr (s := s) (s' := Qxb6500877aGreatDoor.withMb s m) fr _ (fun _ _ => rfl) h.fre, h.frl, h.frn, h.live, h.map, h.ids, h.dls, h.cos, h.occ, h.now, h.dig, h.nid⟩
theorem TW.withMb {s : Wheel} {L : Option (Nat × Nat) → List Nat} {fr : List Nat} {f : Int → Option Int} {τ : TSt} {k : Nat} (h : TW s L fr f τ k) (m : Nat) : TW (withMb s m) L fr f τ k :=
  ⟨⟨h.wo.srt, h.wo.due, h.wo.ahd, h.wo.dgt, h.wo.inm, h.wo.all⟩, h.tm, h.nx, h.n0, h.n1⟩
/-- A machine's copy is a machine of the same state. -/
theorem Mach.cloned {w w2 : World} {B mb t k B2 mb2 : Nat} {ν : Net} {τ : TSt} {σ : Sg} (M : Mach w B mb t k ν τ σ) {s : Wheel} {L : Option (Nat × Nat) → List Nat} {fr : List Nat} {f : Int → Option Int} (T : TimersAt w B k s f) (WI : WInv s L fr f []) (e1 : s.now = t) (TWx : TW s L fr f τ k)
    (hc : ∀ j, j < 6752 → j ≠ 517 → w2.cell? ⟨B2, j, none⟩ = w.cell? ⟨B, j, none⟩) (h5 : w2.cell? ⟨B2, 517, none⟩ = some (.map (some mb2))) (hs : w2.cell? ⟨B2, 6752, none⟩ = some .nilIface) (fz : ∀ o, w2.frozen? ⟨B2, o, none⟩ = false) (mp : MapOf w2 mb2 k f) (ne : mb2 ≠ B2) (hB : 2 < B2) (hm : 2 < mb2) (hb : Below w.heap.size w w2) : Mach w2 B2 mb2 t k ν τ σ := by
  refine ⟨(hc 0 (by omega) (by omega)).trans M.clk, M.tlt, ⟨withMb s mb2, L, fr, f, ⟨⟨fun o ho => ?_, fz⟩, mp, ne⟩, WI.withMb mb2, e1, rfl, TWx.withMb mb2⟩, ⟨⟨fun o ho => (hc _ (by omega) (by omega)).trans (M.net.1.cell o ho), fz⟩, M.net.2⟩, ⟨⟨fun o ho => (hc _ (by omega) (by omega)).trans (M.sch.1.cell o ho), fz⟩, M.sch.2⟩, fun j hj => (hc _ (by omega) (by omega)).trans (M.sts j hj), M.stb, hs, ?_, M.tab.below hb, hB, hm⟩
  · by_cases e : o = 516
    · subst e
      exact h5
    · rw [hc _ (by omega) (by omega), T.wh.cell o ho]
      exact congrArg some (enc_same (s := withMb s mb2) (s' := s) ho (fun _ => rfl) (fun _ _ => rfl) (fun _ => rfl) (fun _ => rfl) (fun _ => rfl) (fun q => absurd q e) (fun _ => rfl) (fun _ => rfl) (fun _ _ => rfl) (fun _ => rfl))
  · exact ⟨cell_later hb M.vac.v0, cell_later hb M.vac.v1, cell_later hb M.vac.v2, cell_later hb M.vac.v3, cell_later hb M.vac.v4⟩
theorem below_of_mut_new {n : Nat} {W w' : World} (h : Mut n 517 518 W.drew w') (hn : n ≤ W.heap.size) (o : Nat) (v : Value) : Below n W (w'.setCell ⟨n, o, none⟩ v) :=
  ⟨h.os, h.tape, h.output, by have : W.heap.size ≤ w'.heap.size := h.size; simpa using this, fun k hk => (heap_far _ _ (fun e => by have : n = k := e; omega)).trans (h.block k (show k < W.heap.size by omega) (by omega))⟩
set_option maxRecDepth 20000 in
set_option maxHeartbeats 8000000 in
theorem clone_any {w : World} {B mb t k : Nat} {ν : Net} {τ : TSt} {σ : Sg} (M : Mach w B mb t k ν τ σ) (hk : k < 1000000) :
    Calls Tryz.prog 45 #[.pointer (some ⟨B, 0, none⟩)] w fun e w' => ∃ B2 mb2 : Nat, e = .returned (.pointer (some ⟨B2, 0, none⟩)) ∧ w.heap.size ≤ B2 ∧ w.heap.size ≤ mb2 ∧ Mach w' B2 mb2 t k ν τ σ ∧ Below w.heap.size w w' := by
  obtain ⟨f, hf⟩ := M.cells
  have hf1 : ∀ j, j < 6753 → w.cell? ⟨B, j, none⟩ = some (f j) := fun j hj => (hf j hj).1
  have hf2 : ∀ j, j < 6753 → (f j).oneCell' = true := fun j hj => (hf j hj).2
  obtain ⟨s, L, fr, fm, T, WI, e1, e2, TWx⟩ := M.tim
  have hB := M.lt
  have bz := one_alloc w (.cells Tryz.zeroCells190 190)
  have hl := load190 (w := w.alloc (.cells Tryz.zeroCells190 190)) (B := B) (f := f) (fun j hj => cell_later bz (hf1 j hj))
  have hst := store190 w hf2
  have ba := one_alloc w (.cells (cellsA f) 190)
  have bd := ba.drew
  have hrow : (w.alloc (.cells (cellsA f) 190)).heap[w.heap.size]? = some (.cells (cellsA f) 190) := (MapKept.heap_alloc w _).1
  have hsz : (w.alloc (.cells (cellsA f) 190)).heap.size = w.heap.size + 1 := by simp
  have hm : w.cell? ⟨B, 517, none⟩ = some (.map (some mb)) := by
    have := T.wh.cell 516 (by omega)
    rw [← e2]
    exact this
  have hml := M.mlt
  have hmn := M.ne
  obtain ⟨hcc, hfz⟩ := M.copied hf1 hrow
  have hcf := copyFrom_any (W := (w.alloc (.cells (cellsA f) 190)).drew) (B := B) (B2 := w.heap.size) (mb := mb) (n := k) (fm := fm) (fun j hj => cell_later bd (hf1 j hj)) hf2 hrow (cell_later bd hm) (by have := T.mp; rw [e2] at this; exact this.block (bd.block mb hml)) hk ⟨by omega, by omega, fun e => hmn e.symm⟩
  have h2B := M.hB
  have hz := zv190
  have HM := hideIt M
  have HT := hideIt T
  have HW := hideIt WI
  have HTW := hideIt TWx
  have HC := hideIt hcc
  have HZ := hideIt hfz
  have HBA := hideIt ba
  clear M T WI TWx hcc hfz ba bz bd hf hf1 hf2 hm
  generalize hW : w.alloc (.cells (cellsA f) 190) = W at *
  go_enter Tryz.func45, Tryz.ntmps45
  go_upto_region 2 with fail
  go_cut [] (fun wd => wd = W)
  case first =>
    go_wp2_with (first | (refine wpList_load_row rfl (.tmp 7) 190 rfl ⟨B, 0, none⟩ (.agg (cellsA f)) rfl hl ?_) | (refine wpList_store_row rfl (.tmp 9) (.tmp 8) 190 rfl ⟨w.heap.size, 0, none⟩ (.agg (cellsA f)) rfl rfl hst ?_) | go_in)
    go_meet
    case rel => rfl
  case rest =>
  have hc := hcut.symm
  clear hcut hz
  subst hc
  go_upto_region 3 with fail
  go_cut [] (fun wd => ∃ mb2, W.heap.size ≤ mb2 ∧ MapOf wd mb2 k fm ∧ wd.cell? ⟨w.heap.size, 517, none⟩ = some (.map (some mb2)) ∧ Mut w.heap.size 517 518 W.drew wd)
  case first =>
    refine wp_region_held_drew (S := (fun _ => True)) (by kernel_rfl) trivial (fun hHeld => ?_)
    refine wpAnyH_take (i := 0) (oi := { dst := some 10, op := Go.Op.move (Go.Operand.tmp 3), type := 24, pos := _, after := #[], guard := none }) (v := ?vv1) rfl (by kernel_rfl) (by kernel_rfl) (by kernel_rfl) (fun _ _ _ h => h) (Or.inl ⟨by rfl, ?hy1⟩) (by assumption) ?tk1
    case hy1 => (intro w hSw; (try dsimp only at hSw); go_simp; (try with_reducible rfl))
    try simp only [Act.put, List.setIfInBounds_toArray, List.set_cons_zero, List.set_cons_succ]
    refine wpAnyH_take (i := 1) (oi := { dst := some 11, op := Go.Op.nilCheck (Go.Operand.tmp 10), type := 0, pos := _, after := #[{ on := 0, ground := Go.Ground.data }], guard := none }) (v := ?vv2) rfl (by kernel_rfl) (by kernel_rfl) (by kernel_rfl) (fun _ _ _ h => h) (Or.inl ⟨by rfl, ?hy2⟩) (by assumption) ?tk2
    case hy2 => (intro w hSw; (try dsimp only at hSw); go_simp; (try with_reducible rfl))
    try simp only [Act.put, List.setIfInBounds_toArray, List.set_cons_zero, List.set_cons_succ]
    refine wpAnyH_take (i := 2) (oi := { dst := some 12, op := Go.Op.fieldAddr 190 (Go.Operand.tmp 11) 1, type := 0, pos := _, after := #[{ on := 1, ground := Go.Ground.data }], guard := none }) (v := ?vv3) rfl (by kernel_rfl) (by kernel_rfl) (by kernel_rfl) (fun _ _ _ h => h) (Or.inl ⟨by rfl, ?hy3⟩) (by assumption) ?tk3
    case hy3 => (intro w hSw; (try dsimp only at hSw); go_simp; (try with_reducible rfl))
    try simp only [Act.put, List.setIfInBounds_toArray, List.set_cons_zero, List.set_cons_succ]
    refine wpAnyH_take (i := 3) (oi := { dst := some 13, op := Go.Op.move (Go.Operand.tmp 0), type := 24, pos := _, after := #[], guard := none }) (v := ?vv4) rfl (by kernel_rfl) (by kernel_rfl) (by kernel_rfl) (fun _ _ _ h => h) (Or.inl ⟨by rfl, ?hy4⟩) (by assumption) ?tk4
    case hy4 => (intro w hSw; (try dsimp only at hSw); go_simp; (try with_reducible rfl))
    try simp only [Act.put, List.setIfInBounds_toArray, List.set_cons_zero, List.set_cons_succ]
    refine wpAnyH_take (i := 4) (oi := { dst := some 14, op := Go.Op.nilCheck (Go.Operand.tmp 13), type := 0, pos := _, after := #[{ on := 3, ground := Go.Ground.data }], guard := none }) (v := ?vv5) rfl (by kernel_rfl) (by kernel_rfl) (by kernel_rfl) (fun _ _ _ h => h) (Or.inl ⟨by rfl, ?hy5⟩) (by assumption) ?tk5
    case hy5 => (intro w hSw; (try dsimp only at hSw); go_simp; (try with_reducible rfl))
    try simp only [Act.put, List.setIfInBounds_toArray, List.set_cons_zero, List.set_cons_succ]
    refine wpAnyH_take (i := 5) (oi := { dst := some 15, op := Go.Op.fieldAddr 190 (Go.Operand.tmp 14) 1, type := 0, pos := _, after := #[{ on := 4, ground := Go.Ground.data }], guard := none }) (v := ?vv6) rfl (by kernel_rfl) (by kernel_rfl) (by kernel_rfl) (fun _ _ _ h => h) (Or.inl ⟨by rfl, ?hy6⟩) (by assumption) ?tk6
    case hy6 => (intro w hSw; (try dsimp only at hSw); go_simp; (try with_reducible rfl))
    try simp only [Act.put, List.setIfInBounds_toArray, List.set_cons_zero, List.set_cons_succ]
    refine wpAnyH_ready (rs := [6]) (by kernel_rfl) (by simp) ?_
    refine AllReadyH.cons (o := { dst := some 16, op := Go.Op.call { callee := Go.Callee.value (Go.Operand.func 107), args := #[Go.Operand.tmp 12, Go.Operand.tmp 15], argTypes := #[168, 212] }, type := 0, pos := _, after := #[{ on := 2, ground := Go.Ground.data }, { on := 5, ground := Go.Ground.data }], guard := none }) rfl (fun K' hK' => ?_) AllReadyH.nil
    go_simp
    go_at_call 107
    refine hcf.mono ?_
    rintro e wq ⟨rfl, q⟩
    clear hHeld
    refine hK'.out _ _ trivial (fun hHeld => ?_)
    clear hK' K'
    try simp only [Act.put, List.setIfInBounds_toArray, List.set_cons_zero, List.set_cons_succ]
    refine wpAnyH_done (by kernel_rfl) ?_ _
    go_wp2
    go_meet
    case rel => exact q
  case rest =>
  obtain ⟨mb2, g1, MP, g5, MU⟩ := hcut
  have c52 : wc.cell? ⟨w.heap.size, 6752, none⟩ = some .nilIface := (MU.cell 6752 (by omega)).trans ((HC.out 6752 (by omega)).trans HM.out.snk)
  have fz2 : ∀ o, wc.frozen? ⟨w.heap.size, o, none⟩ = false := fun o => (MU.frz o).trans (HZ.out o)
  have HMP := hideIt MP
  have HMU := hideIt MU
  clear MP MU
  go_wp2
  go_ret
  have n1 : ¬ (w.heap.size = mb2) := by omega
  have hsz3 := HMU.out.size
  refine ⟨w.heap.size, mb2, rfl, Nat.le_refl _, by omega, HM.out.cloned HT.out HW.out e1 HTW.out (fun j h1 h2 => ?_) ?_ ?_ (fun o => ?_) ?_ (by omega) (by omega) (by omega) ?_, ?_⟩
  · rw [World.cell?_setCell_other _ _ _ _ (by simp <;> omega)]
    exact (HMU.out.cell j (by omega)).trans (HC.out j (by omega))
  · rw [World.cell?_setCell_other _ _ _ _ (by simp)]
    exact g5
  · exact World.cell?_setCell_same _ _ _ c52
  · simpa using fz2 o
  · exact HMP.out.cell (fun e => n1 e.symm) _
  all_goals
    refine Below.trans HBA.out ?_
    exact below_of_mut_new HMU.out (by omega) _ _
end Go.Proofs.Qxb6500877aGreatDoor
