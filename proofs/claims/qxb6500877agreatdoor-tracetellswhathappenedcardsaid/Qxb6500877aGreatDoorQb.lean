import Derived.Test.Qxb6500877aGreatDoorQb0
set_option linter.unusedVariables false
set_option linter.unusedSimpArgs false
namespace Go.Proofs.Qxb6500877aGreatDoor
open Go.RowKit

set_option maxRecDepth 20000 in
set_option maxHeartbeats 8000000 in
theorem list_any {w : World} {B : Nat} {s : Net} {i h n : Nat} (H : NetAt w B s) (hi : i < 16) (eh : (s.box i).head = h) (hh : h < 32) (en : (s.box i).n = n) (hn : n ≤ 32) :
    Calls Tryz.prog 87 #[.pointer (some ⟨B, 1939 + i * 291, none⟩)] w fun e w' => ∃ v, e = .returned v ∧ MsgsAt w' w.heap.size v (boxL (s.box i)) ∧ Below w.heap.size w w' := by
  obtain ⟨i0_, hi_, hz0, hz1, hz2⟩ := info_parts info40
  obtain ⟨c0, c1, c2⟩ := H.ctl hi
  rw [en] at c1
  have hB : B < w.heap.size := World.block_lt_of_cell? _ _ c1
  have HL : Hid ((boxL (s.box i)).length = n) := hideIt (by rw [boxL_len, en]; rfl)
  have HG : Hid (∀ j, j < n → (boxL (s.box i))[j]? = some ((s.box i).ring (plc h j))) := hideIt (fun j hj => by
    rw [boxL_get (by rw [en]; exact hj), eh]; rfl)
  have HH := hideIt (And.intro H eh)
  clear c0 c2 en eh
  by_cases hz : n = 0
  · have hn0 : w.cell? ⟨B, 1939 + i * 291 + 289, none⟩ = some (.int .i64 0) := by rw [c1, hz]; rfl
    have h0 : boxL (s.box i) = [] := List.length_eq_zero_iff.1 (HL.out.trans hz)
    clear c1 hz
    go_enter Tryz.func87, Tryz.ntmps87
    go_wp2
    go_ret
    exact ⟨_, rfl, .inl ⟨h0, rfl⟩, Below.refl _ _⟩
  · have hzb : ((n : Int) == 0) = false := by simp; omega
    have hnz : 0 < n := by omega
    clear hz
    go_enter Tryz.func87, Tryz.ntmps87
    go_wp2_with (first | (at_make; refine wpList_make_full _ rfl _ _ 56 rfl w.heap.size 40 i0_ _ 9 Tryz.underlying56 hi_ hz0 hz1 .i64 .i64 (n : Int) (n : Int) n rfl rfl rfl rfl (by rw [hz2]; omega) (by unfold maxLen; omega) (Nat.le_refl _) ?_; intro w3 hown3 hgrow3) | go_in)
    have hb3 : Below w.heap.size w w3 := ⟨hgrow3.os, hgrow3.tape, hgrow3.output, hgrow3.size, fun k hk => hgrow3.block k hk (by simp)⟩
    have R3 : RowK w3 w.heap.size n 0 (fun j => (s.box i).ring (plc h j)) := by
      refine ⟨fun j hj => ?_, fun o => hown3.frozenAt o, fun j hj => by omega⟩
      have e := hown3.cellAt j hj
      have hl := hown3.1
      exact ⟨_, e.trans (List.getElem?_eq_getElem (by omega))⟩
    have hg3 : w.heap.size < w3.heap.size := by
      obtain ⟨v, hv⟩ := R3.ex 0 (by omega)
      exact World.block_lt_of_cell? _ _ hv
    clear hgrow3 hown3
    have hgB : ¬ (w.heap.size = B) := by omega
    have hBg : ¬ (B = w.heap.size) := by omega
    go_wp2_with fail
    go_loopg [17] n (fun gg v wr => ∃ k : Nat, k + gg = n ∧ v = .int .i64 (k : Int) ∧ RowK wr w.heap.size n k (fun j => (s.box i).ring (plc h j)) ∧ Below w.heap.size w wr ∧ w.heap.size < wr.heap.size)
    case atStart => exact ⟨0, by omega, rfl, R3, hb3, hg3⟩
    case round =>
      clear R3 hb3 hg3
      obtain ⟨k, hk, rfl, R, hb, hgr⟩ := hrel
      by_cases hkn : k < n
      · have k0 : (0 : Int) ≤ k := by omega
        have k1 : (k : Int) < (n : Int) := by omega
        have hp := plc_lt (h := h) (j := k) hh (by omega)
        have NR : NetAt (World.drew wr) B s := (HH.out.1.mut (Mut.of_below (lo := 0) (hi := 0) hb hB) (by omega)).drew
        have HPL := mplace_any NR hi HH.out.2 hh (j := k) (by omega)
        obtain ⟨m0, m1, m2, m3, m4, m5, m6, m7, m8⟩ := NR.msg hi hp
        obtain ⟨mm, HM⟩ : ∃ mm, Hid ((s.box i).ring (plc h k) = mm) := ⟨_, hideIt rfl⟩
        rw [HM.out] at m0 m1 m2 m3 m4 m5 m6 m7 m8
        obtain ⟨p, HP⟩ : ∃ p, Hid (plc h k = p) := ⟨_, hideIt rfl⟩
        rw [HP.out] at m0 m1 m2 m3 m4 m5 m6 m7 m8 HPL hp
        have p0 : (0 : Int) ≤ p := by omega
        have p1 : (p : Int) < 32 := by omega
        have fz := R.fz
        obtain ⟨z0, y0⟩ := R.ex (k * 9) (by omega)
        obtain ⟨z1, y1⟩ := R.ex (k * 9 + 1) (by omega)
        obtain ⟨z2, y2⟩ := R.ex (k * 9 + 2) (by omega)
        obtain ⟨z3, y3⟩ := R.ex (k * 9 + 3) (by omega)
        obtain ⟨z4, y4⟩ := R.ex (k * 9 + 4) (by omega)
        obtain ⟨z5, y5⟩ := R.ex (k * 9 + 5) (by omega)
        obtain ⟨z6, y6⟩ := R.ex (k * 9 + 6) (by omega)
        obtain ⟨z7, y7⟩ := R.ex (k * 9 + 7) (by omega)
        obtain ⟨z8, y8⟩ := R.ex (k * 9 + 8) (by omega)
        clear NR
        go_wp2_with fail
        refine wp_region_held_drew (S := (fun _ => True)) (by kernel_rfl) trivial (fun hHeld => ?_)
        refine wpAnyH_take (i := 0) (oi := { dst := some 20, op := Go.Op.move (Go.Operand.tmp 3), type := 56, pos := _, after := #[], guard := none }) (v := ?vv1) rfl (by kernel_rfl) (by kernel_rfl) (by kernel_rfl) (fun _ _ _ h => h) (Or.inl ⟨by rfl, ?hy1⟩) (by assumption) ?tk1
        case hy1 => (intro w hSw; (try dsimp only at hSw); go_simp; (try with_reducible rfl))
        try simp only [Act.put, List.setIfInBounds_toArray, List.set_cons_zero, List.set_cons_succ]
        refine wpAnyH_take (i := 1) (oi := { dst := some 21, op := Go.Op.move (Go.Operand.tmp 4), type := 3, pos := _, after := #[], guard := none }) (v := ?vv2) rfl (by kernel_rfl) (by kernel_rfl) (by kernel_rfl) (fun _ _ _ h => h) (Or.inl ⟨by rfl, ?hy2⟩) (by assumption) ?tk2
        case hy2 => (intro w hSw; (try dsimp only at hSw); go_simp; (try with_reducible rfl))
        try simp only [Act.put, List.setIfInBounds_toArray, List.set_cons_zero, List.set_cons_succ]
        refine wpAnyH_take (i := 2) (oi := { dst := some 22, op := Go.Op.move (Go.Operand.tmp 0), type := 255, pos := _, after := #[], guard := none }) (v := ?vv3) rfl (by kernel_rfl) (by kernel_rfl) (by kernel_rfl) (fun _ _ _ h => h) (Or.inl ⟨by rfl, ?hy3⟩) (by assumption) ?tk3
        case hy3 => (intro w hSw; (try dsimp only at hSw); go_simp; (try with_reducible rfl))
        try simp only [Act.put, List.setIfInBounds_toArray, List.set_cons_zero, List.set_cons_succ]
        refine wpAnyH_take (i := 3) (oi := { dst := some 23, op := Go.Op.move (Go.Operand.tmp 0), type := 255, pos := _, after := #[], guard := none }) (v := ?vv4) rfl (by kernel_rfl) (by kernel_rfl) (by kernel_rfl) (fun _ _ _ h => h) (Or.inl ⟨by rfl, ?hy4⟩) (by assumption) ?tk4
        case hy4 => (intro w hSw; (try dsimp only at hSw); go_simp; (try with_reducible rfl))
        try simp only [Act.put, List.setIfInBounds_toArray, List.set_cons_zero, List.set_cons_succ]
        refine wpAnyH_take (i := 4) (oi := { dst := some 24, op := Go.Op.move (Go.Operand.tmp 4), type := 3, pos := _, after := #[], guard := none }) (v := ?vv5) rfl (by kernel_rfl) (by kernel_rfl) (by kernel_rfl) (fun _ _ _ h => h) (Or.inl ⟨by rfl, ?hy5⟩) (by assumption) ?tk5
        case hy5 => (intro w hSw; (try dsimp only at hSw); go_simp; (try with_reducible rfl))
        try simp only [Act.put, List.setIfInBounds_toArray, List.set_cons_zero, List.set_cons_succ]
        refine wpAnyH_take (i := 6) (oi := { dst := some 26, op := Go.Op.nilCheck (Go.Operand.tmp 22), type := 0, pos := _, after := #[{ on := 2, ground := Go.Ground.data }], guard := none }) (v := ?vv6) rfl (by kernel_rfl) (by kernel_rfl) (by kernel_rfl) (fun _ _ _ h => h) (Or.inl ⟨by rfl, ?hy6⟩) (by assumption) ?tk6
        case hy6 => (intro w hSw; (try dsimp only at hSw); go_simp; (try with_reducible rfl))
        try simp only [Act.put, List.setIfInBounds_toArray, List.set_cons_zero, List.set_cons_succ]
        refine wpAnyH_take (i := 7) (oi := { dst := some 27, op := Go.Op.fieldAddr 171 (Go.Operand.tmp 26) 0, type := 0, pos := _, after := #[{ on := 6, ground := Go.Ground.data }], guard := none }) (v := ?vv7) rfl (by kernel_rfl) (by kernel_rfl) (by kernel_rfl) (fun _ _ _ h => h) (Or.inl ⟨by rfl, ?hy7⟩) (by assumption) ?tk7
        case hy7 => (intro w hSw; (try dsimp only at hSw); go_simp; (try with_reducible rfl))
        try simp only [Act.put, List.setIfInBounds_toArray, List.set_cons_zero, List.set_cons_succ]
        refine wpAnyH_ready (rs := [5]) (by kernel_rfl) (by simp) ?_
        refine AllReadyH.cons (o := { dst := some 25, op := Go.Op.call { callee := Go.Callee.value (Go.Operand.func 162), args := #[Go.Operand.tmp 23, Go.Operand.tmp 24], argTypes := #[255, 3] }, type := 3, pos := _, after := #[{ on := 3, ground := Go.Ground.data }, { on := 4, ground := Go.Ground.data }], guard := none }) rfl (fun K' hK' => ?_) AllReadyH.nil
        go_simp
        go_at_call 162
        refine HPL.mono ?_
        rintro e wq ⟨rfl, rfl⟩
        clear hHeld
        refine hK'.out _ _ trivial (fun hHeld => ?_)
        clear hK' K'
        try simp only [Act.put, List.setIfInBounds_toArray, List.set_cons_zero, List.set_cons_succ]
        refine wpAnyH_take (i := 8) (oi := { dst := some 28, op := Go.Op.indexAddr 169 (Go.Operand.tmp 27) (Go.Operand.tmp 25), type := 0, pos := _, after := #[{ on := 7, ground := Go.Ground.data }, { on := 5, ground := Go.Ground.data }], guard := none }) (v := ?vv8) rfl (by kernel_rfl) (by kernel_rfl) (by kernel_rfl) (fun _ _ _ h => h) (Or.inl ⟨by rfl, ?hy8⟩) (by assumption) ?tk8
        case hy8 => (intro w hSw; (try dsimp only at hSw); go_simp; (try with_reducible rfl))
        try simp only [Act.put, List.setIfInBounds_toArray, List.set_cons_zero, List.set_cons_succ]
        refine wpAnyH_ready (rs := [9]) (by kernel_rfl) (by simp) ?_
        refine AllReadyH.cons (o := { dst := some 29, op := Go.Op.load 40 (Go.Operand.tmp 28), type := 40, pos := _, after := #[{ on := 8, ground := Go.Ground.data }], guard := none }) rfl (fun K' hK' => ?_) AllReadyH.nil
        go_simp
        clear hHeld
        refine hK'.out _ _ trivial (fun hHeld => ?_)
        clear hK' K'
        try simp only [Act.put, List.setIfInBounds_toArray, List.set_cons_zero, List.set_cons_succ]
        refine wpAnyH_take (i := 10) (oi := { dst := some 30, op := Go.Op.indexAddr 56 (Go.Operand.tmp 20) (Go.Operand.tmp 21), type := 0, pos := _, after := #[{ on := 0, ground := Go.Ground.data }, { on := 1, ground := Go.Ground.data }, { on := 0, ground := Go.Ground.phase }, { on := 1, ground := Go.Ground.phase }, { on := 2, ground := Go.Ground.phase }, { on := 3, ground := Go.Ground.phase }, { on := 4, ground := Go.Ground.phase }, { on := 5, ground := Go.Ground.phase }, { on := 6, ground := Go.Ground.phase }, { on := 7, ground := Go.Ground.phase }, { on := 8, ground := Go.Ground.phase }, { on := 9, ground := Go.Ground.phase }], guard := none }) (v := ?vv9) rfl (by kernel_rfl) (by kernel_rfl) (by kernel_rfl) (fun _ _ _ h => h) (Or.inl ⟨by rfl, ?hy9⟩) (by assumption) ?tk9
        case hy9 => (intro w hSw; (try dsimp only at hSw); go_simp; (try with_reducible rfl))
        try simp only [Act.put, List.setIfInBounds_toArray, List.set_cons_zero, List.set_cons_succ]
        refine wpAnyH_ready (rs := [11]) (by kernel_rfl) (by simp) ?_
        refine AllReadyH.cons (o := { dst := none, op := Go.Op.store 40 (Go.Operand.tmp 30) (Go.Operand.tmp 29), type := 0, pos := _, after := #[{ on := 10, ground := Go.Ground.data }, { on := 9, ground := Go.Ground.data }, { on := 5, ground := Go.Ground.chain }, { on := 0, ground := Go.Ground.phase }, { on := 1, ground := Go.Ground.phase }, { on := 2, ground := Go.Ground.phase }, { on := 3, ground := Go.Ground.phase }, { on := 4, ground := Go.Ground.phase }, { on := 5, ground := Go.Ground.phase }, { on := 6, ground := Go.Ground.phase }, { on := 7, ground := Go.Ground.phase }, { on := 8, ground := Go.Ground.phase }, { on := 9, ground := Go.Ground.phase }], guard := none }) rfl (fun K' hK' => ?_) AllReadyH.nil
        go_simp
        clear hHeld
        refine hK'.out _ _ trivial (fun hHeld => ?_)
        clear hK' K'
        try simp only [Act.put, List.setIfInBounds_toArray, List.set_cons_zero, List.set_cons_succ]
        refine wpAnyH_done (by kernel_rfl) ?_ _
        go_wp2
        go_roundg (n - (k + 1))
        case measure => omega
        case rel =>
          exact ⟨k + 1, by omega, by go_num, rowK_put R hb hgr hkn mm HM.out⟩
      · have e4 : k = n := by omega
        subst e4
        go_wp2
        go_ret
        refine ⟨_, rfl, .inr ⟨w.heap.size, k, congrArg (fun q => Value.slice (some ⟨w.heap.size, 0, none⟩) q k) HL.out.symm, Nat.le_refl _, hgr, fun j m hj => ?_⟩, hb⟩
        have hjl : j < k := by
          by_cases q : j < k
          · exact q
          · rw [List.getElem?_eq_none (by rw [HL.out]; omega)] at hj; simp at hj
        have e := HG.out j hjl
        rw [e] at hj
        have := R.pre j hjl
        simp only [Option.some.injEq] at hj
        rw [← hj]
        exact this
end Go.Proofs.Qxb6500877aGreatDoor
