import Derived.Deep.CutBlock
import Derived.Test.Qxb6500877aGreatDoorYa
set_option linter.unusedVariables false
set_option linter.unusedSimpArgs false
namespace Go.Proofs.Qxb6500877aGreatDoor
open Go.RowKit

set_option maxRecDepth 20000 in
set_option maxHeartbeats 8000000 in
theorem clean_any {w : World} {bx bk pb cb n base cap : Nat} {β : Int → Option TmV} {χ : Int → Bool} {p : Option Addr} {l : List FiredS} (K : BookAt w bk pb cb n β χ) (hc : w.cell? ⟨bx, 0, none⟩ = some (.pointer (some ⟨bk, 0, none⟩))) (F : FS w base p cap l) (hbx : bx ≠ pb ∧ bx ≠ cb) (hb : pb < base ∧ cb < base) (hl : ∀ e ∈ l, (0 ≤ e.id ∧ e.id < 18446744073709551616) ∧ χ e.id = false) :
    Calls Tryz.prog 41 #[.slice p l.length cap, .pointer (some ⟨bx, 0, none⟩)] w fun e w' => e = .returned (.bool true) ∧ BookAt w' bk pb cb n (drops β l) χ ∧ MutM pb cb w w' := by
  have hll := F.len
  have hlx := World.block_lt_of_cell? _ _ hc
  have HL := hideIt hl
  have HF := hideIt F
  have HC := hideIt hc
  clear hl F hc
  go_enter Tryz.func41, Tryz.ntmps41
  go_wp2_with fail
  go_loopg [8] l.length (fun gg v wr => ∃ j : Nat, j + gg = l.length ∧ v = .int .i64 (j : Int) ∧ BookAt wr bk pb cb n (drops β (l.take j)) χ ∧ MutM pb cb w wr)
  case atStart => exact ⟨0, by omega, rfl, by rw [List.take_zero, drops_nil]; exact K, MutM.refl _ _ _⟩
  case round =>
    clear K
    obtain ⟨j, hjg, rfl, K, M⟩ := hrel
    by_cases hj : j < l.length
    · have j0 : (0 : Int) ≤ j := by omega
      have j1 : (j : Int) < (l.length : Int) := by omega
      obtain ⟨e, hej⟩ : ∃ e, l[j]? = some e := ⟨l[j], List.getElem?_eq_getElem hj⟩
      obtain ⟨⟨hid0, hid1⟩, hxe⟩ := HL.out e (List.mem_of_getElem? hej)
      have F := HF.out.keep M.size (fun q h1 h2 => M.block q h2 (by omega) (by omega))
      obtain ⟨g, rfl, hg1, hg2, hFA, hcap⟩ : ∃ g, p = some ⟨g, 0, none⟩ ∧ base ≤ g ∧ g < wr.heap.size ∧ FA wr g l ∧ l.length ≤ cap ∧ cap ≤ maxLen := by
        rcases F with F | F
        · rw [F] at hj; simp at hj
        · exact F
      obtain ⟨e0, e1, e2, e3, e4⟩ := hFA j e hej
      have HE := hideIt hej
      have HXE := hideIt hxe
      clear hej hFA F hxe
      go_upto_block 1 with fail
      go_cut [] (fun wd => BookAt wd bk pb cb n (drops β (l.take (j + 1))) χ ∧ MutM pb cb w wd)
      case first =>
        go_upto_region 3 with fail
        go_cut [5] (fun a5 wd => ∃ b5 : Nat, a5 = .pointer (some ⟨b5, 0, none⟩) ∧ F5 wd b5 0 e ∧ BookAt wd bk pb cb n (drops β (l.take j)) χ ∧ MutM pb cb w wd ∧ w.heap.size ≤ b5 ∧ b5 ≠ pb)
        case first =>
          go_wp2
          go_meet
          case rel =>
            have b1 := one_alloc wr (.cells #[.int .u64 e.id, .int .i64 e.core, .int .u64 e.dl, .int .u64 e.ck, .int .u64 e.t] 86)
            obtain ⟨l1, l2, l3⟩ := K.lt
            exact ⟨wr.heap.size, rfl, f5_new wr e 86, K.below b1, M.trans (MutM.below b1), M.size, by omega⟩
        case rest =>
        clear K M e0 e1 e2 e3 e4 hg2
        obtain ⟨b5, rfl, F5', K5, M, h5, h5p⟩ := hcut
        go_upto_region 4 with fail
        go_cut [19] (fun a19 wd => a19 = .bool false ∧ BookAt wd bk pb cb n (drops β (l.take j)) χ ∧ MutM pb cb w wd ∧ F5 wd b5 0 e)
        case first =>
          have hcx : (World.drew wc).cell? ⟨bx, 0, none⟩ = some (.pointer (some ⟨bk, 0, none⟩)) := (World.cell?_of_block (a := ⟨bx, 0, none⟩) (M.block bx hlx hbx.1 hbx.2)).trans HC.out
          have hlk : (Instr.lookup 89 (.map (some cb)) (.int .u64 e.id) false).run Tryz.prog (World.drew wc) = .ok (.bool false) (World.drew wc) := by
            have := K5.drew.cm.look hid0 hid1
            rw [HXE.out] at this
            exact this
          refine wp_region_held_drew (S := (fun w' => w'.cell? ⟨bx, 0, none⟩ = some (.pointer (some ⟨bk, 0, none⟩)) ∧ w'.cell? ⟨bk, 1, none⟩ = some (.map (some cb)) ∧ w'.cell? ⟨b5, 0, none⟩ = some (.int .u64 e.id) ∧ (Instr.lookup 89 (.map (some cb)) (.int .u64 e.id) false).run Tryz.prog w' = .ok (.bool false) w')) (by kernel_rfl) ⟨hcx, K5.c1, F5'.c0, hlk⟩ (fun hHeld => ?_)
          refine wpAnyH_take (i := 0) (oi := { dst := some 12, op := Go.Op.load 78 (Go.Operand.tmp 1), type := 78, pos := _, after := #[], guard := none }) (v := ?vv1) rfl (by kernel_rfl) (by kernel_rfl) (by kernel_rfl) (fun _ _ _ h => h) (Or.inl ⟨by rfl, ?hy1⟩) (by assumption) ?tk1
          case hy1 => (intro w hSw; (try dsimp only at hSw); go_simp; (try with_reducible rfl))
          try simp only [Act.put, List.setIfInBounds_toArray, List.set_cons_zero, List.set_cons_succ]
          refine wpAnyH_take (i := 1) (oi := { dst := some 13, op := Go.Op.nilCheck (Go.Operand.tmp 12), type := 0, pos := _, after := #[{ on := 0, ground := Go.Ground.data }], guard := none }) (v := ?vv2) rfl (by kernel_rfl) (by kernel_rfl) (by kernel_rfl) (fun _ _ _ h => h) (Or.inl ⟨by rfl, ?hy2⟩) (by assumption) ?tk2
          case hy2 => (intro w hSw; (try dsimp only at hSw); go_simp; (try with_reducible rfl))
          try simp only [Act.put, List.setIfInBounds_toArray, List.set_cons_zero, List.set_cons_succ]
          refine wpAnyH_take (i := 2) (oi := { dst := some 14, op := Go.Op.fieldAddr 91 (Go.Operand.tmp 13) 1, type := 0, pos := _, after := #[{ on := 1, ground := Go.Ground.data }], guard := none }) (v := ?vv3) rfl (by kernel_rfl) (by kernel_rfl) (by kernel_rfl) (fun _ _ _ h => h) (Or.inl ⟨by rfl, ?hy3⟩) (by assumption) ?tk3
          case hy3 => (intro w hSw; (try dsimp only at hSw); go_simp; (try with_reducible rfl))
          try simp only [Act.put, List.setIfInBounds_toArray, List.set_cons_zero, List.set_cons_succ]
          refine wpAnyH_take (i := 3) (oi := { dst := some 15, op := Go.Op.load 89 (Go.Operand.tmp 14), type := 89, pos := _, after := #[{ on := 2, ground := Go.Ground.data }], guard := none }) (v := ?vv4) rfl (by kernel_rfl) (by kernel_rfl) (by kernel_rfl) (fun _ _ _ h => h) (Or.inl ⟨by rfl, ?hy4⟩) (by assumption) ?tk4
          case hy4 => (intro w hSw; (try dsimp only at hSw); go_simp; (try with_reducible rfl))
          try simp only [Act.put, List.setIfInBounds_toArray, List.set_cons_zero, List.set_cons_succ]
          refine wpAnyH_take (i := 4) (oi := { dst := some 16, op := Go.Op.fieldAddr 86 (Go.Operand.tmp 5) 0, type := 0, pos := _, after := #[], guard := none }) (v := ?vv5) rfl (by kernel_rfl) (by kernel_rfl) (by kernel_rfl) (fun _ _ _ h => h) (Or.inl ⟨by rfl, ?hy5⟩) (by assumption) ?tk5
          case hy5 => (intro w hSw; (try dsimp only at hSw); go_simp; (try with_reducible rfl))
          try simp only [Act.put, List.setIfInBounds_toArray, List.set_cons_zero, List.set_cons_succ]
          refine wpAnyH_take (i := 5) (oi := { dst := some 17, op := Go.Op.fieldAddr 84 (Go.Operand.tmp 16) 0, type := 0, pos := _, after := #[{ on := 4, ground := Go.Ground.data }], guard := none }) (v := ?vv6) rfl (by kernel_rfl) (by kernel_rfl) (by kernel_rfl) (fun _ _ _ h => h) (Or.inl ⟨by rfl, ?hy6⟩) (by assumption) ?tk6
          case hy6 => (intro w hSw; (try dsimp only at hSw); go_simp; (try with_reducible rfl))
          try simp only [Act.put, List.setIfInBounds_toArray, List.set_cons_zero, List.set_cons_succ]
          refine wpAnyH_take (i := 6) (oi := { dst := some 18, op := Go.Op.load 36 (Go.Operand.tmp 17), type := 36, pos := _, after := #[{ on := 5, ground := Go.Ground.data }], guard := none }) (v := ?vv7) rfl (by kernel_rfl) (by kernel_rfl) (by kernel_rfl) (fun _ _ _ h => h) (Or.inl ⟨by rfl, ?hy7⟩) (by assumption) ?tk7
          case hy7 => (intro w hSw; (try dsimp only at hSw); go_simp; (try with_reducible rfl))
          try simp only [Act.put, List.setIfInBounds_toArray, List.set_cons_zero, List.set_cons_succ]
          refine wpAnyH_take (i := 7) (oi := { dst := some 19, op := Go.Op.lookup 89 (Go.Operand.tmp 15) (Go.Operand.tmp 18) false, type := 4, pos := _, after := #[{ on := 3, ground := Go.Ground.data }, { on := 6, ground := Go.Ground.data }], guard := none }) (v := ?vv8) rfl (by kernel_rfl) (by kernel_rfl) (by kernel_rfl) (fun _ _ _ h => h) (Or.inl ⟨by rfl, ?hy8⟩) (by assumption) ?tk8
          case hy8 => (intro w hSw; (try dsimp only at hSw); go_simp; (try with_reducible rfl))
          try simp only [Act.put, List.setIfInBounds_toArray, List.set_cons_zero, List.set_cons_succ]
          refine wpAnyH_done (by kernel_rfl) ?_ _
          go_wp2
          go_meet
          case rel => exact ⟨rfl, K5.drew, M.drew, F5'.blk rfl⟩
        case rest =>
        clear K5 M F5'
        obtain ⟨rfl, K5, M, F5'⟩ := hcut
        go_wp2_with fail
        obtain ⟨w3, hrun, hm3, ht3⟩ := K5.drew.pm.drop (id := e.id) hid0 hid1 0
        have HM := hideIt (And.intro hm3 ht3)
        have hcx : (World.drew wc).cell? ⟨bx, 0, none⟩ = some (.pointer (some ⟨bk, 0, none⟩)) := (World.cell?_of_block (a := ⟨bx, 0, none⟩) (M.block bx hlx hbx.1 hbx.2)).trans HC.out
        have kx : w3.cell? ⟨bx, 0, none⟩ = some (.pointer (some ⟨bk, 0, none⟩)) := (World.cell?_of_block (a := ⟨bx, 0, none⟩) (turned_block ht3 hbx.1)).trans hcx
        have k0 : w3.cell? ⟨bk, 0, none⟩ = some (.map (some pb)) := (World.cell?_of_block (a := ⟨bk, 0, none⟩) (turned_block ht3 K5.ne.1)).trans K5.c0
        have k4 : w3.cell? ⟨b5, 0, none⟩ = some (.int .u64 e.id) := (World.cell?_of_block (a := ⟨b5, 0, none⟩) (turned_block ht3 h5p)).trans F5'.c0
        clear hm3 ht3
        refine wp_region_held_drew (S := (fun w' => w'.cell? ⟨bx, 0, none⟩ = some (.pointer (some ⟨bk, 0, none⟩)) ∧ w'.cell? ⟨bk, 0, none⟩ = some (.map (some pb)) ∧ w'.cell? ⟨b5, 0, none⟩ = some (.int .u64 e.id))) (by kernel_rfl) ⟨hcx, K5.c0, F5'.c0⟩ (fun hHeld => ?_)
        refine wpAnyH_take (i := 0) (oi := { dst := some 20, op := Go.Op.load 78 (Go.Operand.tmp 1), type := 78, pos := _, after := #[], guard := none }) (v := ?vv9) rfl (by kernel_rfl) (by kernel_rfl) (by kernel_rfl) (fun _ _ _ h => h) (Or.inl ⟨by rfl, ?hy9⟩) (by assumption) ?tk9
        case hy9 => (intro w hSw; (try dsimp only at hSw); go_simp; (try with_reducible rfl))
        try simp only [Act.put, List.setIfInBounds_toArray, List.set_cons_zero, List.set_cons_succ]
        refine wpAnyH_take (i := 1) (oi := { dst := some 21, op := Go.Op.nilCheck (Go.Operand.tmp 20), type := 0, pos := _, after := #[{ on := 0, ground := Go.Ground.data }], guard := none }) (v := ?vv10) rfl (by kernel_rfl) (by kernel_rfl) (by kernel_rfl) (fun _ _ _ h => h) (Or.inl ⟨by rfl, ?hy10⟩) (by assumption) ?tk10
        case hy10 => (intro w hSw; (try dsimp only at hSw); go_simp; (try with_reducible rfl))
        try simp only [Act.put, List.setIfInBounds_toArray, List.set_cons_zero, List.set_cons_succ]
        refine wpAnyH_take (i := 2) (oi := { dst := some 22, op := Go.Op.fieldAddr 91 (Go.Operand.tmp 21) 0, type := 0, pos := _, after := #[{ on := 1, ground := Go.Ground.data }], guard := none }) (v := ?vv11) rfl (by kernel_rfl) (by kernel_rfl) (by kernel_rfl) (fun _ _ _ h => h) (Or.inl ⟨by rfl, ?hy11⟩) (by assumption) ?tk11
        case hy11 => (intro w hSw; (try dsimp only at hSw); go_simp; (try with_reducible rfl))
        try simp only [Act.put, List.setIfInBounds_toArray, List.set_cons_zero, List.set_cons_succ]
        refine wpAnyH_take (i := 3) (oi := { dst := some 23, op := Go.Op.load 88 (Go.Operand.tmp 22), type := 88, pos := _, after := #[{ on := 2, ground := Go.Ground.data }], guard := none }) (v := ?vv12) rfl (by kernel_rfl) (by kernel_rfl) (by kernel_rfl) (fun _ _ _ h => h) (Or.inl ⟨by rfl, ?hy12⟩) (by assumption) ?tk12
        case hy12 => (intro w hSw; (try dsimp only at hSw); go_simp; (try with_reducible rfl))
        try simp only [Act.put, List.setIfInBounds_toArray, List.set_cons_zero, List.set_cons_succ]
        refine wpAnyH_take (i := 4) (oi := { dst := some 24, op := Go.Op.fieldAddr 86 (Go.Operand.tmp 5) 0, type := 0, pos := _, after := #[], guard := none }) (v := ?vv13) rfl (by kernel_rfl) (by kernel_rfl) (by kernel_rfl) (fun _ _ _ h => h) (Or.inl ⟨by rfl, ?hy13⟩) (by assumption) ?tk13
        case hy13 => (intro w hSw; (try dsimp only at hSw); go_simp; (try with_reducible rfl))
        try simp only [Act.put, List.setIfInBounds_toArray, List.set_cons_zero, List.set_cons_succ]
        refine wpAnyH_take (i := 5) (oi := { dst := some 25, op := Go.Op.fieldAddr 84 (Go.Operand.tmp 24) 0, type := 0, pos := _, after := #[{ on := 4, ground := Go.Ground.data }], guard := none }) (v := ?vv14) rfl (by kernel_rfl) (by kernel_rfl) (by kernel_rfl) (fun _ _ _ h => h) (Or.inl ⟨by rfl, ?hy14⟩) (by assumption) ?tk14
        case hy14 => (intro w hSw; (try dsimp only at hSw); go_simp; (try with_reducible rfl))
        try simp only [Act.put, List.setIfInBounds_toArray, List.set_cons_zero, List.set_cons_succ]
        refine wpAnyH_take (i := 6) (oi := { dst := some 26, op := Go.Op.load 36 (Go.Operand.tmp 25), type := 36, pos := _, after := #[{ on := 5, ground := Go.Ground.data }], guard := none }) (v := ?vv15) rfl (by kernel_rfl) (by kernel_rfl) (by kernel_rfl) (fun _ _ _ h => h) (Or.inl ⟨by rfl, ?hy15⟩) (by assumption) ?tk15
        case hy15 => (intro w hSw; (try dsimp only at hSw); go_simp; (try with_reducible rfl))
        try simp only [Act.put, List.setIfInBounds_toArray, List.set_cons_zero, List.set_cons_succ]
        refine wpAnyH_ready (rs := [7]) (by kernel_rfl) (by simp) ?_
        refine AllReadyH.cons (o := { dst := none, op := Go.Op.call { callee := Go.Callee.builtin Go.Builtin.delete, args := #[Go.Operand.tmp 23, Go.Operand.tmp 26], argTypes := #[88, 36] }, type := 0, pos := _, after := #[{ on := 3, ground := Go.Ground.data }, { on := 6, ground := Go.Ground.data }], guard := none }) rfl (fun K' hK' => ?_) AllReadyH.nil
        go_simp
        clear hHeld
        refine hK'.out _ _ ⟨kx, k0, k4⟩ (fun hHeld => ?_)
        clear hK' K'
        try simp only [Act.put, List.setIfInBounds_toArray, List.set_cons_zero, List.set_cons_succ]
        refine wpAnyH_done (by kernel_rfl) ?_ _
        go_wp2
        go_meet
        case rel =>
          have hk := fun {k : Nat} (q : k ≠ pb) => turned_block HM.out.2 q
          have hne := K5.ne
          have M2 : MutM pb cb wc w3 := (MutM.refl pb cb wc).drew.trans (MutM.turned HM.out.2 (.inl rfl))
          rw [take_snocF HE.out, ← drops_snoc]
          exact ⟨⟨k0, (World.cell?_of_block (a := ⟨bk, 1, none⟩) (@hk bk hne.1)).trans K5.c1, HM.out.1, K5.cm.block (w' := w3) (@hk cb (fun e => hne.2.2 e.symm)), hne⟩, M.trans M2⟩
      case rest =>
        obtain ⟨K, M⟩ := hcut
        go_wp2
        go_roundg (l.length - (j + 1))
        case measure => omega
        case rel => exact ⟨j + 1, by omega, by go_num, K, M⟩
    · have e : l.take j = l := List.take_of_length_le (by omega)
      rw [e] at K
      go_wp2
      go_ret
      exact ⟨rfl, K, M⟩
end Go.Proofs.Qxb6500877aGreatDoor
