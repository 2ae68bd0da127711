import Derived.Test.Qxb6500877aGreatDoorXc
set_option linter.unusedVariables false
set_option linter.unusedSimpArgs false
namespace Go.Proofs.Qxb6500877aGreatDoor
open Go.RowKit

set_option maxHeartbeats 8000000 in
theorem wreset_t {w : World} {B st : Nat} {s : Wheel} (H : WheelPre w B s) (hst : st < 18446744073709551616) (hocc : ∀ j, s.occ j = 0) :
    Calls Tryz.prog 113 #[.pointer (some ⟨B, 1, none⟩), .int .u64 (st : Int)] w fun e w' => e = .returned (.tuple #[]) ∧ (∃ s', TimersAt w' B 0 s' (fun _ => none) ∧ WInv s' (fun _ => []) (List.range' 0 64) (fun _ => none) [] ∧ s'.now = st ∧ s'.mb = w.heap.size ∧ s'.nid = 1) ∧ Mut B 1 1939 w w' := by
  have hlt : B < w.heap.size := World.block_lt_of_cell? _ _ H.mp
  have HOCC := hideIt hocc
  clear hocc
  have c1 := H.cell 0 (by omega) (by omega)
  have c2 := H.cell 514 (by omega) (by omega)
  have c3 := H.cell 515 (by omega) (by omega)
  have c4 := H.mp
  have c5 := H.cell 517 (by omega) (by omega)
  have c6 := H.cell 518 (by omega) (by omega)
  have fz := H.frz
  have hmk := hint_make
  simp only [Nat.reduceAdd] at c1 c2 c3 c5 c6
  go_enter Tryz.func113, Tryz.ntmps113
  go_upto_region 3 with fail
  go_cut [] (fun wc => ∃ s1, WheelAt wc B s1 ∧ MapOf wc w.heap.size 0 (fun _ => none) ∧ s1.now = st ∧ s1.live = 0 ∧ s1.nid = 1 ∧ s1.mb = w.heap.size ∧ (∀ j, s1.occ j = 0) ∧ Mut B 1 1939 w wc)
  case first =>
    go_wp2
    go_meet
    case rel =>
      generalize hW : ((w.setCell ⟨B, 1, none⟩ (.int .u64 (st : Int))).setCell ⟨B, 515, none⟩ (.int .i64 0)).setCell ⟨B, 516, none⟩ (.int .u64 1) = W
      have hs : W.heap.size = w.heap.size := by rw [← hW]; simp
      have P2 : WheelPre W B (((s.pNow st).pLive 0).pNid 1) := by rw [← hW]; exact ((H.putNow _).putLive _).putNid _
      have P3 := P2.made w.heap.size
      have M2 : Mut B 1 1939 w (W.setCell ⟨B, 517, none⟩ (.map (some w.heap.size))) := by rw [← hW]; exact (((((Mut.refl B 1 1939 _).setCell (by omega) (by omega) _).setCell (by omega) (by omega) _).setCell (by omega) (by omega) _).setCell (by omega) (by omega) _)
      generalize hX : W.setCell ⟨B, 517, none⟩ (.map (some w.heap.size)) = X at *
      have hx : X.heap.size = w.heap.size := by rw [← hX]; simpa using hs
      have mp := mapOf_made X
      rw [hx] at mp
      have MX : Mut B 0 0 X (X.alloc (.map #[] 0)) := Mut.of_below (one_alloc X _) (by omega)
      exact ⟨_, P3.mut MX (by omega), mp, rfl, rfl, rfl, rfl, HOCC.out, M2.trans (Mut.of_below (one_alloc X _) (by omega))⟩
  case rest =>
    obtain ⟨s1, H1, mp1, e1, e2, e3, e4, e5, M1⟩ := hcut
    have B1 : Bare ((s1.setLh none (-1)).setLt none (-1)) st w.heap.size 0 0 := ⟨e1, e2, e3, e4, e5, ⟨by simp [Wheel.setLh, Wheel.setLt], by simp [Wheel.setLh, Wheel.setLt]⟩, fun a b h => by omega, fun b h => by omega⟩
    obtain ⟨l0, l1⟩ := H1.list (r := none) trivial
    have l0' : wc.cell? ⟨B, 518, none⟩ = some (.int .i16 (s1.lh none)) := l0
    have l1' : wc.cell? ⟨B, 519, none⟩ = some (.int .i16 (s1.lt none)) := l1
    have H2 : WheelAt ((wc.setCell ⟨B, 518, none⟩ (.int .i16 (-1))).setCell ⟨B, 519, none⟩ (.int .i16 (-1))) B ((s1.setLh none (-1)).setLt none (-1)) := (H1.putLh (r := none) trivial _).putLt (r := none) trivial _
    have M2 : Mut B 1 1939 w ((wc.setCell ⟨B, 518, none⟩ (.int .i16 (-1))).setCell ⟨B, 519, none⟩ (.int .i16 (-1))) := (M1.setCell (by omega) (by omega) _).setCell (by omega) (by omega) _
    have hmB : w.heap.size ≠ B := by omega
    have mp2 : MapOf ((wc.setCell ⟨B, 518, none⟩ (.int .i16 (-1))).setCell ⟨B, 519, none⟩ (.int .i16 (-1))) w.heap.size 0 (fun _ => none) := (mp1.cell hmB _).cell hmB _
    have fz1 := H1.frz
    clear c1 c2 c3 c4 c5 c6 fz H l0 l1 e1 e2 e3 e4 e5 mp1 M1 H1 hmk
    go_wp2_with fail
    go_loopg [25] 11 (fun g v wr => ∃ (k : Nat) (s' : Wheel), k + g = 11 ∧ v = .int .i64 (k : Int) ∧ WheelAt wr B s' ∧ Bare s' st w.heap.size k 0 ∧ MapOf wr w.heap.size 0 (fun _ => none) ∧ Mut B 1 1939 w wr)
    case atStart => exact ⟨0, _, by omega, rfl, H2, B1, mp2, M2⟩
    case round =>
      clear H2 B1 mp2 M2 l0' l1' fz1
      obtain ⟨k, s2, hkg, rfl, H2, B2, mp2, M2⟩ := hrel
      by_cases hk : k < 11
      · have k0 : (0 : Int) ≤ k := by omega
        have k1 : (k : Int) < 11 := by omega
        have o := H2.bits hk
        have fz := H2.frz
        have H3 : WheelAt (wr.setCell ⟨B, 1928 + k, none⟩ (.int .u64 0)) B (s2.setOcc k 0) := H2.putOcc hk 0
        have B3 : Bare (s2.setOcc k 0) st w.heap.size k 0 := ⟨B2.now, B2.live, B2.nid, B2.mb, fun j => by simp only [Wheel.setOcc]; split <;> simp [B2.occ], B2.due, B2.lo, B2.at_⟩
        have M3 : Mut B 1 1939 w (wr.setCell ⟨B, 1928 + k, none⟩ (.int .u64 0)) := M2.setCell (by omega) (by omega) _
        have mp3 : MapOf (wr.setCell ⟨B, 1928 + k, none⟩ (.int .u64 0)) w.heap.size 0 (fun _ => none) := mp2.cell hmB _
        clear H2 B2 mp2 M2
        go_wp2_with fail
        go_loopg [33] 64 (fun g v wr => ∃ (z : Nat) (s' : Wheel), z + g = 64 ∧ v = .int .i64 (z : Int) ∧ WheelAt wr B s' ∧ Bare s' st w.heap.size k z ∧ MapOf wr w.heap.size 0 (fun _ => none) ∧ Mut B 1 1939 w wr)
        case atStart => exact ⟨0, _, by omega, rfl, H3, B3, mp3, M3⟩
        case round =>
          clear H3 B3 mp3 M3 o fz
          obtain ⟨z, s3, hzg, rfl, H3, B3, mp3, M3⟩ := hrel
          by_cases hz : z < 64
          · have z0 : (0 : Int) ≤ z := by omega
            have z1 : (z : Int) < 64 := by omega
            obtain ⟨l0, l1⟩ := H3.list (r := some (k, z)) ⟨hk, hz⟩
            have l0' : wr.cell? ⟨B, 520 + k * 128 + z * 2, none⟩ = some (.int .i16 (s3.lh (some (k, z)))) := l0
            have l1' : wr.cell? ⟨B, 520 + k * 128 + z * 2 + 1, none⟩ = some (.int .i16 (s3.lt (some (k, z)))) := l1
            have fz := H3.frz
            clear l0 l1
            go_wp2
            go_roundg (64 - (z + 1))
            case measure => omega
            case rel =>
              refine ⟨z + 1, _, by omega, by go_num, (H3.putLh (r := some (k, z)) ⟨hk, hz⟩ _).putLt (r := some (k, z)) ⟨hk, hz⟩ _, ⟨B3.now, B3.live, B3.nid, B3.mb, B3.occ, ?_, fun a b ha hb => ?_, fun b hb => ?_⟩, (mp3.cell hmB _).cell hmB _, (M3.setCell (by omega) (by omega) _).setCell (by omega) (by omega) _⟩
              · simp [Wheel.setLh, Wheel.setLt]; exact B3.due
              · have : ¬ (a = k ∧ b = z) := fun q => by omega
                simp [Wheel.setLh, Wheel.setLt, this]
                exact B3.lo a b ha hb
              · by_cases e : b = z
                · subst e; simp [Wheel.setLh, Wheel.setLt]
                · simp [Wheel.setLh, Wheel.setLt, e]
                  exact B3.at_ b (by omega)
          · have e6 : z = 64 := by omega
            subst e6
            go_wp2
            go_roundg (11 - (k + 1))
            case measure => omega
            case rel =>
              refine ⟨k + 1, s3, by omega, by go_num, H3, ⟨B3.now, B3.live, B3.nid, B3.mb, B3.occ, B3.due, fun a b ha hb => ?_, fun b hb => by omega⟩, mp3, M3⟩
              by_cases e : a = k
              · subst e; exact B3.at_ b hb
              · exact B3.lo a b (by omega) hb
      · have e11 : k = 11 := by omega
        subst e11
        obtain ⟨_, o1, _⟩ := H2.one
        have fz := H2.frz
        have H3 : WheelAt (wr.setCell ⟨B, 514, none⟩ (.int .i16 (-1))) B (s2.pFree (-1)) := H2.putFree (-1)
        have B3 : Bare (s2.pFree (-1)) st w.heap.size 11 0 := ⟨B2.now, B2.live, B2.nid, B2.mb, B2.occ, B2.due, B2.lo, B2.at_⟩
        have M3 : Mut B 1 1939 w (wr.setCell ⟨B, 514, none⟩ (.int .i16 (-1))) := M2.setCell (by omega) (by omega) _
        have mp3 : MapOf (wr.setCell ⟨B, 514, none⟩ (.int .i16 (-1))) w.heap.size 0 (fun _ => none) := mp2.cell hmB _
        clear H2 B2 mp2 M2 hk hkg
        go_wp2_with fail
        go_loopg [6] 64 (fun g v wr => ∃ (s' : Wheel) (i : Nat), i = g ∧ i ≤ 64 ∧ v = .int .i64 ((i : Int) - 1) ∧ WheelAt wr B s' ∧ Bare s' st w.heap.size 11 0 ∧ Chained s' i ∧ s'.free = (if i = 64 then -1 else (i : Int)) ∧ MapOf wr w.heap.size 0 (fun _ => none) ∧ Mut B 1 1939 w wr)
        case atStart => exact ⟨_, 64, rfl, by omega, rfl, H3, B3, fun x h1 h2 => by omega, rfl, mp3, M3⟩
        case round =>
          clear H3 B3 mp3 M3 o1 fz
          obtain ⟨s3, i, rfl, hg, rfl, H3, B3, C3, F3, mp3, M3⟩ := hrel
          by_cases hi0 : i = 0
          · subst hi0
            go_wp2
            go_end0
            exact ⟨rfl, ⟨s3, ⟨H3, by rw [B3.mb]; exact mp3, by rw [B3.mb]; exact hmB⟩, bare_inv hst B3 C3 F3, B3.now, B3.mb, B3.nid⟩, M3⟩
          · obtain ⟨j, rfl⟩ : ∃ j, i = j + 1 := ⟨i - 1, by omega⟩
            have hj : j < 64 := by omega
            have ej : ((j + 1 : Nat) : Int) - 1 = (j : Int) := by omega
            rw [ej]
            have j0 : (0 : Int) ≤ j := by omega
            have j1 : (j : Int) < 64 := by omega
            obtain ⟨x0, x1, x2, x3, x4, x5, x6, x7⟩ := H3.node hj
            obtain ⟨_, o1, _⟩ := H3.one
            have fz := H3.frz
            have HF := hideIt F3
            clear F3
            have n0 : ¬ (2 + j * 8 = 514) := by omega
            have n1 : ¬ (514 = 2 + j * 8) := by omega
            have n2 : ¬ (2 + j * 8 + 1 = 514) := by omega
            have n3 : ¬ (514 = 2 + j * 8 + 1) := by omega
            have n4 : ¬ (2 + j * 8 + 2 = 514) := by omega
            have n5 : ¬ (514 = 2 + j * 8 + 2) := by omega
            have n6 : ¬ (2 + j * 8 + 3 = 514) := by omega
            have n7 : ¬ (514 = 2 + j * 8 + 3) := by omega
            have n8 : ¬ (2 + j * 8 + 4 = 514) := by omega
            have n9 : ¬ (514 = 2 + j * 8 + 4) := by omega
            have n10 : ¬ (2 + j * 8 + 5 = 514) := by omega
            have n11 : ¬ (514 = 2 + j * 8 + 5) := by omega
            have n12 : ¬ (2 + j * 8 + 6 = 514) := by omega
            have n13 : ¬ (514 = 2 + j * 8 + 6) := by omega
            have n14 : ¬ (2 + j * 8 + 7 = 514) := by omega
            have n15 : ¬ (514 = 2 + j * 8 + 7) := by omega
            go_wp2_with fail
            refine wp_region_held_drew (S := (fun w' => w'.cell? ⟨B, 514, none⟩ = some (.int .i16 s3.free))) (by kernel_rfl) o1 (fun hHeld => ?_)
            refine wpAnyH_take (i := 0) (oi := { dst := some 53, op := Go.Op.move (Go.Operand.tmp 0), type := 212, pos := _, after := #[], guard := none }) (v := ?vv1) rfl (by kernel_rfl) (by kernel_rfl) (by kernel_rfl) (fun _ _ _ h => h) (Or.inl ⟨by rfl, ?hy1⟩) (by assumption) ?tk1
            case hy1 => (intro w hSw; (try dsimp only at hSw); go_simp; (try with_reducible rfl))
            try simp only [Act.put, List.setIfInBounds_toArray, List.set_cons_zero, List.set_cons_succ]
            refine wpAnyH_take (i := 1) (oi := { dst := some 54, op := Go.Op.move (Go.Operand.tmp 6), type := 3, pos := _, after := #[], guard := none }) (v := ?vv2) rfl (by kernel_rfl) (by kernel_rfl) (by kernel_rfl) (fun _ _ _ h => h) (Or.inl ⟨by rfl, ?hy2⟩) (by assumption) ?tk2
            case hy2 => (intro w hSw; (try dsimp only at hSw); go_simp; (try with_reducible rfl))
            try simp only [Act.put, List.setIfInBounds_toArray, List.set_cons_zero, List.set_cons_succ]
            refine wpAnyH_take (i := 2) (oi := { dst := some 55, op := Go.Op.move (Go.Operand.tmp 0), type := 212, pos := _, after := #[], guard := none }) (v := ?vv3) rfl (by kernel_rfl) (by kernel_rfl) (by kernel_rfl) (fun _ _ _ h => h) (Or.inl ⟨by rfl, ?hy3⟩) (by assumption) ?tk3
            case hy3 => (intro w hSw; (try dsimp only at hSw); go_simp; (try with_reducible rfl))
            try simp only [Act.put, List.setIfInBounds_toArray, List.set_cons_zero, List.set_cons_succ]
            refine wpAnyH_take (i := 3) (oi := { dst := some 56, op := Go.Op.nilCheck (Go.Operand.tmp 55), type := 0, pos := _, after := #[{ on := 2, ground := Go.Ground.data }], guard := none }) (v := ?vv4) rfl (by kernel_rfl) (by kernel_rfl) (by kernel_rfl) (fun _ _ _ h => h) (Or.inl ⟨by rfl, ?hy4⟩) (by assumption) ?tk4
            case hy4 => (intro w hSw; (try dsimp only at hSw); go_simp; (try with_reducible rfl))
            try simp only [Act.put, List.setIfInBounds_toArray, List.set_cons_zero, List.set_cons_succ]
            refine wpAnyH_take (i := 4) (oi := { dst := some 57, op := Go.Op.fieldAddr 168 (Go.Operand.tmp 56) 2, type := 0, pos := _, after := #[{ on := 3, ground := Go.Ground.data }], guard := none }) (v := ?vv5) rfl (by kernel_rfl) (by kernel_rfl) (by kernel_rfl) (fun _ _ _ h => h) (Or.inl ⟨by rfl, ?hy5⟩) (by assumption) ?tk5
            case hy5 => (intro w hSw; (try dsimp only at hSw); go_simp; (try with_reducible rfl))
            try simp only [Act.put, List.setIfInBounds_toArray, List.set_cons_zero, List.set_cons_succ]
            refine wpAnyH_take (i := 5) (oi := { dst := some 58, op := Go.Op.load 156 (Go.Operand.tmp 57), type := 156, pos := _, after := #[{ on := 4, ground := Go.Ground.data }], guard := none }) (v := ?vv6) rfl (by kernel_rfl) (by kernel_rfl) (by kernel_rfl) (fun _ _ _ h => h) (Or.inl ⟨by rfl, ?hy6⟩) (by assumption) ?tk6
            case hy6 => (intro w hSw; (try dsimp only at hSw); go_simp; (try with_reducible rfl))
            try simp only [Act.put, List.setIfInBounds_toArray, List.set_cons_zero, List.set_cons_succ]
            refine wpAnyH_take (i := 6) (oi := { dst := some 59, op := Go.Op.build 159 #[(1, Go.Operand.const (Go.Value.int Go.IntKind.i16 (-1))), (2, Go.Operand.tmp 58), (3, Go.Operand.const (Go.Value.int Go.IntKind.i8 (-2)))], type := 159, pos := _, after := #[{ on := 5, ground := Go.Ground.data }], guard := none }) (v := ?vv7) rfl (by kernel_rfl) (by kernel_rfl) (by kernel_rfl) (fun _ _ _ h => h) (Or.inl ⟨by rfl, ?hy7⟩) (by assumption) ?tk7
            case hy7 => (intro w hSw; (try dsimp only at hSw); go_simp; (try with_reducible rfl))
            try simp only [Act.put, List.setIfInBounds_toArray, List.set_cons_zero, List.set_cons_succ]
            refine wpAnyH_take (i := 7) (oi := { dst := some 60, op := Go.Op.nilCheck (Go.Operand.tmp 53), type := 0, pos := _, after := #[{ on := 0, ground := Go.Ground.data }], guard := none }) (v := ?vv8) rfl (by kernel_rfl) (by kernel_rfl) (by kernel_rfl) (fun _ _ _ h => h) (Or.inl ⟨by rfl, ?hy8⟩) (by assumption) ?tk8
            case hy8 => (intro w hSw; (try dsimp only at hSw); go_simp; (try with_reducible rfl))
            try simp only [Act.put, List.setIfInBounds_toArray, List.set_cons_zero, List.set_cons_succ]
            refine wpAnyH_take (i := 8) (oi := { dst := some 61, op := Go.Op.fieldAddr 168 (Go.Operand.tmp 60) 1, type := 0, pos := _, after := #[{ on := 7, ground := Go.Ground.data }], guard := none }) (v := ?vv9) rfl (by kernel_rfl) (by kernel_rfl) (by kernel_rfl) (fun _ _ _ h => h) (Or.inl ⟨by rfl, ?hy9⟩) (by assumption) ?tk9
            case hy9 => (intro w hSw; (try dsimp only at hSw); go_simp; (try with_reducible rfl))
            try simp only [Act.put, List.setIfInBounds_toArray, List.set_cons_zero, List.set_cons_succ]
            refine wpAnyH_take (i := 9) (oi := { dst := some 62, op := Go.Op.indexAddr 160 (Go.Operand.tmp 61) (Go.Operand.tmp 54), type := 0, pos := _, after := #[{ on := 8, ground := Go.Ground.data }, { on := 1, ground := Go.Ground.data }, { on := 0, ground := Go.Ground.phase }, { on := 1, ground := Go.Ground.phase }, { on := 2, ground := Go.Ground.phase }, { on := 3, ground := Go.Ground.phase }, { on := 4, ground := Go.Ground.phase }, { on := 5, ground := Go.Ground.phase }, { on := 6, ground := Go.Ground.phase }], guard := none }) (v := ?vv10) rfl (by kernel_rfl) (by kernel_rfl) (by kernel_rfl) (fun _ _ _ h => h) (Or.inl ⟨by rfl, ?hy10⟩) (by assumption) ?tk10
            case hy10 => (intro w hSw; (try dsimp only at hSw); go_simp; (try with_reducible rfl))
            try simp only [Act.put, List.setIfInBounds_toArray, List.set_cons_zero, List.set_cons_succ]
            refine wpAnyH_ready (rs := [10]) (by kernel_rfl) (by simp) ?_
            refine AllReadyH.cons (o := { dst := none, op := Go.Op.store 159 (Go.Operand.tmp 62) (Go.Operand.tmp 59), type := 0, pos := _, after := #[{ on := 9, ground := Go.Ground.data }, { on := 6, ground := Go.Ground.data }, { on := 0, ground := Go.Ground.phase }, { on := 1, ground := Go.Ground.phase }, { on := 2, ground := Go.Ground.phase }, { on := 3, ground := Go.Ground.phase }, { on := 4, ground := Go.Ground.phase }, { on := 5, ground := Go.Ground.phase }, { on := 6, ground := Go.Ground.phase }], guard := none }) rfl (fun K' hK' => ?_) AllReadyH.nil
            go_simp
            clear hHeld
            refine hK'.out _ _ (by go_simp) (fun hHeld => ?_)
            clear hK' K'
            try simp only [Act.put, List.setIfInBounds_toArray, List.set_cons_zero, List.set_cons_succ]
            refine wpAnyH_done (by kernel_rfl) ?_ _
            go_wp2
            go_roundg j
            case measure => omega
            case rel =>
              refine ⟨_, j, rfl, by omega, by go_num, ((H3.putNode hj ⟨0, 0, 0, 0, -1, s3.free, -2, 0⟩).putFree _).drew, ⟨B3.now, B3.live, B3.nid, B3.mb, B3.occ, B3.due, B3.lo, B3.at_⟩, fun x h1 h2 => ?_, by rw [if_neg (by omega)]; rfl, ((((((((((mp3.cell hmB _).cell hmB _).cell hmB _).cell hmB _).cell hmB _).cell hmB _).cell hmB _).cell hmB _).cell hmB _).drew), (((((((((M3.setCell (o := 2 + j * 8) (by omega) (by omega) _).setCell (o := 2 + j * 8 + 1) (by omega) (by omega) _).setCell (o := 2 + j * 8 + 2) (by omega) (by omega) _).setCell (o := 2 + j * 8 + 3) (by omega) (by omega) _).setCell (o := 2 + j * 8 + 4) (by omega) (by omega) _).setCell (o := 2 + j * 8 + 5) (by omega) (by omega) _).setCell (o := 2 + j * 8 + 6) (by omega) (by omega) _).setCell (o := 2 + j * 8 + 7) (by omega) (by omega) _).setCell (o := 514) (by omega) (by omega) _).drew⟩
              by_cases e : x = j
              · subst e
                simp [Wheel.setNd, Wheel.pFree]
                rw [HF.out]
                by_cases q : x = 63
                · subst q; simp
                · rw [if_neg (by omega), if_neg q]; omega
              · simp [Wheel.setNd, Wheel.pFree, e]
                have := C3 x (by omega) h2
                rw [this]
end Go.Proofs.Qxb6500877aGreatDoor
