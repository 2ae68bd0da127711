import Derived.Deep.CutBlock
import Derived.OwnWalk
import Derived.Test.Qxb6500877aGreatDoorAg
set_option linter.unusedVariables false
set_option linter.unusedSimpArgs false
namespace Go.Proofs.Qxb6500877aGreatDoor
open Go.RowKit

theorem resCs_one (c co tk tm : Int) (hm : Bool) (m : MsgV) (p : Option Addr) (a n : Nat) : ((resCs c co tk tm hm m p a n).all fun x => x.oneCell') = true := by
  unfold resCs
  simp [Value.oneCell']
theorem inc64_rw (v : Int) : IntKind.u64.wrap (v + 1) = inc64 v := rfl
/-- The model's choice among the waiting tasks. -/
def choF (tk : Nat → Int × Int × Int) : Nat → List Nat → Nat
  | x, [] => x
  | x, t :: l => choF tk (if (tk t).2.2 < (tk x).2.2 then t else x) l
theorem choF_mem (tk : Nat → Int × Int × Int) : ∀ (l : List Nat) (x : Nat), choF tk x l = x ∨ choF tk x l ∈ l
  | [], x => .inl rfl
  | t :: l, x => by
    unfold choF
    rcases choF_mem tk l (if (tk t).2.2 < (tk x).2.2 then t else x) with h | h
    · rw [h]
      split
      · exact .inr (by simp)
      · exact .inl rfl
    · exact .inr (List.mem_cons_of_mem _ h)
theorem choF_take (tk : Nat → Int × Int × Int) : ∀ (l : List Nat) (x j u : Nat), l[j]? = some u → choF tk x (l.take (j + 1)) = (if (tk u).2.2 < (tk (choF tk x (l.take j))).2.2 then u else choF tk x (l.take j))
  | [], x, j, u, h => by simp at h
  | t :: l, x, 0, u, h => by
    simp at h
    subst h
    simp [choF]
  | t :: l, x, j + 1, u, h => by
    have h' : l[j]? = some u := by simpa using h
    simp only [List.take_succ_cons, choF]
    exact choF_take tk l _ j u h'
/-- The model once the running task has joined. -/
def Mdl.stop (m : Mdl) (c : Nat) (v : Int) : Mdl := if v = -1 then m else (m.join v.toNat c).inc (c * 7 + 1)
structure MRes where
  c : Int
  tk : Int
  m : Mdl
def Mdl.pick (m : Mdl) (c : Nat) (v : Int) : MRes :=
  match (m.stop c v).wt c with
  | [] => ⟨1, -1, m.stop c v⟩
  | x :: l => ⟨0, (choF (m.stop c v).tk x (x :: l) : Nat), (((m.stop c v).leave (choF (m.stop c v).tk x (x :: l)) c).setTk (choF (m.stop c v).tk x (x :: l)) (3, ((m.stop c v).tk (choF (m.stop c v).tk x (x :: l))).2.1, ((m.stop c v).tk (choF (m.stop c v).tk x (x :: l))).2.2)).inc (c * 7)⟩
theorem stop_in {m : Mdl} {c : Nat} {was : Int} (hW : ∀ t ∈ m.wt c, t < 16 ∧ (m.tk t).2.1 = c) (hR : RunIs m.tk c was) {t : Nat} (ht : t ∈ (m.stop c was).wt c) : t < 16 ∧ ((m.stop c was).tk t).2.1 = c := by
  unfold Mdl.stop at *
  split at ht
  · rename_i h
    rw [if_pos h]
    exact hW t ht
  · rename_i h
    rw [if_neg h]
    rcases hR with ⟨p, hp, h3, hh, ew⟩ | ⟨ew, _⟩
    · have ep : was.toNat = p := by omega
      rw [ep] at ht ⊢
      have ht' : t ∈ upd m.wt c (m.wt c ++ [p]) c := ht
      rw [upd_same] at ht'
      show t < 16 ∧ (upd m.tk p (2, (m.tk p).2.1, (m.tk p).2.2) t).2.1 = c
      by_cases q : t = p
      · subst q
        rw [upd_same]
        exact ⟨hp, hh⟩
      · rw [upd_other _ _ q]
        rcases List.mem_append.1 ht' with z | z
        · exact hW t z
        · exact absurd (List.mem_singleton.1 z) q
    · exact absurd ew h
set_option maxRecDepth 20000 in
set_option maxHeartbeats 8000000 in
theorem mpick_any {w : World} {D base : Nat} {V : Nat → Value} {m : Mdl} {c : Nat} {v : Int} (H : MdlAt w D base V m) (hb : base ≤ w.heap.size) (hc : c < 4) (hv : v % 4 = c) (hl : (m.wt c).length ≤ 900) (hW : ∀ t ∈ m.wt c, t < 16 ∧ (m.tk t).2.1 = c) :
    Calls Tryz.prog 74 #[.pointer (some ⟨D, 0, none⟩), .int .i64 v] w fun e w' => ∃ V' was, RunIs m.tk c was ∧ e = .returned (.agg (resCs (m.pick c was).c c (m.pick c was).tk 0 false msg0 none 0 0)) ∧ MdlAt w' D base V' (m.pick c was).m ∧ MFr D V V' w w' := by
  have c0 : (0 : Int) ≤ c := by omega
  have c1 : (c : Int) < 4 := by omega
  have hmod := fun w => mod_any v 4 (.inl rfl) w
  rw [hv] at hmod
  have hDl := H.dlt
  go_enter Tryz.func74, Tryz.ntmps74
  go_wp2_with fail
  refine (hmod _).mono ?_
  rintro e wa ⟨rfl, e⟩
  have ea : wa = w.alloc (.cells #[.int .i64 0, .int .i64 0, .int .i64 0, .int .u64 0, .bool false, .int .i64 0, .int .i64 0, .int .u32 0, .int .u64 0, .int .u64 0, .int .u64 0, .int .u64 0, .int .u64 0, .int .u64 0, .slice none 0 0] 43) := e
  clear e
  have ba : Below w.heap.size w wa := by rw [ea]; exact one_alloc w _
  have ra : RowR wa w.heap.size #[.int .i64 0, .int .i64 0, .int .i64 0, .int .u64 0, .bool false, .int .i64 0, .int .i64 0, .int .u32 0, .int .u64 0, .int .u64 0, .int .u64 0, .int .u64 0, .int .u64 0, .int .u64 0, .slice none 0 0] := by rw [ea]; exact RowR.new w _
  have hsa : wa.heap.size = w.heap.size + 1 := by rw [ea]; simp
  have HEA := hideIt ea
  clear ea
  have hbs : base ≤ wa.heap.size := by omega
  have Ha := H.below ba
  have Mw0 := ((MFr.refl D V w).below ba).mw
  have n4D : w.heap.size ≠ D := by omega
  go_upto_region 2 with fail
  go_cut [6] (fun a6 wd => ∃ b6 : Nat, a6 = .pointer (some ⟨b6, 0, none⟩) ∧ MdlAt wd D base V m ∧ RowR wd b6 (resCs 0 (-1) (-1) 0 false msg0 none 0 0) ∧ (∃ c4, RowR wd w.heap.size c4 ∧ c4.size = 15) ∧ MW D V V w wd ∧ Off V b6 ∧ Off V w.heap.size ∧ (w.heap.size < b6 ∧ base ≤ wd.heap.size))
  case first =>
    go_wp2_with fail
    refine (answer_any 0 wa).mono ?_
    rintro e w2 ⟨rfl, hb2⟩
    have hs2 := hb2.size
    have HB2 := hideIt hb2
    clear hb2
    unfold resV
    go_wp2
    go_meet
    case rel =>
      have b1 := one_alloc w2 (.cells (resCs 0 (-1) (-1) 0 false msg0 none 0 0) 43)
      have bb := HB2.out.trans (b1.mono hs2)
      exact ⟨w2.heap.size, rfl, Ha.below bb, RowR.new w2 _, ⟨_, ra.blk (bb.block w.heap.size (by omega)), rfl⟩, Mw0.below bb, H.off (by omega), H.off (Nat.le_refl _), by omega, Nat.le_trans hbs bb.size⟩
  case rest =>
  clear Mw0 Ha ra hbs hmod HEA ba
  obtain ⟨b6, rfl, H1, R6, H4, Mw, o6, o4, hb6⟩ := hcut
  have n6D : b6 ≠ D := by omega
  have q1 := R6.cell (j := 1) rfl
  have fz6 := R6.fz
  go_upto_region 3 with fail
  go_cut [] (fun wd => MdlAt wd D base V m ∧ RowR wd b6 (resCs 0 (c : Int) (-1) 0 false msg0 none 0 0) ∧ (∃ c4, RowR wd w.heap.size c4 ∧ c4.size = 15) ∧ MW D V V w wd ∧ Off V b6 ∧ Off V w.heap.size ∧ (w.heap.size < b6 ∧ base ≤ wd.heap.size))
  case first =>
    go_wp2
    go_meet
    case rel =>
      obtain ⟨c4, R4, hc4⟩ := H4
      exact ⟨H1.other n6D o6, R6.set, ⟨c4, R4.blk (far_set (by omega)), hc4⟩, Mw.set (by omega), o6, o4, hb6.1, by simpa using hb6.2⟩
  case rest =>
  clear H1 R6 H4 Mw o6 o4 hb6 q1 fz6
  obtain ⟨H1, R6, H4, Mw, o6, o4, hb6⟩ := hcut
  have hru := running_any H1 (c : Int)
  go_upto_region 4 with fail
  go_cut [7] (fun a7 wd => ∃ was, a7 = .int .i64 was ∧ Hid (RunIs m.tk c was) ∧ wc = wd)
  case first =>
    go_wp2_with fail
    refine hru.mono ?_
    rintro e wd ⟨was, rfl, hR, rfl⟩
    have HR := hideIt hR
    clear hR hru
    go_wp2
    go_meet
    case rel => exact ⟨was, rfl, HR, rfl⟩
  case rest =>
  obtain ⟨was, rfl, HR, e⟩ := hcut
  subst e
  clear hru
  go_upto_if 20 with fail
  go_cut [] from 19 to 35 (fun wd => ∃ V1, MdlAt wd D base V1 (m.stop c was) ∧ RowR wd b6 (resCs 0 (c : Int) (-1) 0 false msg0 none 0 0) ∧ (∃ c4, RowR wd w.heap.size c4 ∧ c4.size = 15) ∧ MW D V V1 w wd ∧ Off V1 b6 ∧ Off V1 w.heap.size ∧ (w.heap.size < b6 ∧ base ≤ wd.heap.size))
  case first =>
    rcases HR.out with ⟨t, ht, h3, hh, ew⟩ | ⟨ew, _⟩
    · have hjo := join_any H1 hb6.2 ht hc hh (by omega)
      have e20 : (was != -1) = true := by rw [ew]; simp
      have est : m.stop c was = (m.join t c).inc (c * 7 + 1) := by unfold Mdl.stop; rw [if_neg (by omega), ew]; rfl
      have HST := hideIt est
      have hl6 := R6.lt
      clear est
      subst ew
      go_wp2_with fail
      refine hjo.mono ?_
      rintro e w5 ⟨V1, rfl, H5, F5⟩
      have R6' := R6.blk (F5.keep o6 hl6 n6D)
      have H4' : ∃ c4, RowR w5 w.heap.size c4 ∧ c4.size = 15 := by
        obtain ⟨c4, R4, hc4⟩ := H4
        exact ⟨c4, R4.blk (F5.keep o4 R4.lt n4D), hc4⟩
      have o6' := F5.off o6 hl6
      have o4' := F5.off o4 (by omega)
      have Mw' := Mw.then F5
      have hbs5 : base ≤ w5.heap.size := Nat.le_trans hb6.2 F5.size
      have s0 := H5.stc (j := c * 7 + 1) (by omega)
      rw [← Nat.add_assoc] at s0
      generalize hsv : (m.join t c).st (c * 7 + 1) = sv at s0
      have HSV := hideIt hsv
      have fz := H5.fz
      clear hsv hjo H1 R6 Mw H4 o6 o4
      go_upto_region 7 with fail
      refine wp_region_l (l := 12) (S := (fun w' => w'.cell? ⟨D, 87 + c * 7 + 1, none⟩ = some (.int .u64 sv))) (by kernel_rfl) s0 (fun hHeld => ?_)
      refine AnyL.take2 (i := 0) (oi := { dst := some 24, op := Go.Op.move (Go.Operand.tmp 0), type := 26, pos := _, after := #[], guard := none }) (v := ?vv1) (by kernel_rfl) (by kernel_rfl) rfl (by kernel_rfl) (by kernel_rfl) (by kernel_rfl) (fun _ _ _ h => h) (Or.inl ⟨by rfl, ?hy1⟩) (by assumption) ?tk1
      case hy1 => (intro w hSw; (try dsimp only at hSw); go_simp; (try with_reducible rfl))
      try simp only [Act.put, List.setIfInBounds_toArray, List.set_cons_zero, List.set_cons_succ]
      refine AnyL.take2 (i := 1) (oi := { dst := some 25, op := Go.Op.move (Go.Operand.tmp 5), type := 34, pos := _, after := #[], guard := none }) (v := ?vv2) (by kernel_rfl) (by kernel_rfl) rfl (by kernel_rfl) (by kernel_rfl) (by kernel_rfl) (fun _ _ _ h => h) (Or.inl ⟨by rfl, ?hy2⟩) (by assumption) ?tk2
      case hy2 => (intro w hSw; (try dsimp only at hSw); go_simp; (try with_reducible rfl))
      try simp only [Act.put, List.setIfInBounds_toArray, List.set_cons_zero, List.set_cons_succ]
      refine AnyL.take2 (i := 2) (oi := { dst := some 26, op := Go.Op.nilCheck (Go.Operand.tmp 24), type := 0, pos := _, after := #[{ on := 0, ground := Go.Ground.data }], guard := none }) (v := ?vv3) (by kernel_rfl) (by kernel_rfl) rfl (by kernel_rfl) (by kernel_rfl) (by kernel_rfl) (fun _ _ _ h => h) (Or.inl ⟨by rfl, ?hy3⟩) (by assumption) ?tk3
      case hy3 => (intro w hSw; (try dsimp only at hSw); go_simp; (try with_reducible rfl))
      try simp only [Act.put, List.setIfInBounds_toArray, List.set_cons_zero, List.set_cons_succ]
      refine AnyL.take2 (i := 3) (oi := { dst := some 27, op := Go.Op.fieldAddr 135 (Go.Operand.tmp 26) 7, type := 0, pos := _, after := #[{ on := 2, ground := Go.Ground.data }], guard := none }) (v := ?vv4) (by kernel_rfl) (by kernel_rfl) rfl (by kernel_rfl) (by kernel_rfl) (by kernel_rfl) (fun _ _ _ h => h) (Or.inl ⟨by rfl, ?hy4⟩) (by assumption) ?tk4
      case hy4 => (intro w hSw; (try dsimp only at hSw); go_simp; (try with_reducible rfl))
      try simp only [Act.put, List.setIfInBounds_toArray, List.set_cons_zero, List.set_cons_succ]
      refine AnyL.take2 (i := 4) (oi := { dst := some 28, op := Go.Op.indexAddr 133 (Go.Operand.tmp 27) (Go.Operand.tmp 25), type := 0, pos := _, after := #[{ on := 3, ground := Go.Ground.data }, { on := 1, ground := Go.Ground.data }], guard := none }) (v := ?vv5) (by kernel_rfl) (by kernel_rfl) rfl (by kernel_rfl) (by kernel_rfl) (by kernel_rfl) (fun _ _ _ h => h) (Or.inl ⟨by rfl, ?hy5⟩) (by assumption) ?tk5
      case hy5 => (intro w hSw; (try dsimp only at hSw); go_simp; (try with_reducible rfl))
      try simp only [Act.put, List.setIfInBounds_toArray, List.set_cons_zero, List.set_cons_succ]
      refine AnyL.take2 (i := 5) (oi := { dst := some 29, op := Go.Op.fieldAddr 52 (Go.Operand.tmp 28) 1, type := 0, pos := _, after := #[{ on := 4, ground := Go.Ground.data }], guard := none }) (v := ?vv6) (by kernel_rfl) (by kernel_rfl) rfl (by kernel_rfl) (by kernel_rfl) (by kernel_rfl) (fun _ _ _ h => h) (Or.inl ⟨by rfl, ?hy6⟩) (by assumption) ?tk6
      case hy6 => (intro w hSw; (try dsimp only at hSw); go_simp; (try with_reducible rfl))
      try simp only [Act.put, List.setIfInBounds_toArray, List.set_cons_zero, List.set_cons_succ]
      refine AnyL.take2 (i := 6) (oi := { dst := some 30, op := Go.Op.load 28 (Go.Operand.tmp 29), type := 28, pos := _, after := #[{ on := 5, ground := Go.Ground.data }], guard := none }) (v := ?vv7) (by kernel_rfl) (by kernel_rfl) rfl (by kernel_rfl) (by kernel_rfl) (by kernel_rfl) (fun _ _ _ h => h) (Or.inl ⟨by rfl, ?hy7⟩) (by assumption) ?tk7
      case hy7 => (intro w hSw; (try dsimp only at hSw); go_simp; (try with_reducible rfl))
      try simp only [Act.put, List.setIfInBounds_toArray, List.set_cons_zero, List.set_cons_succ]
      refine AnyL.take2 (i := 7) (oi := { dst := some 31, op := Go.Op.binOp Go.BinOp.add 28 (Go.Operand.tmp 30) (Go.Operand.const (Go.Value.int Go.IntKind.u64 1)) 28, type := 28, pos := _, after := #[{ on := 6, ground := Go.Ground.data }], guard := none }) (v := ?vv8) (by kernel_rfl) (by kernel_rfl) rfl (by kernel_rfl) (by kernel_rfl) (by kernel_rfl) (fun _ _ _ h => h) (Or.inl ⟨by rfl, ?hy8⟩) (by assumption) ?tk8
      case hy8 => (intro w hSw; (try dsimp only at hSw); go_simp; (try with_reducible rfl))
      try simp only [Act.put, List.setIfInBounds_toArray, List.set_cons_zero, List.set_cons_succ]
      refine AnyL.take2 (i := 8) (oi := { dst := some 32, op := Go.Op.nilCheck (Go.Operand.tmp 24), type := 0, pos := _, after := #[{ on := 0, ground := Go.Ground.data }], guard := none }) (v := ?vv9) (by kernel_rfl) (by kernel_rfl) rfl (by kernel_rfl) (by kernel_rfl) (by kernel_rfl) (fun _ _ _ h => h) (Or.inl ⟨by rfl, ?hy9⟩) (by assumption) ?tk9
      case hy9 => (intro w hSw; (try dsimp only at hSw); go_simp; (try with_reducible rfl))
      try simp only [Act.put, List.setIfInBounds_toArray, List.set_cons_zero, List.set_cons_succ]
      refine AnyL.take2 (i := 9) (oi := { dst := some 33, op := Go.Op.fieldAddr 135 (Go.Operand.tmp 32) 7, type := 0, pos := _, after := #[{ on := 8, ground := Go.Ground.data }], guard := none }) (v := ?vv10) (by kernel_rfl) (by kernel_rfl) rfl (by kernel_rfl) (by kernel_rfl) (by kernel_rfl) (fun _ _ _ h => h) (Or.inl ⟨by rfl, ?hy10⟩) (by assumption) ?tk10
      case hy10 => (intro w hSw; (try dsimp only at hSw); go_simp; (try with_reducible rfl))
      try simp only [Act.put, List.setIfInBounds_toArray, List.set_cons_zero, List.set_cons_succ]
      refine AnyL.take2 (i := 10) (oi := { dst := some 34, op := Go.Op.indexAddr 133 (Go.Operand.tmp 33) (Go.Operand.tmp 25), type := 0, pos := _, after := #[{ on := 9, ground := Go.Ground.data }, { on := 1, ground := Go.Ground.data }, { on := 0, ground := Go.Ground.phase }, { on := 1, ground := Go.Ground.phase }, { on := 2, ground := Go.Ground.phase }, { on := 3, ground := Go.Ground.phase }, { on := 4, ground := Go.Ground.phase }, { on := 5, ground := Go.Ground.phase }, { on := 6, ground := Go.Ground.phase }, { on := 7, ground := Go.Ground.phase }], guard := none }) (v := ?vv11) (by kernel_rfl) (by kernel_rfl) rfl (by kernel_rfl) (by kernel_rfl) (by kernel_rfl) (fun _ _ _ h => h) (Or.inl ⟨by rfl, ?hy11⟩) (by assumption) ?tk11
      case hy11 => (intro w hSw; (try dsimp only at hSw); go_simp; (try with_reducible rfl))
      try simp only [Act.put, List.setIfInBounds_toArray, List.set_cons_zero, List.set_cons_succ]
      refine AnyL.take2 (i := 11) (oi := { dst := some 35, op := Go.Op.fieldAddr 52 (Go.Operand.tmp 34) 1, type := 0, pos := _, after := #[{ on := 10, ground := Go.Ground.data }, { on := 0, ground := Go.Ground.phase }, { on := 1, ground := Go.Ground.phase }, { on := 2, ground := Go.Ground.phase }, { on := 3, ground := Go.Ground.phase }, { on := 4, ground := Go.Ground.phase }, { on := 5, ground := Go.Ground.phase }, { on := 6, ground := Go.Ground.phase }, { on := 7, ground := Go.Ground.phase }], guard := none }) (v := ?vv12) (by kernel_rfl) (by kernel_rfl) rfl (by kernel_rfl) (by kernel_rfl) (by kernel_rfl) (fun _ _ _ h => h) (Or.inl ⟨by rfl, ?hy12⟩) (by assumption) ?tk12
      case hy12 => (intro w hSw; (try dsimp only at hSw); go_simp; (try with_reducible rfl))
      try simp only [Act.put, List.setIfInBounds_toArray, List.set_cons_zero, List.set_cons_succ]
      refine AnyL.last (o := { dst := none, op := Go.Op.store 28 (Go.Operand.tmp 35) (Go.Operand.tmp 31), type := 0, pos := _, after := #[{ on := 11, ground := Go.Ground.data }, { on := 7, ground := Go.Ground.data }, { on := 0, ground := Go.Ground.phase }, { on := 1, ground := Go.Ground.phase }, { on := 2, ground := Go.Ground.phase }, { on := 3, ground := Go.Ground.phase }, { on := 4, ground := Go.Ground.phase }, { on := 5, ground := Go.Ground.phase }, { on := 6, ground := Go.Ground.phase }, { on := 7, ground := Go.Ground.phase }], guard := none }) (by kernel_rfl) rfl (by kernel_rfl) (fun K' hK' => ?_)
      go_simp
      clear hHeld
      refine hK'.out _ _ ?_
      clear hK' K'
      try simp only [Act.put, List.setIfInBounds_toArray, List.set_cons_zero, List.set_cons_succ]
      go_wp2
      go_meet
      case rel =>
        obtain ⟨H8, F8⟩ := H5.drew.putStat (j := c * 7 + 1) (by omega) (inc64 sv)
        rw [← Nat.add_assoc] at H8 F8
        refine ⟨V1, ?_⟩
        rw [HST.out]
        unfold Mdl.inc
        rw [HSV.out]
        obtain ⟨c4, R4, hc4⟩ := H4'
        exact ⟨H8, R6'.blk (far_set n6D), ⟨c4, R4.blk (far_set n4D), hc4⟩, (Mw'.below (below_dr (Below.refl _ _))).then F8, o6', o4', hb6.1, by simpa using hbs5⟩
    · have e20 : (was != -1) = false := by rw [ew]; rfl
      have est : m.stop c was = m := by unfold Mdl.stop; rw [if_pos ew]
      have HST := hideIt est
      clear est ew
      go_wp2
      go_meet
      case rel => exact ⟨V, by rw [HST.out]; exact ⟨H1, R6, H4, Mw, o6, o4, hb6⟩⟩
  case rest =>
  clear H1 R6 H4 Mw o6 o4 hb6
  obtain ⟨V1, H1, R6, H4, Mw, o6, o4, hb6⟩ := hcut
  obtain ⟨s50, hown⟩ := H1.wrow hc
  obtain ⟨pv, cap, ev⟩ := own_shape hown
  rw [ev] at s50 hown
  have hlen1 : ((m.stop c was).wt c).length ≤ 901 := by
    unfold Mdl.stop
    split
    · omega
    · show (upd m.wt c (m.wt c ++ [was.toNat]) c).length ≤ 901
      rw [upd_same, List.length_append]
      simp; omega
  have HPK : Hid (m.pick c was = (match (m.stop c was).wt c with | [] => ⟨1, -1, m.stop c was⟩ | x :: l => ⟨0, (choF (m.stop c was).tk x (x :: l) : Nat), (((m.stop c was).leave (choF (m.stop c was).tk x (x :: l)) c).setTk (choF (m.stop c was).tk x (x :: l)) (3, ((m.stop c was).tk (choF (m.stop c was).tk x (x :: l))).2.1, ((m.stop c was).tk (choF (m.stop c was).tk x (x :: l))).2.2)).inc (c * 7)⟩)) := hideIt rfl
  cases hwl : (m.stop c was).wt c with
  | nil =>
    rw [hwl] at s50 hown
    have hpk := HPK.out
    rw [hwl] at hpk
    have HP := hideIt hpk
    clear hpk HPK
    have q0 := R6.cell (j := 0) rfl
    have fz6 := R6.fz
    simp only [List.length_nil] at s50
    go_upto_region 9 with fail
    go_cut [] (fun wd => MdlAt wd D base V1 (m.stop c was) ∧ RowR wd b6 (resCs 1 (c : Int) (-1) 0 false msg0 none 0 0) ∧ (∃ c4, RowR wd w.heap.size c4 ∧ c4.size = 15) ∧ MW D V V1 w wd ∧ Off V1 b6 ∧ Off V1 w.heap.size ∧ (w.heap.size < b6 ∧ base ≤ wd.heap.size))
    case first =>
      go_wp2
      go_meet
      case rel =>
        obtain ⟨c4, R4, hc4⟩ := H4
        exact ⟨H1.other n6D o6, R6.set, ⟨c4, R4.blk (far_set (by omega)), hc4⟩, Mw.set (by omega), o6, o4, hb6.1, by simpa using hb6.2⟩
    case rest =>
    clear H1 R6 H4 Mw o6 o4 hb6 q0 fz6 s50
    obtain ⟨H1, R6, H4, Mw, o6, o4, hb6⟩ := hcut
    obtain ⟨c4, R4, hc4⟩ := H4
    have hl43 := R6.load rfl
    have hs43 := R4.store hc4 (cs := (resCs 1 (c : Int) (-1) 0 false msg0 none 0 0)) rfl (resCs_one _ _ _ _ _ _ _ _ _)
    go_upto_region 10 with fail
    go_wp2_with (first | (refine wpList_load_row rfl (.tmp 6) 43 rfl ⟨b6, 0, none⟩ (.agg (resCs 1 (c : Int) (-1) 0 false msg0 none 0 0)) rfl hl43 ?_) | (refine wpList_store_row rfl (.tmp 4) (.tmp 45) 43 rfl ⟨w.heap.size, 0, none⟩ (.agg (resCs 1 (c : Int) (-1) 0 false msg0 none 0 0)) rfl rfl hs43 ?_) | go_in)
    refine bodyPost_ret (v := .agg (resCs 1 (c : Int) (-1) 0 false msg0 none 0 0)) (results_cell_row rfl _ _ w.heap.size 43 _ (0, 0) _ rfl R4.row Tryz.underlying43 rfl sz43) rfl ⟨V1, was, HR.out, ?_, ?_, ?_⟩
    · rw [HP.out]
    · rw [HP.out]; exact H1.otherRow n4D o4
    · exact (Mw.row (Nat.le_refl _)).fr
  | cons x l =>
    rw [hwl] at s50 hown hlen1
    have hpk := HPK.out
    rw [hwl] at hpk
    have HP := hideIt hpk
    clear hpk HPK
    have hgx : ∃ g, pv = some ⟨g, 0, none⟩ ∧ ∀ (j b : Nat), (x :: l)[j]? = some b → wc.cell? ⟨g, j, none⟩ = some (.int .i64 (b : Int)) := by
      rcases ids_own hown with ⟨h1, _⟩ | ⟨g, cap', h1, _, _, h4⟩
      · simp at h1
      · simp only [Value.slice.injEq] at h1
        exact ⟨g, h1.1, h4⟩
    obtain ⟨g, rfl, hgc⟩ := hgx
    have t0c := hgc 0 x rfl
    have hgb : (V1 c).ownBlock = some g := by rw [ev]; rfl
    have HGC := hideIt hgc
    have HW1 : Hid (∀ t ∈ x :: l, t < 16 ∧ ((m.stop c was).tk t).2.1 = c) := hideIt (fun t htm => by
      rw [← hwl] at htm
      exact stop_in hW HR.out htm)
    have HWL := hideIt hwl
    clear hgc hwl
    obtain ⟨m1, hm1⟩ : ∃ m1, m1 = m.stop c was := ⟨_, rfl⟩
    rw [← hm1] at H1 HWL HW1 HP
    have HM1 := hideIt hm1
    clear hm1
    generalize hLL : x :: l = L at *
    have hx16 : x < 16 := (HW1.out x (by rw [← hLL]; simp)).1
    have HLL := hideIt hLL
    have hL0 : 0 < L.length := by rw [← hLL]; simp
    clear hLL
    have i5 : (0 : Int) < (L.length : Int) := by omega
    have hL1 : ¬ (L.length = 0) := by omega
    have hnz : ((L.length : Int) == 0) = false := beq_eq_false_iff_ne.2 (by omega)
    go_upto_region 12 with fail
    go_wp2_with fail
    go_loopg [61, 8] L.length (fun gg v61 v8 wr => ∃ j : Nat, j + gg = L.length ∧ v61 = .int .i64 (j : Int) ∧ v8 = .int .i64 ((choF m1.tk x (L.take j) : Nat) : Int) ∧ MdlAt wr D base V1 m1 ∧ RowR wr b6 (resCs 0 (c : Int) (-1) 0 false msg0 none 0 0) ∧ (∃ c4, RowR wr w.heap.size c4 ∧ c4.size = 15) ∧ MW D V V1 w wr ∧ Off V1 b6 ∧ Off V1 w.heap.size ∧ (w.heap.size < b6 ∧ base ≤ wr.heap.size))
    case atStart => exact ⟨0, by omega, rfl, rfl, H1, R6, H4, Mw, o6, o4, hb6⟩
    case round =>
      clear H1 R6 H4 Mw o6 o4 hb6 s50 t0c
      obtain ⟨j, hjg, rfl, rfl, H1, R6, H4, Mw, o6, o4, hb6⟩ := hrel
      have HCH := hideIt (choF_mem m1.tk (L.take j) x)
      by_cases hj : j < L.length
      · have j0 : (0 : Int) ≤ j := by omega
        have j1 : (j : Int) < (L.length : Int) := by omega
        have hbx : ∃ b, L[j]? = some b := ⟨L[j], List.getElem?_eq_getElem hj⟩
        obtain ⟨u, hbj⟩ := hbx
        have hown' := (H1.wrow hc).2
        rw [ev, HWL.out] at hown'
        have tj : wr.cell? ⟨g, j, none⟩ = some (.int .i64 (u : Int)) := by
          rcases ids_own hown' with ⟨h1, _⟩ | ⟨g', cap', h1, _, _, h4⟩
          · rw [h1] at hj; simp at hj
          · simp only [Value.slice.injEq, Option.some.injEq, Addr.mk.injEq] at h1
            have := h4 j u hbj
            rw [← h1.1.1] at this
            exact this
        have hu16 := (HW1.out u (List.mem_of_getElem? hbj)).1
        have HTK := hideIt (choF_take m1.tk L x j u hbj)
        have hy16 : choF m1.tk x (L.take j) < 16 := by
          rcases HCH.out with h | h
          · rw [h]; exact hx16
          · exact (HW1.out _ (List.mem_of_mem_take h)).1
        generalize choF m1.tk x (L.take j) = y at *
        have u0 : (0 : Int) ≤ u := by omega
        have u1 : (u : Int) < 16 := by omega
        have y0 : (0 : Int) ≤ y := by omega
        have y1 : (y : Int) < 16 := by omega
        have z0 := (H1.task hu16).2.2
        have z1 := (H1.task hy16).2.2
        have hax : ∃ bu bx : Int, bu = (m1.tk u).2.2 ∧ bx = (m1.tk y).2.2 := ⟨_, _, rfl, rfl⟩
        obtain ⟨bu, bx, eb1, eb2⟩ := hax
        rw [← eb1] at z0 HTK
        rw [← eb2] at z1 HTK
        clear eb1 eb2 hbj hown'
        go_upto_region 15 with fail
        refine wp_region_held_drew (S := (fun w' => w'.cell? ⟨D, 1 + u * 3 + 2, none⟩ = some (.int .i64 bu) ∧ w'.cell? ⟨D, 1 + y * 3 + 2, none⟩ = some (.int .i64 bx))) (by kernel_rfl) ⟨z0, z1⟩ (fun hHeld => ?_)
        refine wpAnyH_take (i := 0) (oi := { dst := some 65, op := Go.Op.move (Go.Operand.tmp 0), type := 26, pos := _, after := #[], guard := none }) (v := ?vv25) rfl (by kernel_rfl) (by kernel_rfl) (by kernel_rfl) (fun _ _ _ h => h) (Or.inl ⟨by rfl, ?hy25⟩) (by assumption) ?tk25
        case hy25 => (intro w hSw; (try dsimp only at hSw); go_simp; (try with_reducible rfl))
        try simp only [Act.put, List.setIfInBounds_toArray, List.set_cons_zero, List.set_cons_succ]
        refine wpAnyH_take (i := 1) (oi := { dst := some 66, op := Go.Op.move (Go.Operand.tmp 10), type := 35, pos := _, after := #[], guard := none }) (v := ?vv26) rfl (by kernel_rfl) (by kernel_rfl) (by kernel_rfl) (fun _ _ _ h => h) (Or.inl ⟨by rfl, ?hy26⟩) (by assumption) ?tk26
        case hy26 => (intro w hSw; (try dsimp only at hSw); go_simp; (try with_reducible rfl))
        try simp only [Act.put, List.setIfInBounds_toArray, List.set_cons_zero, List.set_cons_succ]
        refine wpAnyH_take (i := 2) (oi := { dst := some 67, op := Go.Op.nilCheck (Go.Operand.tmp 65), type := 0, pos := _, after := #[{ on := 0, ground := Go.Ground.data }], guard := none }) (v := ?vv27) rfl (by kernel_rfl) (by kernel_rfl) (by kernel_rfl) (fun _ _ _ h => h) (Or.inl ⟨by rfl, ?hy27⟩) (by assumption) ?tk27
        case hy27 => (intro w hSw; (try dsimp only at hSw); go_simp; (try with_reducible rfl))
        try simp only [Act.put, List.setIfInBounds_toArray, List.set_cons_zero, List.set_cons_succ]
        refine wpAnyH_take (i := 3) (oi := { dst := some 68, op := Go.Op.fieldAddr 135 (Go.Operand.tmp 67) 1, type := 0, pos := _, after := #[{ on := 2, ground := Go.Ground.data }], guard := none }) (v := ?vv28) rfl (by kernel_rfl) (by kernel_rfl) (by kernel_rfl) (fun _ _ _ h => h) (Or.inl ⟨by rfl, ?hy28⟩) (by assumption) ?tk28
        case hy28 => (intro w hSw; (try dsimp only at hSw); go_simp; (try with_reducible rfl))
        try simp only [Act.put, List.setIfInBounds_toArray, List.set_cons_zero, List.set_cons_succ]
        refine wpAnyH_take (i := 4) (oi := { dst := some 69, op := Go.Op.indexAddr 131 (Go.Operand.tmp 68) (Go.Operand.tmp 66), type := 0, pos := _, after := #[{ on := 3, ground := Go.Ground.data }, { on := 1, ground := Go.Ground.data }], guard := none }) (v := ?vv29) rfl (by kernel_rfl) (by kernel_rfl) (by kernel_rfl) (fun _ _ _ h => h) (Or.inl ⟨by rfl, ?hy29⟩) (by assumption) ?tk29
        case hy29 => (intro w hSw; (try dsimp only at hSw); go_simp; (try with_reducible rfl))
        try simp only [Act.put, List.setIfInBounds_toArray, List.set_cons_zero, List.set_cons_succ]
        refine wpAnyH_take (i := 5) (oi := { dst := some 70, op := Go.Op.fieldAddr 130 (Go.Operand.tmp 69) 2, type := 0, pos := _, after := #[{ on := 4, ground := Go.Ground.data }], guard := none }) (v := ?vv30) rfl (by kernel_rfl) (by kernel_rfl) (by kernel_rfl) (fun _ _ _ h => h) (Or.inl ⟨by rfl, ?hy30⟩) (by assumption) ?tk30
        case hy30 => (intro w hSw; (try dsimp only at hSw); go_simp; (try with_reducible rfl))
        try simp only [Act.put, List.setIfInBounds_toArray, List.set_cons_zero, List.set_cons_succ]
        refine wpAnyH_take (i := 6) (oi := { dst := some 71, op := Go.Op.load 3 (Go.Operand.tmp 70), type := 3, pos := _, after := #[{ on := 5, ground := Go.Ground.data }], guard := none }) (v := ?vv31) rfl (by kernel_rfl) (by kernel_rfl) (by kernel_rfl) (fun _ _ _ h => h) (Or.inl ⟨by rfl, ?hy31⟩) (by assumption) ?tk31
        case hy31 => (intro w hSw; (try dsimp only at hSw); go_simp; (try with_reducible rfl))
        try simp only [Act.put, List.setIfInBounds_toArray, List.set_cons_zero, List.set_cons_succ]
        refine wpAnyH_take (i := 7) (oi := { dst := some 72, op := Go.Op.move (Go.Operand.tmp 0), type := 26, pos := _, after := #[], guard := none }) (v := ?vv32) rfl (by kernel_rfl) (by kernel_rfl) (by kernel_rfl) (fun _ _ _ h => h) (Or.inl ⟨by rfl, ?hy32⟩) (by assumption) ?tk32
        case hy32 => (intro w hSw; (try dsimp only at hSw); go_simp; (try with_reducible rfl))
        try simp only [Act.put, List.setIfInBounds_toArray, List.set_cons_zero, List.set_cons_succ]
        refine wpAnyH_take (i := 8) (oi := { dst := some 73, op := Go.Op.move (Go.Operand.tmp 8), type := 35, pos := _, after := #[], guard := none }) (v := ?vv33) rfl (by kernel_rfl) (by kernel_rfl) (by kernel_rfl) (fun _ _ _ h => h) (Or.inl ⟨by rfl, ?hy33⟩) (by assumption) ?tk33
        case hy33 => (intro w hSw; (try dsimp only at hSw); go_simp; (try with_reducible rfl))
        try simp only [Act.put, List.setIfInBounds_toArray, List.set_cons_zero, List.set_cons_succ]
        refine wpAnyH_take (i := 9) (oi := { dst := some 74, op := Go.Op.nilCheck (Go.Operand.tmp 72), type := 0, pos := _, after := #[{ on := 7, ground := Go.Ground.data }], guard := none }) (v := ?vv34) rfl (by kernel_rfl) (by kernel_rfl) (by kernel_rfl) (fun _ _ _ h => h) (Or.inl ⟨by rfl, ?hy34⟩) (by assumption) ?tk34
        case hy34 => (intro w hSw; (try dsimp only at hSw); go_simp; (try with_reducible rfl))
        try simp only [Act.put, List.setIfInBounds_toArray, List.set_cons_zero, List.set_cons_succ]
        refine wpAnyH_take (i := 10) (oi := { dst := some 75, op := Go.Op.fieldAddr 135 (Go.Operand.tmp 74) 1, type := 0, pos := _, after := #[{ on := 9, ground := Go.Ground.data }], guard := none }) (v := ?vv35) rfl (by kernel_rfl) (by kernel_rfl) (by kernel_rfl) (fun _ _ _ h => h) (Or.inl ⟨by rfl, ?hy35⟩) (by assumption) ?tk35
        case hy35 => (intro w hSw; (try dsimp only at hSw); go_simp; (try with_reducible rfl))
        try simp only [Act.put, List.setIfInBounds_toArray, List.set_cons_zero, List.set_cons_succ]
        refine wpAnyH_take (i := 11) (oi := { dst := some 76, op := Go.Op.indexAddr 131 (Go.Operand.tmp 75) (Go.Operand.tmp 73), type := 0, pos := _, after := #[{ on := 10, ground := Go.Ground.data }, { on := 8, ground := Go.Ground.data }], guard := none }) (v := ?vv36) rfl (by kernel_rfl) (by kernel_rfl) (by kernel_rfl) (fun _ _ _ h => h) (Or.inl ⟨by rfl, ?hy36⟩) (by assumption) ?tk36
        case hy36 => (intro w hSw; (try dsimp only at hSw); go_simp; (try with_reducible rfl))
        try simp only [Act.put, List.setIfInBounds_toArray, List.set_cons_zero, List.set_cons_succ]
        refine wpAnyH_take (i := 12) (oi := { dst := some 77, op := Go.Op.fieldAddr 130 (Go.Operand.tmp 76) 2, type := 0, pos := _, after := #[{ on := 11, ground := Go.Ground.data }], guard := none }) (v := ?vv37) rfl (by kernel_rfl) (by kernel_rfl) (by kernel_rfl) (fun _ _ _ h => h) (Or.inl ⟨by rfl, ?hy37⟩) (by assumption) ?tk37
        case hy37 => (intro w hSw; (try dsimp only at hSw); go_simp; (try with_reducible rfl))
        try simp only [Act.put, List.setIfInBounds_toArray, List.set_cons_zero, List.set_cons_succ]
        refine wpAnyH_take (i := 13) (oi := { dst := some 78, op := Go.Op.load 3 (Go.Operand.tmp 77), type := 3, pos := _, after := #[{ on := 12, ground := Go.Ground.data }], guard := none }) (v := ?vv38) rfl (by kernel_rfl) (by kernel_rfl) (by kernel_rfl) (fun _ _ _ h => h) (Or.inl ⟨by rfl, ?hy38⟩) (by assumption) ?tk38
        case hy38 => (intro w hSw; (try dsimp only at hSw); go_simp; (try with_reducible rfl))
        try simp only [Act.put, List.setIfInBounds_toArray, List.set_cons_zero, List.set_cons_succ]
        refine wpAnyH_take (i := 14) (oi := { dst := some 79, op := Go.Op.binOp Go.BinOp.lss 3 (Go.Operand.tmp 71) (Go.Operand.tmp 78) 3, type := 4, pos := _, after := #[{ on := 6, ground := Go.Ground.data }, { on := 13, ground := Go.Ground.data }], guard := none }) (v := ?vv39) rfl (by kernel_rfl) (by kernel_rfl) (by kernel_rfl) (fun _ _ _ h => h) (Or.inl ⟨by rfl, ?hy39⟩) (by assumption) ?tk39
        case hy39 => (intro w hSw; (try dsimp only at hSw); go_simp; (try with_reducible rfl))
        try simp only [Act.put, List.setIfInBounds_toArray, List.set_cons_zero, List.set_cons_succ]
        refine wpAnyH_done (by kernel_rfl) ?_ _
        have F' : MdlAt wr.drew D base V1 m1 ∧ RowR wr.drew b6 (resCs 0 (c : Int) (-1) 0 false msg0 none 0 0) ∧ (∃ c4, RowR wr.drew w.heap.size c4 ∧ c4.size = 15) ∧ MW D V V1 w wr.drew ∧ Off V1 b6 ∧ Off V1 w.heap.size ∧ (w.heap.size < b6 ∧ base ≤ wr.drew.heap.size) := ⟨H1.drew, R6.blk rfl, H4.imp (fun c4 h => ⟨h.1.blk rfl, h.2⟩), Mw.below (below_dr (Below.refl _ _)), o6, o4, hb6⟩
        by_cases hlt : bu < bx
        · have HT2 : Hid (choF m1.tk x (L.take (j + 1)) = u) := hideIt (by rw [HTK.out, if_pos hlt])
          clear HTK
          go_wp2
          go_roundg (L.length - (j + 1))
          case measure => omega
          case rel => exact ⟨j + 1, by omega, by go_num, by rw [HT2.out], F'⟩
        · have HT2 : Hid (choF m1.tk x (L.take (j + 1)) = y) := hideIt (by rw [HTK.out, if_neg hlt])
          clear HTK
          go_wp2
          go_roundg (L.length - (j + 1))
          case measure => omega
          case rel => exact ⟨j + 1, by omega, by go_num, by rw [HT2.out], F'⟩
      · have e : j = L.length := by omega
        subst e
        rw [List.take_length]
        have hX16 : choF m1.tk x L < 16 ∧ (m1.tk (choF m1.tk x L)).2.1 = c := by
          have hxL : x ∈ L := by rw [← HLL.out]; simp
          have := HCH.out
          rw [List.take_length] at this
          rcases this with h | h
          · rw [h]; exact HW1.out x hxL
          · exact HW1.out _ h
        have HPX : Hid (m.pick c was = ⟨0, (choF m1.tk x L : Nat), ((m1.leave (choF m1.tk x L) c).setTk (choF m1.tk x L) (3, (m1.tk (choF m1.tk x L)).2.1, (m1.tk (choF m1.tk x L)).2.2)).inc (c * 7)⟩) := hideIt (by
          have := HP.out
          rw [← HLL.out] at this ⊢
          exact this)
        clear HCH HP
        generalize choF m1.tk x L = X at *
        obtain ⟨hX, hXh⟩ := hX16
        have X0 : (0 : Int) ≤ X := by omega
        have X1 : (X : Int) < 16 := by omega
        have hle := leave_any H1 hX hc hXh (by rw [HWL.out]; omega)
        have hl6 := R6.lt
        go_upto_region 18 with fail
        go_cut [] (fun wd => ∃ V2, MdlAt wd D base V2 (m1.leave X c) ∧ RowR wd b6 (resCs 0 (c : Int) (-1) 0 false msg0 none 0 0) ∧ (∃ c4, RowR wd w.heap.size c4 ∧ c4.size = 15) ∧ MW D V V2 w wd ∧ Off V2 b6 ∧ Off V2 w.heap.size ∧ (w.heap.size < b6 ∧ base ≤ wd.heap.size))
        case first =>
          go_wp2_with fail
          refine hle.mono ?_
          rintro e w5 ⟨V2, rfl, H5, F5⟩
          have HQ : Hid (MdlAt w5 D base V2 (m1.leave X c) ∧ RowR w5 b6 (resCs 0 (c : Int) (-1) 0 false msg0 none 0 0) ∧ (∃ c4, RowR w5 w.heap.size c4 ∧ c4.size = 15) ∧ MW D V V2 w w5 ∧ Off V2 b6 ∧ Off V2 w.heap.size ∧ (w.heap.size < b6 ∧ base ≤ w5.heap.size)) := hideIt (by
            obtain ⟨c4, R4, hc4⟩ := H4
            exact ⟨H5, R6.blk (F5.keep o6 hl6 n6D), ⟨c4, R4.blk (F5.keep o4 R4.lt n4D), hc4⟩, Mw.then F5, F5.off o6 hl6, F5.off o4 R4.lt, hb6.1, Nat.le_trans hb6.2 F5.size⟩)
          clear H5 F5 hle
          go_wp2
          go_meet
          case rel => exact ⟨V2, HQ.out⟩
        case rest =>
        clear H1 R6 H4 Mw o6 o4 hb6 hle hl6 ev hgb
        obtain ⟨V2, H1, R6, H4, Mw, o6, o4, hb6⟩ := hcut
        have q0 := (H1.task hX).1
        have fz := H1.fz
        go_upto_region 19 with fail
        go_cut [] (fun wd => MdlAt wd D base V2 ((m1.leave X c).setTk X (3, ((m1.leave X c).tk X).2.1, ((m1.leave X c).tk X).2.2)) ∧ RowR wd b6 (resCs 0 (c : Int) (-1) 0 false msg0 none 0 0) ∧ (∃ c4, RowR wd w.heap.size c4 ∧ c4.size = 15) ∧ MW D V V2 w wd ∧ Off V2 b6 ∧ Off V2 w.heap.size ∧ (w.heap.size < b6 ∧ base ≤ wd.heap.size))
        case first =>
          obtain ⟨H8, F8⟩ := H1.putSt hX 3
          have hl6 := R6.lt
          go_wp2
          go_meet
          case rel =>
            obtain ⟨c4, R4, hc4⟩ := H4
            exact ⟨H8, R6.blk (far_set n6D), ⟨c4, R4.blk (far_set n4D), hc4⟩, Mw.then F8, o6, o4, hb6.1, Nat.le_trans hb6.2 F8.size⟩
        case rest =>
        clear H1 R6 H4 Mw o6 o4 hb6 q0 fz
        obtain ⟨H1, R6, H4, Mw, o6, o4, hb6⟩ := hcut
        obtain ⟨m3, hm3⟩ : ∃ m3, m3 = (m1.leave X c).setTk X (3, ((m1.leave X c).tk X).2.1, ((m1.leave X c).tk X).2.2) := ⟨_, rfl⟩
        rw [← hm3] at H1
        have HM3 := hideIt hm3
        clear hm3
        have s0 := H1.stc (j := c * 7) (by omega)
        have hsx : ∃ sv, sv = m3.st (c * 7) := ⟨_, rfl⟩
        obtain ⟨sv, hsv⟩ := hsx
        rw [← hsv] at s0
        have HSV := hideIt hsv
        clear hsv
        have fz := H1.fz
        go_upto_region 20 with fail
        go_cut [] (fun wd => MdlAt wd D base V2 (m3.inc (c * 7)) ∧ RowR wd b6 (resCs 0 (c : Int) (-1) 0 false msg0 none 0 0) ∧ (∃ c4, RowR wd w.heap.size c4 ∧ c4.size = 15) ∧ MW D V V2 w wd ∧ Off V2 b6 ∧ Off V2 w.heap.size ∧ (w.heap.size < b6 ∧ base ≤ wd.heap.size))
        case first =>
          refine wp_region_l (l := 12) (S := (fun w' => w'.cell? ⟨D, 87 + c * 7, none⟩ = some (.int .u64 sv))) (by kernel_rfl) s0 (fun hHeld => ?_)
          refine AnyL.take2 (i := 0) (oi := { dst := some 91, op := Go.Op.move (Go.Operand.tmp 0), type := 26, pos := _, after := #[], guard := none }) (v := ?vv13) (by kernel_rfl) (by kernel_rfl) rfl (by kernel_rfl) (by kernel_rfl) (by kernel_rfl) (fun _ _ _ h => h) (Or.inl ⟨by rfl, ?hy13⟩) (by assumption) ?tk13
          case hy13 => (intro w hSw; (try dsimp only at hSw); go_simp; (try with_reducible rfl))
          try simp only [Act.put, List.setIfInBounds_toArray, List.set_cons_zero, List.set_cons_succ]
          refine AnyL.take2 (i := 1) (oi := { dst := some 92, op := Go.Op.move (Go.Operand.tmp 5), type := 34, pos := _, after := #[], guard := none }) (v := ?vv14) (by kernel_rfl) (by kernel_rfl) rfl (by kernel_rfl) (by kernel_rfl) (by kernel_rfl) (fun _ _ _ h => h) (Or.inl ⟨by rfl, ?hy14⟩) (by assumption) ?tk14
          case hy14 => (intro w hSw; (try dsimp only at hSw); go_simp; (try with_reducible rfl))
          try simp only [Act.put, List.setIfInBounds_toArray, List.set_cons_zero, List.set_cons_succ]
          refine AnyL.take2 (i := 2) (oi := { dst := some 93, op := Go.Op.nilCheck (Go.Operand.tmp 91), type := 0, pos := _, after := #[{ on := 0, ground := Go.Ground.data }], guard := none }) (v := ?vv15) (by kernel_rfl) (by kernel_rfl) rfl (by kernel_rfl) (by kernel_rfl) (by kernel_rfl) (fun _ _ _ h => h) (Or.inl ⟨by rfl, ?hy15⟩) (by assumption) ?tk15
          case hy15 => (intro w hSw; (try dsimp only at hSw); go_simp; (try with_reducible rfl))
          try simp only [Act.put, List.setIfInBounds_toArray, List.set_cons_zero, List.set_cons_succ]
          refine AnyL.take2 (i := 3) (oi := { dst := some 94, op := Go.Op.fieldAddr 135 (Go.Operand.tmp 93) 7, type := 0, pos := _, after := #[{ on := 2, ground := Go.Ground.data }], guard := none }) (v := ?vv16) (by kernel_rfl) (by kernel_rfl) rfl (by kernel_rfl) (by kernel_rfl) (by kernel_rfl) (fun _ _ _ h => h) (Or.inl ⟨by rfl, ?hy16⟩) (by assumption) ?tk16
          case hy16 => (intro w hSw; (try dsimp only at hSw); go_simp; (try with_reducible rfl))
          try simp only [Act.put, List.setIfInBounds_toArray, List.set_cons_zero, List.set_cons_succ]
          refine AnyL.take2 (i := 4) (oi := { dst := some 95, op := Go.Op.indexAddr 133 (Go.Operand.tmp 94) (Go.Operand.tmp 92), type := 0, pos := _, after := #[{ on := 3, ground := Go.Ground.data }, { on := 1, ground := Go.Ground.data }], guard := none }) (v := ?vv17) (by kernel_rfl) (by kernel_rfl) rfl (by kernel_rfl) (by kernel_rfl) (by kernel_rfl) (fun _ _ _ h => h) (Or.inl ⟨by rfl, ?hy17⟩) (by assumption) ?tk17
          case hy17 => (intro w hSw; (try dsimp only at hSw); go_simp; (try with_reducible rfl))
          try simp only [Act.put, List.setIfInBounds_toArray, List.set_cons_zero, List.set_cons_succ]
          refine AnyL.take2 (i := 5) (oi := { dst := some 96, op := Go.Op.fieldAddr 52 (Go.Operand.tmp 95) 0, type := 0, pos := _, after := #[{ on := 4, ground := Go.Ground.data }], guard := none }) (v := ?vv18) (by kernel_rfl) (by kernel_rfl) rfl (by kernel_rfl) (by kernel_rfl) (by kernel_rfl) (fun _ _ _ h => h) (Or.inl ⟨by rfl, ?hy18⟩) (by assumption) ?tk18
          case hy18 => (intro w hSw; (try dsimp only at hSw); go_simp; (try with_reducible rfl))
          try simp only [Act.put, List.setIfInBounds_toArray, List.set_cons_zero, List.set_cons_succ]
          refine AnyL.take2 (i := 6) (oi := { dst := some 97, op := Go.Op.load 28 (Go.Operand.tmp 96), type := 28, pos := _, after := #[{ on := 5, ground := Go.Ground.data }], guard := none }) (v := ?vv19) (by kernel_rfl) (by kernel_rfl) rfl (by kernel_rfl) (by kernel_rfl) (by kernel_rfl) (fun _ _ _ h => h) (Or.inl ⟨by rfl, ?hy19⟩) (by assumption) ?tk19
          case hy19 => (intro w hSw; (try dsimp only at hSw); go_simp; (try with_reducible rfl))
          try simp only [Act.put, List.setIfInBounds_toArray, List.set_cons_zero, List.set_cons_succ]
          refine AnyL.take2 (i := 7) (oi := { dst := some 98, op := Go.Op.binOp Go.BinOp.add 28 (Go.Operand.tmp 97) (Go.Operand.const (Go.Value.int Go.IntKind.u64 1)) 28, type := 28, pos := _, after := #[{ on := 6, ground := Go.Ground.data }], guard := none }) (v := ?vv20) (by kernel_rfl) (by kernel_rfl) rfl (by kernel_rfl) (by kernel_rfl) (by kernel_rfl) (fun _ _ _ h => h) (Or.inl ⟨by rfl, ?hy20⟩) (by assumption) ?tk20
          case hy20 => (intro w hSw; (try dsimp only at hSw); go_simp; (try with_reducible rfl))
          try simp only [Act.put, List.setIfInBounds_toArray, List.set_cons_zero, List.set_cons_succ]
          refine AnyL.take2 (i := 8) (oi := { dst := some 99, op := Go.Op.nilCheck (Go.Operand.tmp 91), type := 0, pos := _, after := #[{ on := 0, ground := Go.Ground.data }], guard := none }) (v := ?vv21) (by kernel_rfl) (by kernel_rfl) rfl (by kernel_rfl) (by kernel_rfl) (by kernel_rfl) (fun _ _ _ h => h) (Or.inl ⟨by rfl, ?hy21⟩) (by assumption) ?tk21
          case hy21 => (intro w hSw; (try dsimp only at hSw); go_simp; (try with_reducible rfl))
          try simp only [Act.put, List.setIfInBounds_toArray, List.set_cons_zero, List.set_cons_succ]
          refine AnyL.take2 (i := 9) (oi := { dst := some 100, op := Go.Op.fieldAddr 135 (Go.Operand.tmp 99) 7, type := 0, pos := _, after := #[{ on := 8, ground := Go.Ground.data }], guard := none }) (v := ?vv22) (by kernel_rfl) (by kernel_rfl) rfl (by kernel_rfl) (by kernel_rfl) (by kernel_rfl) (fun _ _ _ h => h) (Or.inl ⟨by rfl, ?hy22⟩) (by assumption) ?tk22
          case hy22 => (intro w hSw; (try dsimp only at hSw); go_simp; (try with_reducible rfl))
          try simp only [Act.put, List.setIfInBounds_toArray, List.set_cons_zero, List.set_cons_succ]
          refine AnyL.take2 (i := 10) (oi := { dst := some 101, op := Go.Op.indexAddr 133 (Go.Operand.tmp 100) (Go.Operand.tmp 92), type := 0, pos := _, after := #[{ on := 9, ground := Go.Ground.data }, { on := 1, ground := Go.Ground.data }, { on := 0, ground := Go.Ground.phase }, { on := 1, ground := Go.Ground.phase }, { on := 2, ground := Go.Ground.phase }, { on := 3, ground := Go.Ground.phase }, { on := 4, ground := Go.Ground.phase }, { on := 5, ground := Go.Ground.phase }, { on := 6, ground := Go.Ground.phase }, { on := 7, ground := Go.Ground.phase }], guard := none }) (v := ?vv23) (by kernel_rfl) (by kernel_rfl) rfl (by kernel_rfl) (by kernel_rfl) (by kernel_rfl) (fun _ _ _ h => h) (Or.inl ⟨by rfl, ?hy23⟩) (by assumption) ?tk23
          case hy23 => (intro w hSw; (try dsimp only at hSw); go_simp; (try with_reducible rfl))
          try simp only [Act.put, List.setIfInBounds_toArray, List.set_cons_zero, List.set_cons_succ]
          refine AnyL.take2 (i := 11) (oi := { dst := some 102, op := Go.Op.fieldAddr 52 (Go.Operand.tmp 101) 0, type := 0, pos := _, after := #[{ on := 10, ground := Go.Ground.data }, { on := 0, ground := Go.Ground.phase }, { on := 1, ground := Go.Ground.phase }, { on := 2, ground := Go.Ground.phase }, { on := 3, ground := Go.Ground.phase }, { on := 4, ground := Go.Ground.phase }, { on := 5, ground := Go.Ground.phase }, { on := 6, ground := Go.Ground.phase }, { on := 7, ground := Go.Ground.phase }], guard := none }) (v := ?vv24) (by kernel_rfl) (by kernel_rfl) rfl (by kernel_rfl) (by kernel_rfl) (by kernel_rfl) (fun _ _ _ h => h) (Or.inl ⟨by rfl, ?hy24⟩) (by assumption) ?tk24
          case hy24 => (intro w hSw; (try dsimp only at hSw); go_simp; (try with_reducible rfl))
          try simp only [Act.put, List.setIfInBounds_toArray, List.set_cons_zero, List.set_cons_succ]
          refine AnyL.last (o := { dst := none, op := Go.Op.store 28 (Go.Operand.tmp 102) (Go.Operand.tmp 98), type := 0, pos := _, after := #[{ on := 11, ground := Go.Ground.data }, { on := 7, ground := Go.Ground.data }, { on := 0, ground := Go.Ground.phase }, { on := 1, ground := Go.Ground.phase }, { on := 2, ground := Go.Ground.phase }, { on := 3, ground := Go.Ground.phase }, { on := 4, ground := Go.Ground.phase }, { on := 5, ground := Go.Ground.phase }, { on := 6, ground := Go.Ground.phase }, { on := 7, ground := Go.Ground.phase }], guard := none }) (by kernel_rfl) rfl (by kernel_rfl) (fun K' hK' => ?_)
          go_simp
          clear hHeld
          refine hK'.out _ _ ?_
          clear hK' K'
          try simp only [Act.put, List.setIfInBounds_toArray, List.set_cons_zero, List.set_cons_succ]
          go_wp2
          go_meet
          case rel =>
            obtain ⟨H8, F8⟩ := H1.drew.putStat (j := c * 7) (by omega) (inc64 sv)
            unfold Mdl.inc
            rw [← HSV.out]
            obtain ⟨c4, R4, hc4⟩ := H4
            exact ⟨H8, R6.blk (far_set n6D), ⟨c4, R4.blk (far_set n4D), hc4⟩, (Mw.below (below_dr (Below.refl _ _))).then F8, o6, o4, hb6.1, Nat.le_trans hb6.2 F8.size⟩
        case rest =>
        clear H1 R6 H4 Mw o6 o4 hb6 s0 fz
        obtain ⟨H1, R6, H4, Mw, o6, o4, hb6⟩ := hcut
        have q2 := R6.cell (j := 2) rfl
        have fz6 := R6.fz
        go_upto_region 21 with fail
        go_cut [] (fun wd => MdlAt wd D base V2 (m3.inc (c * 7)) ∧ RowR wd b6 (resCs 0 (c : Int) ((X : Nat) : Int) 0 false msg0 none 0 0) ∧ (∃ c4, RowR wd w.heap.size c4 ∧ c4.size = 15) ∧ MW D V V2 w wd ∧ Off V2 b6 ∧ Off V2 w.heap.size ∧ (w.heap.size < b6 ∧ base ≤ wd.heap.size))
        case first =>
          go_wp2
          go_meet
          case rel =>
            obtain ⟨c4, R4, hc4⟩ := H4
            exact ⟨H1.other n6D o6, R6.set, ⟨c4, R4.blk (far_set (by omega)), hc4⟩, Mw.set (by omega), o6, o4, hb6.1, by simpa using hb6.2⟩
        case rest =>
        clear H1 R6 H4 Mw o6 o4 hb6 q2 fz6
        obtain ⟨H1, R6, H4, Mw, o6, o4, hb6⟩ := hcut
        obtain ⟨c4, R4, hc4⟩ := H4
        have hl43 := R6.load rfl
        have hs43 := R4.store hc4 (cs := (resCs 0 (c : Int) ((X : Nat) : Int) 0 false msg0 none 0 0)) rfl (resCs_one _ _ _ _ _ _ _ _ _)
        go_upto_region 22 with fail
        go_wp2_with (first | (refine wpList_load_row rfl (.tmp 6) 43 rfl ⟨b6, 0, none⟩ (.agg (resCs 0 (c : Int) ((X : Nat) : Int) 0 false msg0 none 0 0)) rfl hl43 ?_) | (refine wpList_store_row rfl (.tmp 4) (.tmp 105) 43 rfl ⟨w.heap.size, 0, none⟩ (.agg (resCs 0 (c : Int) ((X : Nat) : Int) 0 false msg0 none 0 0)) rfl rfl hs43 ?_) | go_in)
        refine bodyPost_ret (v := .agg (resCs 0 (c : Int) ((X : Nat) : Int) 0 false msg0 none 0 0)) (results_cell_row rfl _ _ w.heap.size 43 _ (0, 0) _ rfl R4.row Tryz.underlying43 rfl sz43) rfl ⟨V2, was, HR.out, ?_, ?_, ?_⟩
        · rw [HPX.out]
        · rw [HPX.out]
          have e3 : (m1.leave X c).setTk X (3, (m1.tk X).2.1, (m1.tk X).2.2) = m3 := HM3.out.symm
          rw [e3]
          exact H1.otherRow n4D o4
        · exact (Mw.row (Nat.le_refl _)).fr
end Go.Proofs.Qxb6500877aGreatDoor
