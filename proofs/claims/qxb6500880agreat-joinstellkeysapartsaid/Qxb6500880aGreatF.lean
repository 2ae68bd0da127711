import Derived.Deep.CutBlock
import Derived.OwnWalk
import Derived.Maps.AppendAt
import Derived.Laws.AppendOwnNone
import Derived.Test.Qxb6500880aGreatFa
set_option linter.unusedVariables false
set_option linter.unusedSimpArgs false
namespace Go.Proofs.Qxb6500880aGreat
open Go.RowKit

/-- Behind the look at the table's size. -/
structure Ins1 (w w1 : World) (b : Nat) (nm : ByteArray) (s : RelS) (d : Nat → Nat) (M : Nat) (f : Nat → Nat) (sv : Value) : Prop where
  T : RelT w1 b nm { s with slots := sv } d M s.rows f
  od : w1.ownsRow 0 109 1 s.data (s.rows * s.A) (symL d (s.rows * s.A))
  ow : ∃ ys, w1.ownsRow 0 21 1 s.why s.rows ys
  W : Ws (fpR b s) w w1
  d1 : s.data.ownBlock ≠ some b ∧ sv.ownBlock ≠ some b ∧ s.why.ownBlock ≠ some b
  d2 : ∀ q, s.data.ownBlock = some q → sv.ownBlock ≠ some q ∧ s.why.ownBlock ≠ some q
  d3 : ∀ q, sv.ownBlock = some q → s.why.ownBlock ≠ some q
  fpS : ∀ {q}, sv.ownBlock = some q → s.slots.ownBlock = some q ∨ w.heap.size ≤ q
  m16 : 16 ≤ M
  fit : 4 * (s.rows + 1) ≤ 3 * M
  big : M ≤ 16 ∨ 3 * M ≤ 8 * (s.rows + 1)
  pw : ∃ x, M = 2 ^ x
theorem Ins1.below {w w1 w2 : World} {b : Nat} {nm : ByteArray} {s : RelS} {d : Nat → Nat} {M : Nat} {f : Nat → Nat} {sv : Value} (h : Ins1 w w1 b nm s d M f sv) (hb : Below w1.heap.size w1 w2) : Ins1 w w2 b nm s d M f sv :=
  ⟨⟨h.T.at'.below hb, h.T.data.below hb, h.T.slot.below (by have := h.m16; omega) hb, h.T.tbl, h.T.hk, h.T.pw, h.T.a0, h.T.a1, h.T.r1, h.T.val⟩, own_keep h.od (fun q _ hl => hb.block q hl), by obtain ⟨ys, o⟩ := h.ow; exact ⟨ys, own_keep o (fun q _ hl => hb.block q hl)⟩, h.W.below hb, h.d1, h.d2, h.d3, h.fpS, h.m16, h.fit, h.big, h.pw⟩
theorem Ins1.fp {w w1 : World} {b : Nat} {nm : ByteArray} {s : RelS} {d : Nat → Nat} {M : Nat} {f : Nat → Nat} {sv : Value} (h : Ins1 w w1 b nm s d M f sv) {q : Nat} (hq : fpR b { s with slots := sv } q) : fpR b s q ∨ w.heap.size ≤ q := by
  rcases hq with z | z | z | z
  · exact .inl (.inl z)
  · exact .inl (.inr (.inl z))
  · rcases h.fpS z with y | y
    · exact .inl (.inr (.inr (.inl y)))
    · exact .inr y
  · exact .inl (.inr (.inr (.inr z)))
theorem Ins1.rel {w w1 : World} {b : Nat} {nm : ByteArray} {s : RelS} {d : Nat → Nat} {M N : Nat} {f f0 : Nat → Nat} {sv : Value} (h : Ins1 w w1 b nm s d M f sv) (R : RelO w b nm s d N f0) : RelO w1 b nm { s with slots := sv } d M f :=
  ⟨h.T.at', h.od, h.ow, .inr ⟨h.m16, h.T.slot, h.T.tbl⟩, by have := h.fit; show 4 * s.rows ≤ 3 * M; omega, h.big, .inr h.pw, R.dist, h.d1, h.d2, h.d3, R.a0, R.a1, R.val⟩
set_option maxRecDepth 20000 in
set_option maxHeartbeats 8000000 in
theorem insert_any {w : World} {b N : Nat} {nm : ByteArray} {s : RelS} {d f r : Nat → Nat} {v : Value} (R : RelO w b nm s d N f) (HR : SymR w v s.A r) (hr : ∀ j, j < s.A → r j < 64) (hvb : ∀ q, v.ownBlock = some q → ¬ fpR b s q) (hrow : s.rows < 500) (pr : Int) :
    Calls Tryz.prog 33 #[.pointer (some ⟨b, 0, none⟩), v, .int .i32 pr] w fun e w' => ∃ s' d' N' f' x, e = .returned (.bool x) ∧ RelO w' b nm s' d' N' f' ∧ InsOut s s' d d' r x ∧ Ws (fpR b s) w w' ∧ ∀ q, fpR b s' q → fpR b s q ∨ w.heap.size ≤ q := by
  obtain ⟨i9, hi9, hx0, hx1, hx2⟩ := info_parts info109
  obtain ⟨i2, hi2, hy0, hy1, hy2⟩ := info_parts info21
  have h4 := R.at'.ro
  have h5 := R.at'.sl
  have HT0 := hideIt R
  have HR := hideIt HR
  have HRV := hideIt hr
  have HVB := hideIt hvb
  have HR1K := hideIt (show s.rows ≤ 1000 by omega)
  obtain ⟨psl, csl, hsl⟩ : ∃ p c, s.slots = .slice p N c := by
    rcases R.tab with ⟨z, e, _⟩ | ⟨_, h2, _⟩
    · exact ⟨none, 0, by rw [e, z]⟩
    · obtain ⟨g, e, _⟩ := h2
      exact ⟨_, _, e⟩
  rw [hsl] at h5
  have hNb : N ≤ 2000 := by have := R.big; omega
  have HSL := hideIt hsl
  have hw1 : IntKind.i64.wrap ((s.rows : Int) + 1) = (s.rows : Int) + 1 := by rw [IntKind.wrap_i64]; omega
  have hw2 : IntKind.i64.wrap (4 * ((s.rows : Int) + 1)) = 4 * ((s.rows : Int) + 1) := by rw [IntKind.wrap_i64]; omega
  have hw3 : IntKind.i64.wrap (3 * (N : Int)) = 3 * (N : Int) := by rw [IntKind.wrap_i64]; omega
  obtain ⟨pv, cv0, hvv, _⟩ := HR.out
  subst hvv
  clear hsl hr hvb R
  go_enter Tryz.func33, Tryz.ntmps33
  go_upto_region 1 with fail
  refine wp_region_held_drew (S := (fun w' => w'.cell? ⟨b, 4, none⟩ = some (.int .i64 (s.rows : Int)) ∧ w'.cell? ⟨b, 5, none⟩ = some (.slice psl N csl))) (by kernel_rfl) ⟨h4, h5⟩ (fun hHeld => ?_)
  refine wpAnyH_take (i := 0) (oi := { dst := some 9, op := Go.Op.move (Go.Operand.tmp 0), type := 99, pos := _, after := #[], guard := none }) (v := ?vv4001) rfl (by kernel_rfl) (by kernel_rfl) (by kernel_rfl) (fun _ _ _ h => h) (Or.inl ⟨by rfl, ?hy4001⟩) (by assumption) ?tk4001
  case hy4001 => (intro w hSw; (try dsimp only at hSw); go_simp; (try with_reducible rfl))
  try simp only [Act.put, List.setIfInBounds_toArray, List.set_cons_zero, List.set_cons_succ]
  refine wpAnyH_take (i := 1) (oi := { dst := some 10, op := Go.Op.nilCheck (Go.Operand.tmp 9), type := 0, pos := _, after := #[{ on := 0, ground := Go.Ground.data }], guard := none }) (v := ?vv4002) rfl (by kernel_rfl) (by kernel_rfl) (by kernel_rfl) (fun _ _ _ h => h) (Or.inl ⟨by rfl, ?hy4002⟩) (by assumption) ?tk4002
  case hy4002 => (intro w hSw; (try dsimp only at hSw); go_simp; (try with_reducible rfl))
  try simp only [Act.put, List.setIfInBounds_toArray, List.set_cons_zero, List.set_cons_succ]
  refine wpAnyH_take (i := 2) (oi := { dst := some 11, op := Go.Op.fieldAddr 98 (Go.Operand.tmp 10) 4, type := 0, pos := _, after := #[{ on := 1, ground := Go.Ground.data }], guard := none }) (v := ?vv4003) rfl (by kernel_rfl) (by kernel_rfl) (by kernel_rfl) (fun _ _ _ h => h) (Or.inl ⟨by rfl, ?hy4003⟩) (by assumption) ?tk4003
  case hy4003 => (intro w hSw; (try dsimp only at hSw); go_simp; (try with_reducible rfl))
  try simp only [Act.put, List.setIfInBounds_toArray, List.set_cons_zero, List.set_cons_succ]
  refine wpAnyH_take (i := 3) (oi := { dst := some 12, op := Go.Op.load 3 (Go.Operand.tmp 11), type := 3, pos := _, after := #[{ on := 2, ground := Go.Ground.data }], guard := none }) (v := ?vv4004) rfl (by kernel_rfl) (by kernel_rfl) (by kernel_rfl) (fun _ _ _ h => h) (Or.inl ⟨by rfl, ?hy4004⟩) (by assumption) ?tk4004
  case hy4004 => (intro w hSw; (try dsimp only at hSw); go_simp; (try with_reducible rfl))
  try simp only [Act.put, List.setIfInBounds_toArray, List.set_cons_zero, List.set_cons_succ]
  refine wpAnyH_take (i := 4) (oi := { dst := some 13, op := Go.Op.binOp Go.BinOp.add 3 (Go.Operand.tmp 12) (Go.Operand.const (Go.Value.int Go.IntKind.i64 1)) 3, type := 3, pos := _, after := #[{ on := 3, ground := Go.Ground.data }], guard := none }) (v := ?vv4005) rfl (by kernel_rfl) (by kernel_rfl) (by kernel_rfl) (fun _ _ _ h => h) (Or.inl ⟨by rfl, ?hy4005⟩) (by assumption) ?tk4005
  case hy4005 => (intro w hSw; (try dsimp only at hSw); go_simp; (try with_reducible rfl))
  try simp only [Act.put, List.setIfInBounds_toArray, List.set_cons_zero, List.set_cons_succ]
  refine wpAnyH_take (i := 5) (oi := { dst := some 14, op := Go.Op.binOp Go.BinOp.mul 3 (Go.Operand.const (Go.Value.int Go.IntKind.i64 4)) (Go.Operand.tmp 13) 3, type := 3, pos := _, after := #[{ on := 4, ground := Go.Ground.data }], guard := none }) (v := ?vv4006) rfl (by kernel_rfl) (by kernel_rfl) (by kernel_rfl) (fun _ _ _ h => h) (Or.inl ⟨by rfl, ?hy4006⟩) (by assumption) ?tk4006
  case hy4006 => (intro w hSw; (try dsimp only at hSw); go_simp; (try with_reducible rfl))
  try simp only [Act.put, List.setIfInBounds_toArray, List.set_cons_zero, List.set_cons_succ]
  refine wpAnyH_take (i := 6) (oi := { dst := some 15, op := Go.Op.move (Go.Operand.tmp 0), type := 99, pos := _, after := #[], guard := none }) (v := ?vv4007) rfl (by kernel_rfl) (by kernel_rfl) (by kernel_rfl) (fun _ _ _ h => h) (Or.inl ⟨by rfl, ?hy4007⟩) (by assumption) ?tk4007
  case hy4007 => (intro w hSw; (try dsimp only at hSw); go_simp; (try with_reducible rfl))
  try simp only [Act.put, List.setIfInBounds_toArray, List.set_cons_zero, List.set_cons_succ]
  refine wpAnyH_take (i := 7) (oi := { dst := some 16, op := Go.Op.nilCheck (Go.Operand.tmp 15), type := 0, pos := _, after := #[{ on := 6, ground := Go.Ground.data }], guard := none }) (v := ?vv4008) rfl (by kernel_rfl) (by kernel_rfl) (by kernel_rfl) (fun _ _ _ h => h) (Or.inl ⟨by rfl, ?hy4008⟩) (by assumption) ?tk4008
  case hy4008 => (intro w hSw; (try dsimp only at hSw); go_simp; (try with_reducible rfl))
  try simp only [Act.put, List.setIfInBounds_toArray, List.set_cons_zero, List.set_cons_succ]
  refine wpAnyH_take (i := 8) (oi := { dst := some 17, op := Go.Op.fieldAddr 98 (Go.Operand.tmp 16) 5, type := 0, pos := _, after := #[{ on := 7, ground := Go.Ground.data }], guard := none }) (v := ?vv4009) rfl (by kernel_rfl) (by kernel_rfl) (by kernel_rfl) (fun _ _ _ h => h) (Or.inl ⟨by rfl, ?hy4009⟩) (by assumption) ?tk4009
  case hy4009 => (intro w hSw; (try dsimp only at hSw); go_simp; (try with_reducible rfl))
  try simp only [Act.put, List.setIfInBounds_toArray, List.set_cons_zero, List.set_cons_succ]
  refine wpAnyH_take (i := 9) (oi := { dst := some 18, op := Go.Op.load 80 (Go.Operand.tmp 17), type := 80, pos := _, after := #[{ on := 8, ground := Go.Ground.data }], guard := none }) (v := ?vv4010) rfl (by kernel_rfl) (by kernel_rfl) (by kernel_rfl) (fun _ _ _ h => h) (Or.inl ⟨by rfl, ?hy4010⟩) (by assumption) ?tk4010
  case hy4010 => (intro w hSw; (try dsimp only at hSw); go_simp; (try with_reducible rfl))
  try simp only [Act.put, List.setIfInBounds_toArray, List.set_cons_zero, List.set_cons_succ]
  refine wpAnyH_take (i := 10) (oi := { dst := some 19, op := Go.Op.call { callee := Go.Callee.builtin Go.Builtin.len, args := #[Go.Operand.tmp 18], argTypes := #[80] }, type := 3, pos := _, after := #[{ on := 9, ground := Go.Ground.data }], guard := none }) (v := ?vv4011) rfl (by kernel_rfl) (by kernel_rfl) (by kernel_rfl) (fun _ _ _ h => h) (Or.inl ⟨by rfl, ?hy4011⟩) (by assumption) ?tk4011
  case hy4011 => (intro w hSw; (try dsimp only at hSw); go_simp; (try with_reducible rfl))
  try simp only [Act.put, List.setIfInBounds_toArray, List.set_cons_zero, List.set_cons_succ]
  refine wpAnyH_take (i := 11) (oi := { dst := some 20, op := Go.Op.binOp Go.BinOp.mul 3 (Go.Operand.const (Go.Value.int Go.IntKind.i64 3)) (Go.Operand.tmp 19) 3, type := 3, pos := _, after := #[{ on := 10, ground := Go.Ground.data }], guard := none }) (v := ?vv4012) rfl (by kernel_rfl) (by kernel_rfl) (by kernel_rfl) (fun _ _ _ h => h) (Or.inl ⟨by rfl, ?hy4012⟩) (by assumption) ?tk4012
  case hy4012 => (intro w hSw; (try dsimp only at hSw); go_simp; (try with_reducible rfl))
  try simp only [Act.put, List.setIfInBounds_toArray, List.set_cons_zero, List.set_cons_succ]
  refine wpAnyH_take (i := 12) (oi := { dst := some 21, op := Go.Op.binOp Go.BinOp.gtr 3 (Go.Operand.tmp 14) (Go.Operand.tmp 20) 3, type := 4, pos := _, after := #[{ on := 5, ground := Go.Ground.data }, { on := 11, ground := Go.Ground.data }], guard := none }) (v := ?vv4013) rfl (by kernel_rfl) (by kernel_rfl) (by kernel_rfl) (fun _ _ _ h => h) (Or.inl ⟨by rfl, ?hy4013⟩) (by assumption) ?tk4013
  case hy4013 => (intro w hSw; (try dsimp only at hSw); go_simp; (try with_reducible rfl))
  try simp only [Act.put, List.setIfInBounds_toArray, List.set_cons_zero, List.set_cons_succ]
  refine wpAnyH_done (by kernel_rfl) ?_ _
  by_cases hfit : 4 * (s.rows + 1) ≤ 3 * N
  · have hlt : ¬ (3 * (N : Int) < 4 * ((s.rows : Int) + 1)) := by omega
    obtain ⟨sv, f1, M, J⟩ : ∃ sv f1 M, Ins1 w w.drew b nm s d M f1 sv := by
      have R := HT0.out
      rcases R.tab with ⟨z, _, z2⟩ | ⟨h1, h2, h3⟩
      · omega
      · exact ⟨s.slots, f, N, ⟨⟨R.at'.drew, SymR.of_own R.own, h2.blk (fun _ _ => rfl), h3, Nat.le_refl _, pw_le20 (R.pw.resolve_left (by omega)) (by omega), R.a0, R.a1, HR1K.out, R.val⟩, R.own, R.why, (Ws.refl _ w).drew, R.d1, R.d2, R.d3, fun h => .inl h, h1, hfit, R.big.imp id (fun h => by omega), R.pw.resolve_left (by omega)⟩⟩
    clear h4 h5 hw1 hw2 hw3 hfit
    have HR1 := J.W.symR HR.out HVB.out
    have hsk := seek_any J.T HR1 HRV.out
    have HJ := hideIt J
    have HQR := hideIt HR1
    clear HR1
    go_wp2_with fail
    refine hsk.mono ?_
    rintro e w2 ⟨hout, hb2⟩
    have J2 := J.below hb2
    have HJ2 := hideIt J2
    have HQR2 := hideIt (HQR.out.below hb2)
    clear hsk J J2 HJ HQR hb2
    rcases hout with ⟨j, hj, hsame, rfl⟩ | ⟨hno, D, hDM, hD0, hD1, rfl⟩
    · have HF := hideIt (And.intro hj hsame)
      clear hj hsame
      go_wp2
      go_ret
      have J := HJ2.out
      exact ⟨{ s with slots := sv }, d, M, f1, false, rfl, J.rel HT0.out, ⟨rfl, rfl, rfl, rfl, fun _ => ⟨rfl, rfl, j, HF.out.1, HF.out.2⟩, fun h => by cases h⟩, J.W, fun q hq => J.fp hq⟩
    obtain ⟨p, HPp⟩ : ∃ p, Hid ((hashN r s.A % M + D) % M = p) := ⟨_, hideIt rfl⟩
    have HTp := hideIt (And.intro hno (And.intro hDM (And.intro hD0 hD1)))
    clear hno hDM hD0 hD1
    rw [HPp.out]
    go_upto_region 6 with fail
    go_cut [] (fun wd => ∃ da, RelAt wd b nm { s with slots := sv, data := da } ∧ wd.ownsRow 0 109 1 da (s.rows * s.A + s.A) (symL (catR d (s.rows * s.A) r) (s.rows * s.A + s.A)) ∧ (∃ ys, wd.ownsRow 0 21 1 s.why s.rows ys) ∧ SlotAt wd sv M f1 ∧ (da.ownBlock = s.data.ownBlock ∨ ∀ q, da.ownBlock = some q → w2.heap.size ≤ q) ∧ Ws (fpR b s) w wd ∧ w2.heap.size ≤ wd.heap.size)
    case first =>
      have k3 : w2.cell? ⟨b, 3, none⟩ = some s.data := HJ2.out.T.at'.da
      obtain ⟨pd, cd, hd⟩ := own_shape HJ2.out.od
      have hod := HJ2.out.od
      have fz := HJ2.out.T.at'.fz
      have hlb := HJ2.out.T.at'.lt
      have nsl : s.data.ownBlock ≠ some b := HJ2.out.d1.1
      obtain ⟨pv, cv, hv, hvc, hvz⟩ := HQR2.out
      have A0 := HT0.out.a0
      have A1 := HT0.out.a1
      obtain ⟨g0, off, rfl, hz⟩ : ∃ g off, pv = some ⟨g, off, none⟩ ∧ ∀ j, j < s.A → w2.cell? ⟨g, off + j, none⟩ = some (.int .u32 (r j : Int)) := by
        rcases hvz with z | z
        · omega
        · exact z
      have hnw := SymR.news hz
      have hne3 : some b ≠ s.data.ownBlock := fun e => nsl e.symm
      obtain ⟨L, HL⟩ : ∃ L, Hid (s.rows * s.A = L) := ⟨_, hideIt rfl⟩
      have hL : L ≤ 1000000 := by
        have q := Nat.mul_le_mul HR1K.out A1
        rw [HL.out] at q
        omega
      rw [HL.out] at hod hd
      simp only [Value.slice.injEq, true_and] at hv
      obtain ⟨rfl, rfl⟩ := hv
      rw [hd] at k3 hod
      have HD := hideIt hd
      have HZ := hideIt (And.intro hod hnw)
      have hcz : catR d L r = catR d L r := rfl
      clear hod hnw hz hvz hvc hd nsl hcz
      go_wp2_with (first | (at_builtin; refine wpList_append_own_at _ rfl (.tmp 35) (.tmp 36) 83 rfl 0 109 i9 (.int .u32 0) 1 4 Tryz.underlying83 hi9 hx0 hx1 hx2 rfl (by decide) (.slice pd L cd) L (symL d L) rfl HZ.out.1 ⟨g0, off, none⟩ s.A cv0 (symL r s.A) rfl (by rw [symL_len, Nat.mul_one]) HZ.out.2 (symL_one r s.A) (by unfold maxLen; omega) (by omega) (Nat.zero_le _) ?_) | go_in)
      intro v' w3 hown hgrow hiff hblk
      rw [symL_cat] at hown
      have R3 : RelAt w3 b nm { s with slots := sv } := HJ2.out.T.at'.blk (hgrow.block b hlb (by rw [← HD.out]; exact hne3))
      have fz3 := R3.fz
      have kk3 : w3.cell? ⟨b, 3, none⟩ = some (.slice pd L cd) := by rw [← HD.out]; exact R3.da
      have hvb3 : v'.ownBlock ≠ some b := fun q => by
        rcases hblk with z | z
        · rw [z, ← HD.out] at q; exact hne3 q.symm
        · rw [z] at q; simp at q; omega
      obtain ⟨p', c', rfl⟩ := own_shape hown
      have HQ2 := hideIt (And.intro R3 (And.intro hown (And.intro hgrow (And.intro hblk hvb3))))
      clear hown hgrow hiff hblk R3 hvb3 k3 fz
      go_wp2
      go_meet
      case rel =>
        obtain ⟨R3, hown, hgrow, hblk, hvb3⟩ := HQ2.out
        rw [← HD.out] at hgrow hblk
        rw [HL.out]
        have J := HJ2.out
        refine ⟨_, R3.put_data _, own_one hown (fun q hq => far_set (fun e => hvb3 (e ▸ hq))), ?_, ?_, ?_, ?_, ?_⟩
        · obtain ⟨ys, o⟩ := J.ow
          refine ⟨ys, own_keep o (fun q hq hl => (far_set (fun (e : q = b) => J.d1.2.2 (e ▸ hq))).trans (hgrow.block q hl (fun e => J.d2 q e.symm |>.2 hq)))⟩
        · exact J.T.slot.blk (fun q hq => (far_set (fun (e : q = b) => J.d1.2.1 (e ▸ hq))).trans (hgrow.block q (J.T.slot.lt (by have := J.m16; omega) hq) (fun e => J.d2 q e.symm |>.1 hq)))
        · rcases hblk with z | z
          · exact .inl z
          · exact .inr (fun q hq => by rw [z] at hq; simp at hq; omega)
        · exact (J.W.grow hgrow (fun q hq => .inl (.inr (.inl hq)))).set (.inl (.inl rfl))
        · have := hgrow.size; simpa using this
    case rest =>
    obtain ⟨da, R3, o3, ow3, S3, hda, W3, hsz3⟩ := hcut
    obtain ⟨ys, ow3⟩ := ow3
    have hda1 : da.ownBlock ≠ some b := fun e => by
      rcases hda with z | z
      · exact HJ2.out.d1.1 (z ▸ e)
      · have := z b e; have := HJ2.out.T.at'.lt; omega
    have hda2 : ∀ q, da.ownBlock = some q → sv.ownBlock ≠ some q ∧ s.why.ownBlock ≠ some q := fun q hq => by
      rcases hda with z | z
      · exact HJ2.out.d2 q (z ▸ hq)
      · have h1 := z q hq
        refine ⟨fun e => ?_, fun e => ?_⟩
        · have := HJ2.out.T.slot.lt (by have := HJ2.out.m16; omega) e; omega
        · obtain ⟨ys, o⟩ := HJ2.out.ow
          have := (o.lt q e).2; omega
    have HQ := hideIt (And.intro R3 (And.intro o3 (And.intro ow3 (And.intro S3 (And.intro hda (And.intro W3 hsz3))))))
    have HD12 := hideIt (And.intro hda1 hda2)
    clear R3 o3 ow3 S3 hda W3 hsz3 hda1 hda2
    go_upto_region 7 with fail
    go_cut [] (fun wd => ∃ wy ys, RelAt wd b nm { s with slots := sv, data := da, why := wy } ∧ wd.ownsRow 0 109 1 da (s.rows * s.A + s.A) (symL (catR d (s.rows * s.A) r) (s.rows * s.A + s.A)) ∧ wd.ownsRow 0 21 1 wy (s.rows + 1) ys ∧ SlotAt wd sv M f1 ∧ (wy.ownBlock = s.why.ownBlock ∨ ∀ q, wy.ownBlock = some q → wc.heap.size ≤ q) ∧ Ws (fpR b s) w wd ∧ wc.heap.size ≤ wd.heap.size)
    case first =>
      have k6 : wc.cell? ⟨b, 6, none⟩ = some s.why := HQ.out.1.wy
      obtain ⟨pw, cw, hw⟩ := own_shape HQ.out.2.2.1
      have how := HQ.out.2.2.1
      have fz := HQ.out.1.fz
      have hlb := HQ.out.1.lt
      have nwb : s.why.ownBlock ≠ some b := HJ2.out.d1.2.2
      have hne6 : some b ≠ s.why.ownBlock := fun e => nwb e.symm
      have r1k := HR1K.out
      rw [hw] at k6 how
      have HW := hideIt hw
      have nb := cell_new_i32 wc pr
      have hb1 := one_alloc wc (.cells #[.int .i32 pr] 21)
      have how1 := own_keep how (fun q _ hl => hb1.block q hl)
      have HOW := hideIt how1
      have HB1 := hideIt hb1
      clear how how1 hw nwb hb1
      go_wp2_with (first | (at_builtin; refine wpList_append_own_at _ rfl (.tmp 44) (.tmp 46) 80 rfl 0 21 i2 (.int .i32 0) 1 4 Tryz.underlying80 hi2 hy0 hy1 hy2 rfl (by decide) (.slice pw s.rows cw) s.rows ys rfl HOW.out ⟨wc.heap.size, 0, none⟩ 1 1 [.int .i32 pr] rfl (by simp) nb (by simp [Value.oneCell']) (by unfold maxLen; omega) (by omega) (Nat.zero_le _) ?_) | go_in)
      intro v' w3 hown hgrow hiff hblk
      have R2 : RelAt (wc.alloc (.cells #[.int .i32 pr] 21)) b nm { s with slots := sv, data := da } := HQ.out.1.below HB1.out
      have R3 : RelAt w3 b nm { s with slots := sv, data := da } := R2.blk (hgrow.block b R2.lt (by rw [← HW.out]; exact hne6))
      have fz3 := R3.fz
      have kk6 : w3.cell? ⟨b, 6, none⟩ = some (.slice pw s.rows cw) := by rw [← HW.out]; exact R3.wy
      have hvb3 : v'.ownBlock ≠ some b := fun q => by
        rcases hblk with z | z
        · rw [z, ← HW.out] at q; exact hne6 q.symm
        · have h0 := HB1.out.size
          rw [z] at q
          have q := Option.some.inj q
          omega
      obtain ⟨p', c', rfl⟩ := own_shape hown
      have HQ2 := hideIt (And.intro R3 (And.intro hown (And.intro hgrow (And.intro hblk hvb3))))
      clear hown hgrow hiff hblk R2 R3 hvb3 k6 fz nb
      go_wp2
      go_meet
      case rel =>
        obtain ⟨R3, hown, hgrow, hblk, hvb3⟩ := HQ2.out
        rw [← HW.out] at hgrow hblk
        obtain ⟨R0, o0, ow0, S0, hda, W0, hsz0⟩ := HQ.out
        have hb1 := HB1.out
        refine ⟨_, _, R3.put_why _, ?_, own_one hown (fun q hq => far_set (fun e => hvb3 (e ▸ hq))), ?_, ?_, ?_, ?_⟩
        · exact own_keep o0 (fun q hq hl => (far_set (fun (e : q = b) => HD12.out.1 (e ▸ hq))).trans ((hgrow.block q (Nat.lt_of_lt_of_le hl hb1.size) (fun e => (HD12.out.2 q hq).2 e.symm)).trans (hb1.block q hl)))
        · exact S0.blk (fun q hq => by
            have hl := S0.lt (by have := HJ2.out.m16; omega) hq
            exact (far_set (fun (e : q = b) => HJ2.out.d1.2.1 (e ▸ hq))).trans ((hgrow.block q (Nat.lt_of_lt_of_le hl hb1.size) (fun e => HJ2.out.d3 q hq e.symm)).trans (hb1.block q hl)))
        · rcases hblk with z | z
          · exact .inl z
          · refine .inr (fun q hq => ?_)
            have h0 := hb1.size
            rw [z] at hq
            have hq := Option.some.inj hq
            omega
        · exact ((W0.below hb1).grow hgrow (fun q hq => .inl (.inr (.inr (.inr hq))))).set (.inl (.inl rfl))
        · exact Nat.le_trans hb1.size (by simpa using hgrow.size)
    case rest =>
    obtain ⟨wy, ys2, R4, o4, ow4, S4, hwy, W4, hsz4⟩ := hcut
    have hwy1 : wy.ownBlock ≠ some b := fun e => by
      rcases hwy with z | z
      · exact HJ2.out.d1.2.2 (z ▸ e)
      · have := z b e; have := HQ.out.1.lt; omega
    have hwy2 : ∀ q, wy.ownBlock = some q → sv.ownBlock ≠ some q ∧ da.ownBlock ≠ some q := fun q hq => by
      rcases hwy with z | z
      · exact ⟨fun e => HJ2.out.d3 q e (z ▸ hq), fun e => (HD12.out.2 q e).2 (z ▸ hq)⟩
      · have h1 := z q hq
        refine ⟨fun e => ?_, fun e => ?_⟩
        · have := HQ.out.2.2.2.1.lt (by have := HJ2.out.m16; omega) e; omega
        · have := (HQ.out.2.1.lt q e).2; omega
    have HDA := hideIt (And.intro HQ.out.2.2.2.2.1 HQ.out.2.2.2.2.2.2)
    clear HQ
    have HQ := hideIt (And.intro R4 (And.intro o4 (And.intro ow4 (And.intro S4 (And.intro hwy (And.intro W4 hsz4))))))
    have HW12 := hideIt (And.intro hwy1 hwy2)
    clear R4 o4 ow4 S4 hwy W4 hsz4 hwy1 hwy2
    go_upto_region 8 with fail
    go_cut [] (fun wd => RelAt wd b nm { s with slots := sv, data := da, why := wy, rows := s.rows + 1 } ∧ wd.ownsRow 0 109 1 da (s.rows * s.A + s.A) (symL (catR d (s.rows * s.A) r) (s.rows * s.A + s.A)) ∧ wd.ownsRow 0 21 1 wy (s.rows + 1) ys2 ∧ SlotAt wd sv M f1 ∧ Ws (fpR b s) w wd)
    case first =>
      have k4 : wc.cell? ⟨b, 4, none⟩ = some (.int .i64 (s.rows : Int)) := HQ.out.1.ro
      have fz := HQ.out.1.fz
      have r1k := HR1K.out
      go_wp2
      go_meet
      case rel =>
        obtain ⟨R4, o4, ow4, S4, hwy, W4, _⟩ := HQ.out
        exact ⟨R4.put_rows (s.rows + 1), own_one o4 (fun q hq => far_set (fun e => HD12.out.1 (e ▸ hq))), own_one ow4 (fun q hq => far_set (fun e => HW12.out.1 (e ▸ hq))), S4.blk (fun q hq => far_set (fun e => HJ2.out.d1.2.1 (e ▸ hq))), W4.set (.inl (.inl rfl))⟩
    case rest =>
    have HWY := hideIt (And.intro HQ.out.2.2.2.2.1 HQ.out.2.2.2.2.2.2)
    clear HQ
    obtain ⟨R5, o5, ow5, S5, W5⟩ := hcut
    obtain ⟨g, eg, _⟩ : ∃ g, sv = .slice (some ⟨g, 0, none⟩) M M ∧ True := by
      obtain ⟨g, e, _⟩ := S5
      exact ⟨g, e, trivial⟩
    subst eg
    have h5 : wc.cell? ⟨b, 5, none⟩ = some (.slice (some ⟨g, 0, none⟩) M M) := R5.sl
    have h4 : wc.cell? ⟨b, 4, none⟩ = some (.int .i64 ((s.rows : Int) + 1)) := R5.ro
    have hp : p < M := by rw [← HPp.out]; exact Nat.mod_lt _ (by have := HJ2.out.m16; omega)
    have hgz : wc.cell? ⟨g, p, none⟩ = some (.int .i32 (f1 p : Int)) ∧ ∀ o, wc.frozen? ⟨g, o, none⟩ = false := by
      obtain ⟨g', e, hg, hf⟩ := S5
      simp only [Value.slice.injEq, Option.some.injEq, Addr.mk.injEq] at e
      obtain ⟨⟨rfl, _⟩, _⟩ := e
      exact ⟨hg _ hp, hf⟩
    obtain ⟨hgz, fzg⟩ := hgz
    have hgb : b ≠ g := fun e => HJ2.out.d1.2.1 (by rw [e]; rfl)
    have p0 : (0 : Int) ≤ p := by omega
    have p1 : (p : Int) < (M : Int) := by omega
    have r1k := HR1K.out
    have hwi2 : IntKind.i32.wrap ((s.rows : Int) + 1) = (s.rows : Int) + 1 := by rw [IntKind.wrap_i32]; omega
    have HQ := hideIt (And.intro R5 (And.intro o5 (And.intro ow5 (And.intro S5 W5))))
    have HP := hideIt hp
    clear R5 o5 ow5 S5 W5 hp
    go_upto_region 9 with fail
    refine wp_region_l (l := 11) (S := (fun w' => w'.cell? ⟨b, 5, none⟩ = some (.slice (some ⟨g, 0, none⟩) M M) ∧ w'.cell? ⟨b, 4, none⟩ = some (.int .i64 ((s.rows : Int) + 1)))) (by kernel_rfl) ⟨h5, h4⟩ (fun hHeld => ?_)
    refine AnyL.take2 (i := 0) (oi := { dst := some 57, op := Go.Op.move (Go.Operand.tmp 0), type := 99, pos := _, after := #[], guard := none }) (v := ?vv4014) (by kernel_rfl) (by kernel_rfl) rfl (by kernel_rfl) (by kernel_rfl) (by kernel_rfl) (fun _ _ _ h => h) (Or.inl ⟨by rfl, ?hy4014⟩) (by assumption) ?tk4014
    case hy4014 => (intro w hSw; (try dsimp only at hSw); go_simp; (try with_reducible rfl))
    try simp only [Act.put, List.setIfInBounds_toArray, List.set_cons_zero, List.set_cons_succ]
    refine AnyL.take2 (i := 1) (oi := { dst := some 58, op := Go.Op.nilCheck (Go.Operand.tmp 57), type := 0, pos := _, after := #[{ on := 0, ground := Go.Ground.data }], guard := none }) (v := ?vv4015) (by kernel_rfl) (by kernel_rfl) rfl (by kernel_rfl) (by kernel_rfl) (by kernel_rfl) (fun _ _ _ h => h) (Or.inl ⟨by rfl, ?hy4015⟩) (by assumption) ?tk4015
    case hy4015 => (intro w hSw; (try dsimp only at hSw); go_simp; (try with_reducible rfl))
    try simp only [Act.put, List.setIfInBounds_toArray, List.set_cons_zero, List.set_cons_succ]
    refine AnyL.take2 (i := 2) (oi := { dst := some 59, op := Go.Op.fieldAddr 98 (Go.Operand.tmp 58) 5, type := 0, pos := _, after := #[{ on := 1, ground := Go.Ground.data }], guard := none }) (v := ?vv4016) (by kernel_rfl) (by kernel_rfl) rfl (by kernel_rfl) (by kernel_rfl) (by kernel_rfl) (fun _ _ _ h => h) (Or.inl ⟨by rfl, ?hy4016⟩) (by assumption) ?tk4016
    case hy4016 => (intro w hSw; (try dsimp only at hSw); go_simp; (try with_reducible rfl))
    try simp only [Act.put, List.setIfInBounds_toArray, List.set_cons_zero, List.set_cons_succ]
    refine AnyL.take2 (i := 3) (oi := { dst := some 60, op := Go.Op.load 80 (Go.Operand.tmp 59), type := 80, pos := _, after := #[{ on := 2, ground := Go.Ground.data }], guard := none }) (v := ?vv4017) (by kernel_rfl) (by kernel_rfl) rfl (by kernel_rfl) (by kernel_rfl) (by kernel_rfl) (fun _ _ _ h => h) (Or.inl ⟨by rfl, ?hy4017⟩) (by assumption) ?tk4017
    case hy4017 => (intro w hSw; (try dsimp only at hSw); go_simp; (try with_reducible rfl))
    try simp only [Act.put, List.setIfInBounds_toArray, List.set_cons_zero, List.set_cons_succ]
    refine AnyL.take2 (i := 4) (oi := { dst := some 61, op := Go.Op.move (Go.Operand.tmp 7), type := 3, pos := _, after := #[], guard := none }) (v := ?vv4018) (by kernel_rfl) (by kernel_rfl) rfl (by kernel_rfl) (by kernel_rfl) (by kernel_rfl) (fun _ _ _ h => h) (Or.inl ⟨by rfl, ?hy4018⟩) (by assumption) ?tk4018
    case hy4018 => (intro w hSw; (try dsimp only at hSw); go_simp; (try with_reducible rfl))
    try simp only [Act.put, List.setIfInBounds_toArray, List.set_cons_zero, List.set_cons_succ]
    refine AnyL.take2 (i := 5) (oi := { dst := some 62, op := Go.Op.move (Go.Operand.tmp 0), type := 99, pos := _, after := #[], guard := none }) (v := ?vv4019) (by kernel_rfl) (by kernel_rfl) rfl (by kernel_rfl) (by kernel_rfl) (by kernel_rfl) (fun _ _ _ h => h) (Or.inl ⟨by rfl, ?hy4019⟩) (by assumption) ?tk4019
    case hy4019 => (intro w hSw; (try dsimp only at hSw); go_simp; (try with_reducible rfl))
    try simp only [Act.put, List.setIfInBounds_toArray, List.set_cons_zero, List.set_cons_succ]
    refine AnyL.take2 (i := 6) (oi := { dst := some 63, op := Go.Op.nilCheck (Go.Operand.tmp 62), type := 0, pos := _, after := #[{ on := 5, ground := Go.Ground.data }], guard := none }) (v := ?vv4020) (by kernel_rfl) (by kernel_rfl) rfl (by kernel_rfl) (by kernel_rfl) (by kernel_rfl) (fun _ _ _ h => h) (Or.inl ⟨by rfl, ?hy4020⟩) (by assumption) ?tk4020
    case hy4020 => (intro w hSw; (try dsimp only at hSw); go_simp; (try with_reducible rfl))
    try simp only [Act.put, List.setIfInBounds_toArray, List.set_cons_zero, List.set_cons_succ]
    refine AnyL.take2 (i := 7) (oi := { dst := some 64, op := Go.Op.fieldAddr 98 (Go.Operand.tmp 63) 4, type := 0, pos := _, after := #[{ on := 6, ground := Go.Ground.data }], guard := none }) (v := ?vv4021) (by kernel_rfl) (by kernel_rfl) rfl (by kernel_rfl) (by kernel_rfl) (by kernel_rfl) (fun _ _ _ h => h) (Or.inl ⟨by rfl, ?hy4021⟩) (by assumption) ?tk4021
    case hy4021 => (intro w hSw; (try dsimp only at hSw); go_simp; (try with_reducible rfl))
    try simp only [Act.put, List.setIfInBounds_toArray, List.set_cons_zero, List.set_cons_succ]
    refine AnyL.take2 (i := 8) (oi := { dst := some 65, op := Go.Op.load 3 (Go.Operand.tmp 64), type := 3, pos := _, after := #[{ on := 7, ground := Go.Ground.data }], guard := none }) (v := ?vv4022) (by kernel_rfl) (by kernel_rfl) rfl (by kernel_rfl) (by kernel_rfl) (by kernel_rfl) (fun _ _ _ h => h) (Or.inl ⟨by rfl, ?hy4022⟩) (by assumption) ?tk4022
    case hy4022 => (intro w hSw; (try dsimp only at hSw); go_simp; (try with_reducible rfl))
    try simp only [Act.put, List.setIfInBounds_toArray, List.set_cons_zero, List.set_cons_succ]
    refine AnyL.take2 (i := 9) (oi := { dst := some 66, op := Go.Op.convert 3 21 (Go.Operand.tmp 65), type := 21, pos := _, after := #[{ on := 8, ground := Go.Ground.data }], guard := none }) (v := ?vv4023) (by kernel_rfl) (by kernel_rfl) rfl (by kernel_rfl) (by kernel_rfl) (by kernel_rfl) (fun _ _ _ h => h) (Or.inl ⟨by rfl, ?hy4023⟩) (by assumption) ?tk4023
    case hy4023 => (intro w hSw; (try dsimp only at hSw); go_simp; (try with_reducible rfl))
    try simp only [Act.put, List.setIfInBounds_toArray, List.set_cons_zero, List.set_cons_succ]
    refine AnyL.take2 (i := 10) (oi := { dst := some 67, op := Go.Op.indexAddr 80 (Go.Operand.tmp 60) (Go.Operand.tmp 61), type := 0, pos := _, after := #[{ on := 3, ground := Go.Ground.data }, { on := 4, ground := Go.Ground.data }, { on := 0, ground := Go.Ground.phase }, { on := 1, ground := Go.Ground.phase }, { on := 2, ground := Go.Ground.phase }, { on := 3, ground := Go.Ground.phase }, { on := 4, ground := Go.Ground.phase }, { on := 5, ground := Go.Ground.phase }, { on := 6, ground := Go.Ground.phase }, { on := 7, ground := Go.Ground.phase }, { on := 8, ground := Go.Ground.phase }, { on := 9, ground := Go.Ground.phase }], guard := none }) (v := ?vv4024) (by kernel_rfl) (by kernel_rfl) rfl (by kernel_rfl) (by kernel_rfl) (by kernel_rfl) (fun _ _ _ h => h) (Or.inl ⟨by rfl, ?hy4024⟩) (by assumption) ?tk4024
    case hy4024 => (intro w hSw; (try dsimp only at hSw); go_simp; (try with_reducible rfl))
    try simp only [Act.put, List.setIfInBounds_toArray, List.set_cons_zero, List.set_cons_succ]
    refine AnyL.last (o := { dst := none, op := Go.Op.store 21 (Go.Operand.tmp 67) (Go.Operand.tmp 66), type := 0, pos := _, after := #[{ on := 10, ground := Go.Ground.data }, { on := 9, ground := Go.Ground.data }, { on := 0, ground := Go.Ground.phase }, { on := 1, ground := Go.Ground.phase }, { on := 2, ground := Go.Ground.phase }, { on := 3, ground := Go.Ground.phase }, { on := 4, ground := Go.Ground.phase }, { on := 5, ground := Go.Ground.phase }, { on := 6, ground := Go.Ground.phase }, { on := 7, ground := Go.Ground.phase }, { on := 8, ground := Go.Ground.phase }, { on := 9, ground := Go.Ground.phase }], guard := none }) (by kernel_rfl) rfl (by kernel_rfl) (fun K' hK' => ?_)
    go_simp
    clear hHeld
    refine hK'.out _ _ ?_
    clear hK' K'
    try simp only [Act.put, List.setIfInBounds_toArray, List.set_cons_zero, List.set_cons_succ]
    go_wp2
    go_ret
    obtain ⟨R5, o5, ow5, S5, W5⟩ := HQ.out
    have J := HJ2.out
    obtain ⟨hno, hDM, hD0, hD1⟩ := HTp.out
    have hg1 : ∀ q, da.ownBlock = some q → q ≠ g := fun q hq e => (HD12.out.2 q hq).1 (by rw [e]; rfl)
    have hg2 : ∀ q, wy.ownBlock = some q → q ≠ g := fun q hq e => (HW12.out.2 q hq).1 (by rw [e]; rfl)
    have S6 := slot_put (sz := p) (x := s.rows + 1) S5
    have hTp := (J.T.tbl.put (by have := J.fit; have := J.m16; show s.rows + 1 < M; omega) hDM hD0 hD1).st_congr (st' := stF (catR d (s.rows * s.A) r) s.A M) (fun j hj => by
      show (if j = s.rows then hashN r s.A % M else stF d s.A M j) = _
      split
      · rename_i q; rw [q, stF_new]
      · rename_i q; rw [stF_cat (by omega)])
    rw [HPp.out] at hTp
    have o5' : wc.ownsRow 0 109 1 da ((s.rows + 1) * s.A) (symL (catR d (s.rows * s.A) r) ((s.rows + 1) * s.A)) := by rw [Nat.add_mul, Nat.one_mul]; exact o5
    refine ⟨{ s with slots := .slice (some ⟨g, 0, none⟩) M M, data := da, why := wy, rows := s.rows + 1 }, catR d (s.rows * s.A) r, M, _, true, rfl, ⟨(R5.blk (far_set hgb)).drew, own_one o5' (fun q hq => far_set (hg1 q hq)), ⟨_, own_one ow5 (fun q hq => far_set (hg2 q hq))⟩, .inr ⟨J.m16, S6.blk (fun _ _ => rfl), hTp⟩, J.fit, ?_, .inr J.pw, distR_cat HT0.out.dist hno, ⟨HD12.out.1, J.d1.2.1, HW12.out.1⟩, fun q hq => ⟨(HD12.out.2 q hq).1, fun e => (HW12.out.2 q e).2 hq⟩, fun q hq e => (HW12.out.2 q e).1 hq, HT0.out.a0, HT0.out.a1, val_cat HT0.out.val HRV.out⟩, ⟨rfl, rfl, rfl, rfl, fun h => by (cases h), fun _ => ⟨rfl, rfl, hno⟩⟩, ?_, ?_⟩
    · have := J.big; show M ≤ 16 ∨ 3 * M ≤ 8 * (s.rows + 1 + 1); omega
    · refine (W5.set ?_).drew
      rcases J.fpS rfl with z | z
      · exact .inl (.inr (.inr (.inl z)))
      · exact .inr z
    · rintro q (rfl | hq | hq | hq)
      · exact .inl (.inl rfl)
      · rcases HDA.out.1 with z | z
        · exact .inl (.inr (.inl (z ▸ hq)))
        · exact .inr (Nat.le_trans J.W.size (z q hq))
      · rcases J.fpS hq with z | z
        · exact .inl (.inr (.inr (.inl z)))
        · exact .inr z
      · rcases HWY.out.1 with z | z
        · exact .inl (.inr (.inr (.inr (z ▸ hq))))
        · exact .inr (Nat.le_trans J.W.size (Nat.le_trans HDA.out.2 (z q hq)))
  · have hlt : 3 * (N : Int) < 4 * ((s.rows : Int) + 1) := by omega
    have hpM : ∃ M, ((N = 0 ∧ M = 16) ∨ (16 ≤ N ∧ M = 2 * N)) ∧ (∃ x, M = 2 ^ x) ∧ M ≤ 10000 := by
      have R := HT0.out
      rcases R.tab with ⟨z, _, z2⟩ | ⟨h1, h2, h3⟩
      · exact ⟨16, .inl ⟨z, rfl⟩, ⟨4, rfl⟩, by omega⟩
      · obtain ⟨x, hx⟩ := R.pw.resolve_left (by omega)
        exact ⟨2 * N, .inr ⟨h1, rfl⟩, ⟨x + 1, by rw [hx, Nat.pow_succ, Nat.mul_comm]⟩, by omega⟩
    obtain ⟨M0, hM, hpw, hM1⟩ := hpM
    have hrM : 4 * (s.rows + 1) ≤ 3 * M0 := by
      have := HT0.out.fit
      rcases hM with ⟨h1, h2⟩ | ⟨h1, h2⟩ <;> omega
    have hreh := rehash_any (w := w.drew) (N := N) (M := M0) HT0.out.at'.drew ((SymR.of_own HT0.out.own).below (below_dr (Below.refl _ _))) HT0.out.d1.1 HSL.out hM (pw_le20 hpw hM1) (by omega) HT0.out.a0 HT0.out.a1 HR1K.out HT0.out.val HT0.out.dist
    have HM := hideIt (And.intro hM (And.intro hpw (And.intro hrM hfit)))
    clear hM hpw hrM hM1 hfit
    go_wp2_with fail
    refine hreh.mono ?_
    rintro e w1 ⟨rfl, ⟨sv, f1, T1, o1⟩, W1⟩
    have W1' : Wr b w w1 := (Wr.refl b w).drew.trans W1
    obtain ⟨M, J⟩ : ∃ M, Ins1 w w1 b nm s d M f1 sv := by
      have R := HT0.out
      obtain ⟨hM, hpw, hrM, hfit⟩ := HM.out
      have k : ∀ q, q ≠ b → q < w.heap.size → w1.heap[q]? = w.heap[q]? := fun q h1 h2 => W1'.block q h2 h1
      refine ⟨M0, ⟨T1, own_keep R.own (fun q hq hl => k q (fun e => R.d1.1 (e ▸ hq)) hl), ?_, Ws.of_wr W1' (.inl rfl), ⟨R.d1.1, ?_, R.d1.2.2⟩, fun q hq => ⟨fun e => ?_, (R.d2 q hq).2⟩, fun q hq => fun e => ?_, fun h => .inr ?_, ?_, hrM, ?_, hpw⟩⟩
      · obtain ⟨ys, o⟩ := R.why
        exact ⟨ys, own_keep o (fun q hq hl => k q (fun e => R.d1.2.2 (e ▸ hq)) hl)⟩
      · rw [o1]; intro e; have z : w.heap.size = b := Option.some.inj e; have := R.at'.lt; omega
      · rw [o1] at e; have z : w.heap.size = q := Option.some.inj e; have := (R.own.lt q hq).2; omega
      · rw [o1] at hq; have z : w.heap.size = q := Option.some.inj hq; obtain ⟨ys, o⟩ := R.why; have := (o.lt q e).2; omega
      · rw [o1] at h; exact Nat.le_of_eq (Option.some.inj h)
      · rcases hM with ⟨h1, h2⟩ | ⟨h1, h2⟩ <;> omega
      · rcases hM with ⟨h1, h2⟩ | ⟨h1, h2⟩
        · exact .inl (by omega)
        · exact .inr (by omega)
    clear h4 h5 hw1 hw2 hw3 HM hreh W1 W1' T1 o1
    have HR1 := J.W.symR HR.out HVB.out
    have hsk := seek_any J.T HR1 HRV.out
    have HJ := hideIt J
    have HQR := hideIt HR1
    clear HR1
    go_wp2_with fail
    refine hsk.mono ?_
    rintro e w2 ⟨hout, hb2⟩
    have J2 := J.below hb2
    have HJ2 := hideIt J2
    have HQR2 := hideIt (HQR.out.below hb2)
    clear hsk J J2 HJ HQR hb2
    rcases hout with ⟨j, hj, hsame, rfl⟩ | ⟨hno, D, hDM, hD0, hD1, rfl⟩
    · have HF := hideIt (And.intro hj hsame)
      clear hj hsame
      go_wp2
      go_ret
      have J := HJ2.out
      exact ⟨{ s with slots := sv }, d, M, f1, false, rfl, J.rel HT0.out, ⟨rfl, rfl, rfl, rfl, fun _ => ⟨rfl, rfl, j, HF.out.1, HF.out.2⟩, fun h => by cases h⟩, J.W, fun q hq => J.fp hq⟩
    obtain ⟨p, HPp⟩ : ∃ p, Hid ((hashN r s.A % M + D) % M = p) := ⟨_, hideIt rfl⟩
    have HTp := hideIt (And.intro hno (And.intro hDM (And.intro hD0 hD1)))
    clear hno hDM hD0 hD1
    rw [HPp.out]
    go_upto_region 6 with fail
    go_cut [] (fun wd => ∃ da, RelAt wd b nm { s with slots := sv, data := da } ∧ wd.ownsRow 0 109 1 da (s.rows * s.A + s.A) (symL (catR d (s.rows * s.A) r) (s.rows * s.A + s.A)) ∧ (∃ ys, wd.ownsRow 0 21 1 s.why s.rows ys) ∧ SlotAt wd sv M f1 ∧ (da.ownBlock = s.data.ownBlock ∨ ∀ q, da.ownBlock = some q → w2.heap.size ≤ q) ∧ Ws (fpR b s) w wd ∧ w2.heap.size ≤ wd.heap.size)
    case first =>
      have k3 : w2.cell? ⟨b, 3, none⟩ = some s.data := HJ2.out.T.at'.da
      obtain ⟨pd, cd, hd⟩ := own_shape HJ2.out.od
      have hod := HJ2.out.od
      have fz := HJ2.out.T.at'.fz
      have hlb := HJ2.out.T.at'.lt
      have nsl : s.data.ownBlock ≠ some b := HJ2.out.d1.1
      obtain ⟨pv, cv, hv, hvc, hvz⟩ := HQR2.out
      have A0 := HT0.out.a0
      have A1 := HT0.out.a1
      obtain ⟨g0, off, rfl, hz⟩ : ∃ g off, pv = some ⟨g, off, none⟩ ∧ ∀ j, j < s.A → w2.cell? ⟨g, off + j, none⟩ = some (.int .u32 (r j : Int)) := by
        rcases hvz with z | z
        · omega
        · exact z
      have hnw := SymR.news hz
      have hne3 : some b ≠ s.data.ownBlock := fun e => nsl e.symm
      obtain ⟨L, HL⟩ : ∃ L, Hid (s.rows * s.A = L) := ⟨_, hideIt rfl⟩
      have hL : L ≤ 1000000 := by
        have q := Nat.mul_le_mul HR1K.out A1
        rw [HL.out] at q
        omega
      rw [HL.out] at hod hd
      simp only [Value.slice.injEq, true_and] at hv
      obtain ⟨rfl, rfl⟩ := hv
      rw [hd] at k3 hod
      have HD := hideIt hd
      have HZ := hideIt (And.intro hod hnw)
      have hcz : catR d L r = catR d L r := rfl
      clear hod hnw hz hvz hvc hd nsl hcz
      go_wp2_with (first | (at_builtin; refine wpList_append_own_at _ rfl (.tmp 35) (.tmp 36) 83 rfl 0 109 i9 (.int .u32 0) 1 4 Tryz.underlying83 hi9 hx0 hx1 hx2 rfl (by decide) (.slice pd L cd) L (symL d L) rfl HZ.out.1 ⟨g0, off, none⟩ s.A cv0 (symL r s.A) rfl (by rw [symL_len, Nat.mul_one]) HZ.out.2 (symL_one r s.A) (by unfold maxLen; omega) (by omega) (Nat.zero_le _) ?_) | go_in)
      intro v' w3 hown hgrow hiff hblk
      rw [symL_cat] at hown
      have R3 : RelAt w3 b nm { s with slots := sv } := HJ2.out.T.at'.blk (hgrow.block b hlb (by rw [← HD.out]; exact hne3))
      have fz3 := R3.fz
      have kk3 : w3.cell? ⟨b, 3, none⟩ = some (.slice pd L cd) := by rw [← HD.out]; exact R3.da
      have hvb3 : v'.ownBlock ≠ some b := fun q => by
        rcases hblk with z | z
        · rw [z, ← HD.out] at q; exact hne3 q.symm
        · rw [z] at q; simp at q; omega
      obtain ⟨p', c', rfl⟩ := own_shape hown
      have HQ2 := hideIt (And.intro R3 (And.intro hown (And.intro hgrow (And.intro hblk hvb3))))
      clear hown hgrow hiff hblk R3 hvb3 k3 fz
      go_wp2
      go_meet
      case rel =>
        obtain ⟨R3, hown, hgrow, hblk, hvb3⟩ := HQ2.out
        rw [← HD.out] at hgrow hblk
        rw [HL.out]
        have J := HJ2.out
        refine ⟨_, R3.put_data _, own_one hown (fun q hq => far_set (fun e => hvb3 (e ▸ hq))), ?_, ?_, ?_, ?_, ?_⟩
        · obtain ⟨ys, o⟩ := J.ow
          refine ⟨ys, own_keep o (fun q hq hl => (far_set (fun (e : q = b) => J.d1.2.2 (e ▸ hq))).trans (hgrow.block q hl (fun e => J.d2 q e.symm |>.2 hq)))⟩
        · exact J.T.slot.blk (fun q hq => (far_set (fun (e : q = b) => J.d1.2.1 (e ▸ hq))).trans (hgrow.block q (J.T.slot.lt (by have := J.m16; omega) hq) (fun e => J.d2 q e.symm |>.1 hq)))
        · rcases hblk with z | z
          · exact .inl z
          · exact .inr (fun q hq => by rw [z] at hq; simp at hq; omega)
        · exact (J.W.grow hgrow (fun q hq => .inl (.inr (.inl hq)))).set (.inl (.inl rfl))
        · have := hgrow.size; simpa using this
    case rest =>
    obtain ⟨da, R3, o3, ow3, S3, hda, W3, hsz3⟩ := hcut
    obtain ⟨ys, ow3⟩ := ow3
    have hda1 : da.ownBlock ≠ some b := fun e => by
      rcases hda with z | z
      · exact HJ2.out.d1.1 (z ▸ e)
      · have := z b e; have := HJ2.out.T.at'.lt; omega
    have hda2 : ∀ q, da.ownBlock = some q → sv.ownBlock ≠ some q ∧ s.why.ownBlock ≠ some q := fun q hq => by
      rcases hda with z | z
      · exact HJ2.out.d2 q (z ▸ hq)
      · have h1 := z q hq
        refine ⟨fun e => ?_, fun e => ?_⟩
        · have := HJ2.out.T.slot.lt (by have := HJ2.out.m16; omega) e; omega
        · obtain ⟨ys, o⟩ := HJ2.out.ow
          have := (o.lt q e).2; omega
    have HQ := hideIt (And.intro R3 (And.intro o3 (And.intro ow3 (And.intro S3 (And.intro hda (And.intro W3 hsz3))))))
    have HD12 := hideIt (And.intro hda1 hda2)
    clear R3 o3 ow3 S3 hda W3 hsz3 hda1 hda2
    go_upto_region 7 with fail
    go_cut [] (fun wd => ∃ wy ys, RelAt wd b nm { s with slots := sv, data := da, why := wy } ∧ wd.ownsRow 0 109 1 da (s.rows * s.A + s.A) (symL (catR d (s.rows * s.A) r) (s.rows * s.A + s.A)) ∧ wd.ownsRow 0 21 1 wy (s.rows + 1) ys ∧ SlotAt wd sv M f1 ∧ (wy.ownBlock = s.why.ownBlock ∨ ∀ q, wy.ownBlock = some q → wc.heap.size ≤ q) ∧ Ws (fpR b s) w wd ∧ wc.heap.size ≤ wd.heap.size)
    case first =>
      have k6 : wc.cell? ⟨b, 6, none⟩ = some s.why := HQ.out.1.wy
      obtain ⟨pw, cw, hw⟩ := own_shape HQ.out.2.2.1
      have how := HQ.out.2.2.1
      have fz := HQ.out.1.fz
      have hlb := HQ.out.1.lt
      have nwb : s.why.ownBlock ≠ some b := HJ2.out.d1.2.2
      have hne6 : some b ≠ s.why.ownBlock := fun e => nwb e.symm
      have r1k := HR1K.out
      rw [hw] at k6 how
      have HW := hideIt hw
      have nb := cell_new_i32 wc pr
      have hb1 := one_alloc wc (.cells #[.int .i32 pr] 21)
      have how1 := own_keep how (fun q _ hl => hb1.block q hl)
      have HOW := hideIt how1
      have HB1 := hideIt hb1
      clear how how1 hw nwb hb1
      go_wp2_with (first | (at_builtin; refine wpList_append_own_at _ rfl (.tmp 44) (.tmp 46) 80 rfl 0 21 i2 (.int .i32 0) 1 4 Tryz.underlying80 hi2 hy0 hy1 hy2 rfl (by decide) (.slice pw s.rows cw) s.rows ys rfl HOW.out ⟨wc.heap.size, 0, none⟩ 1 1 [.int .i32 pr] rfl (by simp) nb (by simp [Value.oneCell']) (by unfold maxLen; omega) (by omega) (Nat.zero_le _) ?_) | go_in)
      intro v' w3 hown hgrow hiff hblk
      have R2 : RelAt (wc.alloc (.cells #[.int .i32 pr] 21)) b nm { s with slots := sv, data := da } := HQ.out.1.below HB1.out
      have R3 : RelAt w3 b nm { s with slots := sv, data := da } := R2.blk (hgrow.block b R2.lt (by rw [← HW.out]; exact hne6))
      have fz3 := R3.fz
      have kk6 : w3.cell? ⟨b, 6, none⟩ = some (.slice pw s.rows cw) := by rw [← HW.out]; exact R3.wy
      have hvb3 : v'.ownBlock ≠ some b := fun q => by
        rcases hblk with z | z
        · rw [z, ← HW.out] at q; exact hne6 q.symm
        · have h0 := HB1.out.size
          rw [z] at q
          have q := Option.some.inj q
          omega
      obtain ⟨p', c', rfl⟩ := own_shape hown
      have HQ2 := hideIt (And.intro R3 (And.intro hown (And.intro hgrow (And.intro hblk hvb3))))
      clear hown hgrow hiff hblk R2 R3 hvb3 k6 fz nb
      go_wp2
      go_meet
      case rel =>
        obtain ⟨R3, hown, hgrow, hblk, hvb3⟩ := HQ2.out
        rw [← HW.out] at hgrow hblk
        obtain ⟨R0, o0, ow0, S0, hda, W0, hsz0⟩ := HQ.out
        have hb1 := HB1.out
        refine ⟨_, _, R3.put_why _, ?_, own_one hown (fun q hq => far_set (fun e => hvb3 (e ▸ hq))), ?_, ?_, ?_, ?_⟩
        · exact own_keep o0 (fun q hq hl => (far_set (fun (e : q = b) => HD12.out.1 (e ▸ hq))).trans ((hgrow.block q (Nat.lt_of_lt_of_le hl hb1.size) (fun e => (HD12.out.2 q hq).2 e.symm)).trans (hb1.block q hl)))
        · exact S0.blk (fun q hq => by
            have hl := S0.lt (by have := HJ2.out.m16; omega) hq
            exact (far_set (fun (e : q = b) => HJ2.out.d1.2.1 (e ▸ hq))).trans ((hgrow.block q (Nat.lt_of_lt_of_le hl hb1.size) (fun e => HJ2.out.d3 q hq e.symm)).trans (hb1.block q hl)))
        · rcases hblk with z | z
          · exact .inl z
          · refine .inr (fun q hq => ?_)
            have h0 := hb1.size
            rw [z] at hq
            have hq := Option.some.inj hq
            omega
        · exact ((W0.below hb1).grow hgrow (fun q hq => .inl (.inr (.inr (.inr hq))))).set (.inl (.inl rfl))
        · exact Nat.le_trans hb1.size (by simpa using hgrow.size)
    case rest =>
    obtain ⟨wy, ys2, R4, o4, ow4, S4, hwy, W4, hsz4⟩ := hcut
    have hwy1 : wy.ownBlock ≠ some b := fun e => by
      rcases hwy with z | z
      · exact HJ2.out.d1.2.2 (z ▸ e)
      · have := z b e; have := HQ.out.1.lt; omega
    have hwy2 : ∀ q, wy.ownBlock = some q → sv.ownBlock ≠ some q ∧ da.ownBlock ≠ some q := fun q hq => by
      rcases hwy with z | z
      · exact ⟨fun e => HJ2.out.d3 q e (z ▸ hq), fun e => (HD12.out.2 q e).2 (z ▸ hq)⟩
      · have h1 := z q hq
        refine ⟨fun e => ?_, fun e => ?_⟩
        · have := HQ.out.2.2.2.1.lt (by have := HJ2.out.m16; omega) e; omega
        · have := (HQ.out.2.1.lt q e).2; omega
    have HDA := hideIt (And.intro HQ.out.2.2.2.2.1 HQ.out.2.2.2.2.2.2)
    clear HQ
    have HQ := hideIt (And.intro R4 (And.intro o4 (And.intro ow4 (And.intro S4 (And.intro hwy (And.intro W4 hsz4))))))
    have HW12 := hideIt (And.intro hwy1 hwy2)
    clear R4 o4 ow4 S4 hwy W4 hsz4 hwy1 hwy2
    go_upto_region 8 with fail
    go_cut [] (fun wd => RelAt wd b nm { s with slots := sv, data := da, why := wy, rows := s.rows + 1 } ∧ wd.ownsRow 0 109 1 da (s.rows * s.A + s.A) (symL (catR d (s.rows * s.A) r) (s.rows * s.A + s.A)) ∧ wd.ownsRow 0 21 1 wy (s.rows + 1) ys2 ∧ SlotAt wd sv M f1 ∧ Ws (fpR b s) w wd)
    case first =>
      have k4 : wc.cell? ⟨b, 4, none⟩ = some (.int .i64 (s.rows : Int)) := HQ.out.1.ro
      have fz := HQ.out.1.fz
      have r1k := HR1K.out
      go_wp2
      go_meet
      case rel =>
        obtain ⟨R4, o4, ow4, S4, hwy, W4, _⟩ := HQ.out
        exact ⟨R4.put_rows (s.rows + 1), own_one o4 (fun q hq => far_set (fun e => HD12.out.1 (e ▸ hq))), own_one ow4 (fun q hq => far_set (fun e => HW12.out.1 (e ▸ hq))), S4.blk (fun q hq => far_set (fun e => HJ2.out.d1.2.1 (e ▸ hq))), W4.set (.inl (.inl rfl))⟩
    case rest =>
    have HWY := hideIt (And.intro HQ.out.2.2.2.2.1 HQ.out.2.2.2.2.2.2)
    clear HQ
    obtain ⟨R5, o5, ow5, S5, W5⟩ := hcut
    obtain ⟨g, eg, _⟩ : ∃ g, sv = .slice (some ⟨g, 0, none⟩) M M ∧ True := by
      obtain ⟨g, e, _⟩ := S5
      exact ⟨g, e, trivial⟩
    subst eg
    have h5 : wc.cell? ⟨b, 5, none⟩ = some (.slice (some ⟨g, 0, none⟩) M M) := R5.sl
    have h4 : wc.cell? ⟨b, 4, none⟩ = some (.int .i64 ((s.rows : Int) + 1)) := R5.ro
    have hp : p < M := by rw [← HPp.out]; exact Nat.mod_lt _ (by have := HJ2.out.m16; omega)
    have hgz : wc.cell? ⟨g, p, none⟩ = some (.int .i32 (f1 p : Int)) ∧ ∀ o, wc.frozen? ⟨g, o, none⟩ = false := by
      obtain ⟨g', e, hg, hf⟩ := S5
      simp only [Value.slice.injEq, Option.some.injEq, Addr.mk.injEq] at e
      obtain ⟨⟨rfl, _⟩, _⟩ := e
      exact ⟨hg _ hp, hf⟩
    obtain ⟨hgz, fzg⟩ := hgz
    have hgb : b ≠ g := fun e => HJ2.out.d1.2.1 (by rw [e]; rfl)
    have p0 : (0 : Int) ≤ p := by omega
    have p1 : (p : Int) < (M : Int) := by omega
    have r1k := HR1K.out
    have hwi2 : IntKind.i32.wrap ((s.rows : Int) + 1) = (s.rows : Int) + 1 := by rw [IntKind.wrap_i32]; omega
    have HQ := hideIt (And.intro R5 (And.intro o5 (And.intro ow5 (And.intro S5 W5))))
    have HP := hideIt hp
    clear R5 o5 ow5 S5 W5 hp
    go_upto_region 9 with fail
    refine wp_region_l (l := 11) (S := (fun w' => w'.cell? ⟨b, 5, none⟩ = some (.slice (some ⟨g, 0, none⟩) M M) ∧ w'.cell? ⟨b, 4, none⟩ = some (.int .i64 ((s.rows : Int) + 1)))) (by kernel_rfl) ⟨h5, h4⟩ (fun hHeld => ?_)
    refine AnyL.take2 (i := 0) (oi := { dst := some 57, op := Go.Op.move (Go.Operand.tmp 0), type := 99, pos := _, after := #[], guard := none }) (v := ?vv4025) (by kernel_rfl) (by kernel_rfl) rfl (by kernel_rfl) (by kernel_rfl) (by kernel_rfl) (fun _ _ _ h => h) (Or.inl ⟨by rfl, ?hy4025⟩) (by assumption) ?tk4025
    case hy4025 => (intro w hSw; (try dsimp only at hSw); go_simp; (try with_reducible rfl))
    try simp only [Act.put, List.setIfInBounds_toArray, List.set_cons_zero, List.set_cons_succ]
    refine AnyL.take2 (i := 1) (oi := { dst := some 58, op := Go.Op.nilCheck (Go.Operand.tmp 57), type := 0, pos := _, after := #[{ on := 0, ground := Go.Ground.data }], guard := none }) (v := ?vv4026) (by kernel_rfl) (by kernel_rfl) rfl (by kernel_rfl) (by kernel_rfl) (by kernel_rfl) (fun _ _ _ h => h) (Or.inl ⟨by rfl, ?hy4026⟩) (by assumption) ?tk4026
    case hy4026 => (intro w hSw; (try dsimp only at hSw); go_simp; (try with_reducible rfl))
    try simp only [Act.put, List.setIfInBounds_toArray, List.set_cons_zero, List.set_cons_succ]
    refine AnyL.take2 (i := 2) (oi := { dst := some 59, op := Go.Op.fieldAddr 98 (Go.Operand.tmp 58) 5, type := 0, pos := _, after := #[{ on := 1, ground := Go.Ground.data }], guard := none }) (v := ?vv4027) (by kernel_rfl) (by kernel_rfl) rfl (by kernel_rfl) (by kernel_rfl) (by kernel_rfl) (fun _ _ _ h => h) (Or.inl ⟨by rfl, ?hy4027⟩) (by assumption) ?tk4027
    case hy4027 => (intro w hSw; (try dsimp only at hSw); go_simp; (try with_reducible rfl))
    try simp only [Act.put, List.setIfInBounds_toArray, List.set_cons_zero, List.set_cons_succ]
    refine AnyL.take2 (i := 3) (oi := { dst := some 60, op := Go.Op.load 80 (Go.Operand.tmp 59), type := 80, pos := _, after := #[{ on := 2, ground := Go.Ground.data }], guard := none }) (v := ?vv4028) (by kernel_rfl) (by kernel_rfl) rfl (by kernel_rfl) (by kernel_rfl) (by kernel_rfl) (fun _ _ _ h => h) (Or.inl ⟨by rfl, ?hy4028⟩) (by assumption) ?tk4028
    case hy4028 => (intro w hSw; (try dsimp only at hSw); go_simp; (try with_reducible rfl))
    try simp only [Act.put, List.setIfInBounds_toArray, List.set_cons_zero, List.set_cons_succ]
    refine AnyL.take2 (i := 4) (oi := { dst := some 61, op := Go.Op.move (Go.Operand.tmp 7), type := 3, pos := _, after := #[], guard := none }) (v := ?vv4029) (by kernel_rfl) (by kernel_rfl) rfl (by kernel_rfl) (by kernel_rfl) (by kernel_rfl) (fun _ _ _ h => h) (Or.inl ⟨by rfl, ?hy4029⟩) (by assumption) ?tk4029
    case hy4029 => (intro w hSw; (try dsimp only at hSw); go_simp; (try with_reducible rfl))
    try simp only [Act.put, List.setIfInBounds_toArray, List.set_cons_zero, List.set_cons_succ]
    refine AnyL.take2 (i := 5) (oi := { dst := some 62, op := Go.Op.move (Go.Operand.tmp 0), type := 99, pos := _, after := #[], guard := none }) (v := ?vv4030) (by kernel_rfl) (by kernel_rfl) rfl (by kernel_rfl) (by kernel_rfl) (by kernel_rfl) (fun _ _ _ h => h) (Or.inl ⟨by rfl, ?hy4030⟩) (by assumption) ?tk4030
    case hy4030 => (intro w hSw; (try dsimp only at hSw); go_simp; (try with_reducible rfl))
    try simp only [Act.put, List.setIfInBounds_toArray, List.set_cons_zero, List.set_cons_succ]
    refine AnyL.take2 (i := 6) (oi := { dst := some 63, op := Go.Op.nilCheck (Go.Operand.tmp 62), type := 0, pos := _, after := #[{ on := 5, ground := Go.Ground.data }], guard := none }) (v := ?vv4031) (by kernel_rfl) (by kernel_rfl) rfl (by kernel_rfl) (by kernel_rfl) (by kernel_rfl) (fun _ _ _ h => h) (Or.inl ⟨by rfl, ?hy4031⟩) (by assumption) ?tk4031
    case hy4031 => (intro w hSw; (try dsimp only at hSw); go_simp; (try with_reducible rfl))
    try simp only [Act.put, List.setIfInBounds_toArray, List.set_cons_zero, List.set_cons_succ]
    refine AnyL.take2 (i := 7) (oi := { dst := some 64, op := Go.Op.fieldAddr 98 (Go.Operand.tmp 63) 4, type := 0, pos := _, after := #[{ on := 6, ground := Go.Ground.data }], guard := none }) (v := ?vv4032) (by kernel_rfl) (by kernel_rfl) rfl (by kernel_rfl) (by kernel_rfl) (by kernel_rfl) (fun _ _ _ h => h) (Or.inl ⟨by rfl, ?hy4032⟩) (by assumption) ?tk4032
    case hy4032 => (intro w hSw; (try dsimp only at hSw); go_simp; (try with_reducible rfl))
    try simp only [Act.put, List.setIfInBounds_toArray, List.set_cons_zero, List.set_cons_succ]
    refine AnyL.take2 (i := 8) (oi := { dst := some 65, op := Go.Op.load 3 (Go.Operand.tmp 64), type := 3, pos := _, after := #[{ on := 7, ground := Go.Ground.data }], guard := none }) (v := ?vv4033) (by kernel_rfl) (by kernel_rfl) rfl (by kernel_rfl) (by kernel_rfl) (by kernel_rfl) (fun _ _ _ h => h) (Or.inl ⟨by rfl, ?hy4033⟩) (by assumption) ?tk4033
    case hy4033 => (intro w hSw; (try dsimp only at hSw); go_simp; (try with_reducible rfl))
    try simp only [Act.put, List.setIfInBounds_toArray, List.set_cons_zero, List.set_cons_succ]
    refine AnyL.take2 (i := 9) (oi := { dst := some 66, op := Go.Op.convert 3 21 (Go.Operand.tmp 65), type := 21, pos := _, after := #[{ on := 8, ground := Go.Ground.data }], guard := none }) (v := ?vv4034) (by kernel_rfl) (by kernel_rfl) rfl (by kernel_rfl) (by kernel_rfl) (by kernel_rfl) (fun _ _ _ h => h) (Or.inl ⟨by rfl, ?hy4034⟩) (by assumption) ?tk4034
    case hy4034 => (intro w hSw; (try dsimp only at hSw); go_simp; (try with_reducible rfl))
    try simp only [Act.put, List.setIfInBounds_toArray, List.set_cons_zero, List.set_cons_succ]
    refine AnyL.take2 (i := 10) (oi := { dst := some 67, op := Go.Op.indexAddr 80 (Go.Operand.tmp 60) (Go.Operand.tmp 61), type := 0, pos := _, after := #[{ on := 3, ground := Go.Ground.data }, { on := 4, ground := Go.Ground.data }, { on := 0, ground := Go.Ground.phase }, { on := 1, ground := Go.Ground.phase }, { on := 2, ground := Go.Ground.phase }, { on := 3, ground := Go.Ground.phase }, { on := 4, ground := Go.Ground.phase }, { on := 5, ground := Go.Ground.phase }, { on := 6, ground := Go.Ground.phase }, { on := 7, ground := Go.Ground.phase }, { on := 8, ground := Go.Ground.phase }, { on := 9, ground := Go.Ground.phase }], guard := none }) (v := ?vv4035) (by kernel_rfl) (by kernel_rfl) rfl (by kernel_rfl) (by kernel_rfl) (by kernel_rfl) (fun _ _ _ h => h) (Or.inl ⟨by rfl, ?hy4035⟩) (by assumption) ?tk4035
    case hy4035 => (intro w hSw; (try dsimp only at hSw); go_simp; (try with_reducible rfl))
    try simp only [Act.put, List.setIfInBounds_toArray, List.set_cons_zero, List.set_cons_succ]
    refine AnyL.last (o := { dst := none, op := Go.Op.store 21 (Go.Operand.tmp 67) (Go.Operand.tmp 66), type := 0, pos := _, after := #[{ on := 10, ground := Go.Ground.data }, { on := 9, ground := Go.Ground.data }, { on := 0, ground := Go.Ground.phase }, { on := 1, ground := Go.Ground.phase }, { on := 2, ground := Go.Ground.phase }, { on := 3, ground := Go.Ground.phase }, { on := 4, ground := Go.Ground.phase }, { on := 5, ground := Go.Ground.phase }, { on := 6, ground := Go.Ground.phase }, { on := 7, ground := Go.Ground.phase }, { on := 8, ground := Go.Ground.phase }, { on := 9, ground := Go.Ground.phase }], guard := none }) (by kernel_rfl) rfl (by kernel_rfl) (fun K' hK' => ?_)
    go_simp
    clear hHeld
    refine hK'.out _ _ ?_
    clear hK' K'
    try simp only [Act.put, List.setIfInBounds_toArray, List.set_cons_zero, List.set_cons_succ]
    go_wp2
    go_ret
    obtain ⟨R5, o5, ow5, S5, W5⟩ := HQ.out
    have J := HJ2.out
    obtain ⟨hno, hDM, hD0, hD1⟩ := HTp.out
    have hg1 : ∀ q, da.ownBlock = some q → q ≠ g := fun q hq e => (HD12.out.2 q hq).1 (by rw [e]; rfl)
    have hg2 : ∀ q, wy.ownBlock = some q → q ≠ g := fun q hq e => (HW12.out.2 q hq).1 (by rw [e]; rfl)
    have S6 := slot_put (sz := p) (x := s.rows + 1) S5
    have hTp := (J.T.tbl.put (by have := J.fit; have := J.m16; show s.rows + 1 < M; omega) hDM hD0 hD1).st_congr (st' := stF (catR d (s.rows * s.A) r) s.A M) (fun j hj => by
      show (if j = s.rows then hashN r s.A % M else stF d s.A M j) = _
      split
      · rename_i q; rw [q, stF_new]
      · rename_i q; rw [stF_cat (by omega)])
    rw [HPp.out] at hTp
    have o5' : wc.ownsRow 0 109 1 da ((s.rows + 1) * s.A) (symL (catR d (s.rows * s.A) r) ((s.rows + 1) * s.A)) := by rw [Nat.add_mul, Nat.one_mul]; exact o5
    refine ⟨{ s with slots := .slice (some ⟨g, 0, none⟩) M M, data := da, why := wy, rows := s.rows + 1 }, catR d (s.rows * s.A) r, M, _, true, rfl, ⟨(R5.blk (far_set hgb)).drew, own_one o5' (fun q hq => far_set (hg1 q hq)), ⟨_, own_one ow5 (fun q hq => far_set (hg2 q hq))⟩, .inr ⟨J.m16, S6.blk (fun _ _ => rfl), hTp⟩, J.fit, ?_, .inr J.pw, distR_cat HT0.out.dist hno, ⟨HD12.out.1, J.d1.2.1, HW12.out.1⟩, fun q hq => ⟨(HD12.out.2 q hq).1, fun e => (HW12.out.2 q e).2 hq⟩, fun q hq e => (HW12.out.2 q e).1 hq, HT0.out.a0, HT0.out.a1, val_cat HT0.out.val HRV.out⟩, ⟨rfl, rfl, rfl, rfl, fun h => by (cases h), fun _ => ⟨rfl, rfl, hno⟩⟩, ?_, ?_⟩
    · have := J.big; show M ≤ 16 ∨ 3 * M ≤ 8 * (s.rows + 1 + 1); omega
    · refine (W5.set ?_).drew
      rcases J.fpS rfl with z | z
      · exact .inl (.inr (.inr (.inl z)))
      · exact .inr z
    · rintro q (rfl | hq | hq | hq)
      · exact .inl (.inl rfl)
      · rcases HDA.out.1 with z | z
        · exact .inl (.inr (.inl (z ▸ hq)))
        · exact .inr (Nat.le_trans J.W.size (z q hq))
      · rcases J.fpS hq with z | z
        · exact .inl (.inr (.inr (.inl z)))
        · exact .inr z
      · rcases HWY.out.1 with z | z
        · exact .inl (.inr (.inr (.inr (z ▸ hq))))
        · exact .inr (Nat.le_trans J.W.size (Nat.le_trans HDA.out.2 (z q hq)))
end Go.Proofs.Qxb6500880aGreat
