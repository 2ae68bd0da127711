import Derived.Deep.CutBlock
import Derived.OwnWalk
import Derived.Maps.AppendAt
import Derived.Maps.OwnSet
import Derived.Maps.OwnOps
import Derived.Laws.ResultCell
import Derived.Test.Qxb6500880aZa
set_option linter.unusedVariables false
set_option linter.unusedSimpArgs false
namespace Go.Proofs.Qxb6500880a
open Go.RowKit

theorem clear_self {w : World} {mb : Nat} (h : PM0 w mb) (ty : TypeId) : (Builtin.clear_ #[216] ty #[.map (some mb)]).run Try.prog w = .ok (.tuple #[]) w := by
  unfold PM0 at h
  obtain ⟨hl, he⟩ := Array.getElem?_eq_some_iff.mp h
  have e : w.heap.setIfInBounds mb (.map #[] 0) = w.heap := by
    apply Array.ext
    · simp
    · intro i h1 h2
      rw [Array.getElem_setIfInBounds]
      split
      · rename_i q
        subst q
        exact he.symm
      · rfl
  have e2 : ({ w with heap := w.heap.setIfInBounds mb (.map #[] 0) } : World) = w := by rw [e]
  simp [Builtin.clear_, run_underlying Try.underlying216, h, run_getObj_map w _ _ _ h, setObj_map _ h, e2]
theorem ckey99 (e : Bool) (n : Int) (w : World) : (Instr.checkKey e 10000 99 (.int .u32 n)).run Try.prog w = .ok () w := by
  have h : ∀ d, (Instr.checkKey e (d + 1) 99 (.int .u32 n)).run Try.prog w = .ok () w := fun d => by simp [Instr.checkKey, run_underlying Try.underlying99]
  exact h 9999
theorem info3 : (Try.prog.info? 3).map (fun i => (i.zero, i.size, i.bytes)) = some (some (.int .i64 0), 1, 8) := by kernel_rfl
def PS1 (w : World) (mb : Nat) : Prop := w.heap[mb]? = some (.map #[{ key := .int .u32 0, val := .agg #[], born := 0 }] 1)
theorem PM0.putS {w : World} {mb : Nat} (h : PM0 w mb) : ∃ w', (Instr.mapUpdate 216 (.map (some mb)) (.int .u32 0) (.agg #[])).run Try.prog w = .ok () w' ∧ PS1 w' mb ∧ Wr mb w w' := by
  unfold PM0 at h
  have hl : mb < w.heap.size := (Array.getElem?_eq_some_iff.mp h).1
  refine ⟨{ w with heap := w.heap.setIfInBounds mb (.map #[{ key := .int .u32 0, val := .agg #[], born := 0 }] 1) }, ?_, ?_, ?_⟩
  · simp [Instr.mapUpdate, run_underlying Try.underlying216, run_underlying Try.underlying99, h, ckey99, Instr.findKey, Instr.findNow, run_getObj_map w _ _ _ h, setObj_map _ h]
  · simp [PS1, hl]
  · refine ⟨rfl, rfl, rfl, by simp, fun q h1 h2 => ?_⟩
    rw [Array.getElem?_setIfInBounds_ne (fun e => h2 e.symm)]
theorem PS1.len {w : World} {mb : Nat} (h : PS1 w mb) (ty : TypeId) : (Builtin.len_ #[216] ty #[.map (some mb)]).run Try.prog w = .ok (.int .i64 1) w := by
  unfold PS1 at h
  simp [Builtin.len_, run_underlying Try.underlying216, h, run_getObj_map w _ _ _ h]
  rfl
theorem sl_nil (w : World) : (binOp .eql 86 (.slice none 0 0) (.slice none 0 0)).run Try.prog w = .ok (.bool true) w := by
  have h : ∀ d, (Op.equalIn (d + 1) 86 (.slice none 0 0) (.slice none 0 0)).run Try.prog w = .ok true w := fun d => by simp [Op.equalIn, run_underlying Try.underlying86]
  simp [binOp, Op.equal, Op.maxDepth, h 9999]
theorem sl_some (g n c : Nat) (w : World) : (binOp .eql 86 (.slice (some ⟨g, 0, none⟩) n c) (.slice none 0 0)).run Try.prog w = .ok (.bool false) w := by
  have h : ∀ d, (Op.equalIn (d + 1) 86 (.slice (some ⟨g, 0, none⟩) n c) (.slice none 0 0)).run Try.prog w = .ok false w := fun d => by simp [Op.equalIn, run_underlying Try.underlying86]
  simp [binOp, Op.equal, Op.maxDepth, h 9999]
/-- The spread of p's one column: not yet taken, or one. -/
def SprOk (S : Nat → Prop) (w : World) (s : RelS) : Prop := s.spr = .slice none 0 0 ∨ ∃ g, s.spr = .slice (some ⟨g, 0, none⟩) 1 1 ∧ w.cell? ⟨g, 0, none⟩ = some (.int .i64 1) ∧ s.sat = 1 ∧ ¬ S g
theorem SprOk.ws {S : Nat → Prop} {w w' : World} {s : RelS} (h : SprOk S w s) (W : Ws S w w') : SprOk S w' s := by
  rcases h with h | ⟨g, h1, h2, h3, h4⟩
  · exact .inl h
  · exact .inr ⟨g, h1, (World.cell?_of_block (a := ⟨g, 0, none⟩) (W.block g (World.block_lt_of_cell? _ _ h2) h4)).trans h2, h3, h4⟩
set_option maxRecDepth 20000 in
set_option maxHeartbeats 8000000 in
theorem spread_any {S : Nat → Prop} {w : World} {rb : Nat} {nm : ByteArray} {s : RelS} (H : RelAt w rb nm s) (hA : s.A = 1) (hr : s.rows = 1) (hd : SymZ w s.data 1) (hdr : s.data.ownBlock ≠ some rb) (hS : SprOk S w s) (hSl : ∀ q, S q → q < w.heap.size) (hSr : S rb) :
    Calls Try.prog 87 #[.pointer (some ⟨rb, 0, none⟩), .int .i64 0] w fun e w' => e = .returned (.int .i64 1) ∧ ∃ sp sa, RelAt w' rb nm { s with spr := sp, sat := sa } ∧ SprOk S w' { s with spr := sp, sat := sa } ∧ Wr rb w w' := by
  obtain ⟨i0_, hi_, hz0, hz1, hz2⟩ := info_parts info3
  have hl := H.lt
  have h1 := H.ar
  have h3 := H.da
  have h4 := H.ro
  have h8 := H.sp
  have h9 := H.sa
  have fz := H.fz
  rw [hA] at h1
  rw [hr] at h4
  rcases hS with hs | ⟨g, hs1, hs2, hs3, hs4⟩
  · rw [hs] at h8
    have HQ := hideIt (And.intro H (And.intro hd (And.intro hdr hs)))
    obtain ⟨pd, cd, ed, hcd, hd'⟩ := hd
    rw [ed] at h3
    obtain ⟨gd, off, rfl, hz⟩ : ∃ gd off, pd = some ⟨gd, off, none⟩ ∧ w.cell? ⟨gd, off, none⟩ = some (.int .u32 0) := by
      rcases hd' with h | ⟨gd, off, e, h⟩
      · omega
      · exact ⟨gd, off, e, h 0 (by omega)⟩
    have hgd : gd ≠ rb := fun e => hdr (by rw [ed, e]; rfl)
    have hmm := @run_makeMap Try.prog
    have heq := sl_nil
    have HA1 := hideIt hA
    have HED := hideIt ed
    clear H hdr hs hd' ed hA hr
    go_enter Try.func87, Try.ntmps87
    go_upto_region 1 with fail
    refine wp_region_held_drew (S := (fun w' => w'.cell? ⟨rb, 8, none⟩ = some (.slice none 0 0))) (by kernel_rfl) h8 (fun hHeld => ?_)
    refine wpAnyH_take (i := 0) (oi := { dst := some 8, op := Go.Op.move (Go.Operand.tmp 0), type := 89, pos := _, after := #[], guard := none }) (v := ?vv23001) rfl (by kernel_rfl) (by kernel_rfl) (by kernel_rfl) (fun _ _ _ h => h) (Or.inl ⟨by rfl, ?hy23001⟩) (by assumption) ?tk23001
    case hy23001 => (intro w hSw; (try dsimp only at hSw); go_simp; (try with_reducible rfl))
    try simp only [Act.put, List.setIfInBounds_toArray, List.set_cons_zero, List.set_cons_succ]
    refine wpAnyH_take (i := 1) (oi := { dst := some 9, op := Go.Op.nilCheck (Go.Operand.tmp 8), type := 0, pos := _, after := #[{ on := 0, ground := Go.Ground.data }], guard := none }) (v := ?vv23002) rfl (by kernel_rfl) (by kernel_rfl) (by kernel_rfl) (fun _ _ _ h => h) (Or.inl ⟨by rfl, ?hy23002⟩) (by assumption) ?tk23002
    case hy23002 => (intro w hSw; (try dsimp only at hSw); go_simp; (try with_reducible rfl))
    try simp only [Act.put, List.setIfInBounds_toArray, List.set_cons_zero, List.set_cons_succ]
    refine wpAnyH_take (i := 2) (oi := { dst := some 10, op := Go.Op.fieldAddr 88 (Go.Operand.tmp 9) 8, type := 0, pos := _, after := #[{ on := 1, ground := Go.Ground.data }], guard := none }) (v := ?vv23003) rfl (by kernel_rfl) (by kernel_rfl) (by kernel_rfl) (fun _ _ _ h => h) (Or.inl ⟨by rfl, ?hy23003⟩) (by assumption) ?tk23003
    case hy23003 => (intro w hSw; (try dsimp only at hSw); go_simp; (try with_reducible rfl))
    try simp only [Act.put, List.setIfInBounds_toArray, List.set_cons_zero, List.set_cons_succ]
    refine wpAnyH_take (i := 3) (oi := { dst := some 11, op := Go.Op.load 86 (Go.Operand.tmp 10), type := 86, pos := _, after := #[{ on := 2, ground := Go.Ground.data }], guard := none }) (v := ?vv23004) rfl (by kernel_rfl) (by kernel_rfl) (by kernel_rfl) (fun _ _ _ h => h) (Or.inl ⟨by rfl, ?hy23004⟩) (by assumption) ?tk23004
    case hy23004 => (intro w hSw; (try dsimp only at hSw); go_simp; (try with_reducible rfl))
    try simp only [Act.put, List.setIfInBounds_toArray, List.set_cons_zero, List.set_cons_succ]
    refine wpAnyH_take (i := 4) (oi := { dst := some 12, op := Go.Op.binOp Go.BinOp.eql 86 (Go.Operand.tmp 11) (Go.Operand.const (Go.Value.slice none 0 0)) 86, type := 4, pos := _, after := #[{ on := 3, ground := Go.Ground.data }], guard := none }) (v := ?vv23005) rfl (by kernel_rfl) (by kernel_rfl) (by kernel_rfl) (fun _ _ _ h => h) (Or.inl ⟨by rfl, ?hy23005⟩) (by assumption) ?tk23005
    case hy23005 => (intro w hSw; (try dsimp only at hSw); go_simp; (try with_reducible rfl))
    try simp only [Act.put, List.setIfInBounds_toArray, List.set_cons_zero, List.set_cons_succ]
    refine wpAnyH_take (i := 5) (oi := { dst := some 13, op := Go.Op.move (Go.Operand.tmp 12), type := 4, pos := _, after := #[{ on := 4, ground := Go.Ground.data }], guard := none }) (v := ?vv23006) rfl (by kernel_rfl) (by kernel_rfl) (by kernel_rfl) (fun _ _ _ h => h) (Or.inl ⟨by rfl, ?hy23006⟩) (by assumption) ?tk23006
    case hy23006 => (intro w hSw; (try dsimp only at hSw); go_simp; (try with_reducible rfl))
    try simp only [Act.put, List.setIfInBounds_toArray, List.set_cons_zero, List.set_cons_succ]
    refine wpAnyH_take (i := 6) (oi := { dst := some 14, op := Go.Op.move (Go.Operand.tmp 0), type := 89, pos := _, after := #[{ on := 5, ground := Go.Ground.guard }], guard := some (5, false) }) (v := undef) rfl (by kernel_rfl) (by kernel_rfl) (by kernel_rfl) (fun _ _ _ h => h) (Or.inr ⟨by rfl, rfl⟩) (by assumption) ?tk23007
    try simp only [Act.put, List.setIfInBounds_toArray, List.set_cons_zero, List.set_cons_succ]
    refine wpAnyH_take (i := 7) (oi := { dst := some 15, op := Go.Op.nilCheck (Go.Operand.tmp 14), type := 0, pos := _, after := #[{ on := 6, ground := Go.Ground.data }, { on := 5, ground := Go.Ground.guard }], guard := some (5, false) }) (v := undef) rfl (by kernel_rfl) (by kernel_rfl) (by kernel_rfl) (fun _ _ _ h => h) (Or.inr ⟨by rfl, rfl⟩) (by assumption) ?tk23008
    try simp only [Act.put, List.setIfInBounds_toArray, List.set_cons_zero, List.set_cons_succ]
    refine wpAnyH_take (i := 8) (oi := { dst := some 16, op := Go.Op.fieldAddr 88 (Go.Operand.tmp 15) 9, type := 0, pos := _, after := #[{ on := 7, ground := Go.Ground.data }, { on := 5, ground := Go.Ground.guard }], guard := some (5, false) }) (v := undef) rfl (by kernel_rfl) (by kernel_rfl) (by kernel_rfl) (fun _ _ _ h => h) (Or.inr ⟨by rfl, rfl⟩) (by assumption) ?tk23009
    try simp only [Act.put, List.setIfInBounds_toArray, List.set_cons_zero, List.set_cons_succ]
    refine wpAnyH_take (i := 9) (oi := { dst := some 17, op := Go.Op.load 3 (Go.Operand.tmp 16), type := 3, pos := _, after := #[{ on := 8, ground := Go.Ground.data }, { on := 5, ground := Go.Ground.guard }], guard := some (5, false) }) (v := undef) rfl (by kernel_rfl) (by kernel_rfl) (by kernel_rfl) (fun _ _ _ h => h) (Or.inr ⟨by rfl, rfl⟩) (by assumption) ?tk23010
    try simp only [Act.put, List.setIfInBounds_toArray, List.set_cons_zero, List.set_cons_succ]
    refine wpAnyH_take (i := 10) (oi := { dst := some 18, op := Go.Op.move (Go.Operand.tmp 0), type := 89, pos := _, after := #[{ on := 5, ground := Go.Ground.guard }], guard := some (5, false) }) (v := undef) rfl (by kernel_rfl) (by kernel_rfl) (by kernel_rfl) (fun _ _ _ h => h) (Or.inr ⟨by rfl, rfl⟩) (by assumption) ?tk23011
    try simp only [Act.put, List.setIfInBounds_toArray, List.set_cons_zero, List.set_cons_succ]
    refine wpAnyH_take (i := 11) (oi := { dst := some 19, op := Go.Op.nilCheck (Go.Operand.tmp 18), type := 0, pos := _, after := #[{ on := 10, ground := Go.Ground.data }, { on := 5, ground := Go.Ground.guard }], guard := some (5, false) }) (v := undef) rfl (by kernel_rfl) (by kernel_rfl) (by kernel_rfl) (fun _ _ _ h => h) (Or.inr ⟨by rfl, rfl⟩) (by assumption) ?tk23012
    try simp only [Act.put, List.setIfInBounds_toArray, List.set_cons_zero, List.set_cons_succ]
    refine wpAnyH_take (i := 12) (oi := { dst := some 20, op := Go.Op.fieldAddr 88 (Go.Operand.tmp 19) 4, type := 0, pos := _, after := #[{ on := 11, ground := Go.Ground.data }, { on := 5, ground := Go.Ground.guard }], guard := some (5, false) }) (v := undef) rfl (by kernel_rfl) (by kernel_rfl) (by kernel_rfl) (fun _ _ _ h => h) (Or.inr ⟨by rfl, rfl⟩) (by assumption) ?tk23013
    try simp only [Act.put, List.setIfInBounds_toArray, List.set_cons_zero, List.set_cons_succ]
    refine wpAnyH_take (i := 13) (oi := { dst := some 21, op := Go.Op.load 3 (Go.Operand.tmp 20), type := 3, pos := _, after := #[{ on := 12, ground := Go.Ground.data }, { on := 5, ground := Go.Ground.guard }], guard := some (5, false) }) (v := undef) rfl (by kernel_rfl) (by kernel_rfl) (by kernel_rfl) (fun _ _ _ h => h) (Or.inr ⟨by rfl, rfl⟩) (by assumption) ?tk23014
    try simp only [Act.put, List.setIfInBounds_toArray, List.set_cons_zero, List.set_cons_succ]
    refine wpAnyH_take (i := 14) (oi := { dst := some 22, op := Go.Op.binOp Go.BinOp.neq 3 (Go.Operand.tmp 17) (Go.Operand.tmp 21) 3, type := 4, pos := _, after := #[{ on := 9, ground := Go.Ground.data }, { on := 13, ground := Go.Ground.data }, { on := 5, ground := Go.Ground.guard }], guard := some (5, false) }) (v := undef) rfl (by kernel_rfl) (by kernel_rfl) (by kernel_rfl) (fun _ _ _ h => h) (Or.inr ⟨by rfl, rfl⟩) (by assumption) ?tk23015
    try simp only [Act.put, List.setIfInBounds_toArray, List.set_cons_zero, List.set_cons_succ]
    refine wpAnyH_take (i := 15) (oi := { dst := some 23, op := Go.Op.pick (Go.Operand.tmp 13) (Go.Operand.const (Go.Value.bool true)) (Go.Operand.tmp 22), type := 4, pos := _, after := #[{ on := 5, ground := Go.Ground.data }, { on := 14, ground := Go.Ground.data }], guard := none }) (v := ?vv23016) rfl (by kernel_rfl) (by kernel_rfl) (by kernel_rfl) (fun _ _ _ h => h) (Or.inl ⟨by rfl, ?hy23016⟩) (by assumption) ?tk23016
    case hy23016 => (intro w hSw; (try dsimp only at hSw); go_simp; (try with_reducible rfl))
    try simp only [Act.put, List.setIfInBounds_toArray, List.set_cons_zero, List.set_cons_succ]
    refine wpAnyH_done (by kernel_rfl) ?_ _
    clear hHeld
    have k1 : w.drew.cell? ⟨rb, 1, none⟩ = some (.int .i64 1) := h1
    have k3 : w.drew.cell? ⟨rb, 3, none⟩ = some (.slice (some ⟨gd, off, none⟩) 1 cd) := h3
    have k4 : w.drew.cell? ⟨rb, 4, none⟩ = some (.int .i64 1) := h4
    have k8 : w.drew.cell? ⟨rb, 8, none⟩ = some (.slice none 0 0) := h8
    have k9 : w.drew.cell? ⟨rb, 9, none⟩ = some (.int .i64 s.sat) := h9
    have kf : ∀ o, w.drew.frozen? ⟨rb, o, none⟩ = false := fz
    have kz : w.drew.cell? ⟨gd, off, none⟩ = some (.int .u32 0) := hz
    have HD := hideIt (show w.drew.heap = w.heap from rfl)
    have HB0 := hideIt (below_dr (Below.refl w.heap.size w))
    have hlD : rb < w.drew.heap.size := hl
    have HLE := hideIt (Nat.le_refl w.heap.size)
    clear h1 h3 h4 h8 h9 fz hz
    generalize hwd : w.drew = wd at *
    go_wp2_with (first | (at_make; refine wpList_make_full _ rfl _ _ 86 rfl wd.heap.size 3 i0_ _ 1 Try.underlying86 hi_ hz0 hz1 .i64 .i64 1 1 1 rfl rfl rfl rfl (by rw [hz2]; omega) (by unfold maxLen; omega) (Nat.le_refl _) ?_) | go_in)
    intro w3 hown3 hgrow3
    have hb3 : Below wd.heap.size wd w3 := ⟨hgrow3.os, hgrow3.tape, hgrow3.output, hgrow3.size, fun k hk => hgrow3.block k hk (by simp)⟩
    have hg3 : wd.heap.size < w3.heap.size := (hown3.lt wd.heap.size rfl).2
    have m0 : w3.cell? ⟨wd.heap.size, 0, none⟩ = some (.int .i64 0) := by
      have e := hown3.cellAt 0 (by omega)
      rw [made_one, List.getElem?_replicate, if_pos (by omega)] at e
      exact e
    have mf : ∀ o, w3.frozen? ⟨wd.heap.size, o, none⟩ = false := fun o => hown3.frozenAt o
    have q1 := cell_later hb3 k1
    have q3 := cell_later hb3 k3
    have q4 := cell_later hb3 k4
    have q8 := cell_later hb3 k8
    have q9 := cell_later hb3 k9
    have qz := cell_later hb3 kz
    have qf : ∀ o, w3.frozen? ⟨rb, o, none⟩ = false := fun o => (World.frozen?_of_block (a := ⟨rb, o, none⟩) (hb3.block rb hlD)).trans (kf o)
    have HB3 := hideIt (And.intro hb3 hg3)
    clear hown3 hgrow3 k1 k3 k4 k8 k9 kz kf hb3
    generalize hg8 : wd.heap.size = g8 at *
    have hgr : g8 ≠ rb := by omega
    go_upto_region 5 with fail
    obtain ⟨H, hd, hdr, hs⟩ := HQ.out
    have HR3 : RelAt w3 rb nm s := (hwd ▸ H.drew : RelAt wd rb nm s).blk (HB3.out.1.block rb hlD)
    have RS : RelAt ((w3.setCell ⟨rb, 8, none⟩ (.slice (some ⟨g8, 0, none⟩) 1 1)).setCell ⟨rb, 9, none⟩ (.int .i64 1)) rb nm { s with spr := .slice (some ⟨g8, 0, none⟩) 1 1, sat := 1 } := (HR3.put_spr _).put_sat 1
    have bM := one_alloc ((w3.setCell ⟨rb, 8, none⟩ (.slice (some ⟨g8, 0, none⟩) 1 1)).setCell ⟨rb, 9, none⟩ (.int .i64 1)) (.map #[] 0)
    have RS4 := RS.below bM
    have P0 := PM0_new ((w3.setCell ⟨rb, 8, none⟩ (.slice (some ⟨g8, 0, none⟩) 1 1)).setCell ⟨rb, 9, none⟩ (.int .i64 1))
    have mbe : ((w3.setCell ⟨rb, 8, none⟩ (.slice (some ⟨g8, 0, none⟩) 1 1)).setCell ⟨rb, 9, none⟩ (.int .i64 1)).heap.size = w3.heap.size := by simp
    rw [mbe] at P0
    have hgdl : gd < w3.heap.size := World.block_lt_of_cell? _ _ qz
    have e8 : (((w3.setCell ⟨rb, 8, none⟩ (.slice (some ⟨g8, 0, none⟩) 1 1)).setCell ⟨rb, 9, none⟩ (.int .i64 1)).alloc (.map #[] 0)).heap[g8]? = w3.heap[g8]? := (bM.block g8 (by rw [mbe]; omega)).trans ((far_set hgr).trans (far_set hgr))
    have ed : (((w3.setCell ⟨rb, 8, none⟩ (.slice (some ⟨g8, 0, none⟩) 1 1)).setCell ⟨rb, 9, none⟩ (.int .i64 1)).alloc (.map #[] 0)).heap[gd]? = w3.heap[gd]? := (bM.block gd (by rw [mbe]; omega)).trans ((far_set hgd).trans (far_set hgd))
    have n0 := (World.cell?_of_block (a := ⟨g8, 0, none⟩) e8).trans m0
    have nf : ∀ o, (((w3.setCell ⟨rb, 8, none⟩ (.slice (some ⟨g8, 0, none⟩) 1 1)).setCell ⟨rb, 9, none⟩ (.int .i64 1)).alloc (.map #[] 0)).frozen? ⟨g8, o, none⟩ = false := fun o => (World.frozen?_of_block (a := ⟨g8, o, none⟩) e8).trans (mf o)
    have nz := (World.cell?_of_block (a := ⟨gd, off, none⟩) ed).trans qz
    have W4w : Wr rb w3 (((w3.setCell ⟨rb, 8, none⟩ (.slice (some ⟨g8, 0, none⟩) 1 1)).setCell ⟨rb, 9, none⟩ (.int .i64 1)).alloc (.map #[] 0)) := ((Wr.refl rb w3).set.set).below bM
    have hs4 : (((w3.setCell ⟨rb, 8, none⟩ (.slice (some ⟨g8, 0, none⟩) 1 1)).setCell ⟨rb, 9, none⟩ (.int .i64 1)).alloc (.map #[] 0)).heap.size = w3.heap.size + 1 := by simp
    obtain ⟨mb, hmb⟩ : ∃ mb, w3.heap.size = mb := ⟨_, rfl⟩
    have HW4 := hideIt (And.intro W4w (And.intro RS4 hs4))
    have hmbl : mb < (((w3.setCell ⟨rb, 8, none⟩ (.slice (some ⟨g8, 0, none⟩) 1 1)).setCell ⟨rb, 9, none⟩ (.int .i64 1)).alloc (.map #[] 0)).heap.size := by omega
    rw [hmb] at P0
    clear q1 q3 q4 q8 q9 qz qf m0 mf H HR3 RS bM e8 ed mbe W4w hs4
    rw [hmb]
    generalize (((w3.setCell ⟨rb, 8, none⟩ (.slice (some ⟨g8, 0, none⟩) 1 1)).setCell ⟨rb, 9, none⟩ (.int .i64 1)).alloc (.map #[] 0)) = w4 at *
    have x1 := RS4.ar
    have x3 := RS4.da
    have l8 := RS4.sp
    have l1 : w4.cell? ⟨rb, 1, none⟩ = some (.int .i64 1) := by rw [HA1.out] at x1; exact x1
    have l3 : w4.cell? ⟨rb, 3, none⟩ = some (.slice (some ⟨gd, off, none⟩) 1 cd) := by rw [← HED.out]; exact x3
    clear x1 x3
    obtain ⟨w5, hrun, P5, W5⟩ := P0.putS
    have hcl := clear_self P0
    have c1 := (World.cell?_of_block (a := ⟨rb, 1, none⟩) (W5.block rb (by omega) (by omega))).trans l1
    have c3 := (World.cell?_of_block (a := ⟨rb, 3, none⟩) (W5.block rb (by omega) (by omega))).trans l3
    have c8 := (World.cell?_of_block (a := ⟨rb, 8, none⟩) (W5.block rb (by omega) (by omega))).trans l8
    have c0 := (World.cell?_of_block (a := ⟨g8, 0, none⟩) (W5.block g8 (by omega) (by omega))).trans n0
    have cf : ∀ o, w5.frozen? ⟨g8, o, none⟩ = false := fun o => (World.frozen?_of_block (a := ⟨g8, o, none⟩) (W5.block g8 (by omega) (by omega))).trans (nf o)
    have hln : ∀ w', w'.heap[mb]? = w5.heap[mb]? → ∀ ty, (Builtin.len_ #[216] ty #[.map (some mb)]).run Try.prog w' = .ok (.int .i64 1) w' := fun w' e ty => (show PS1 w' mb from e.trans P5).len ty
    have HX := hideIt (And.intro RS4 (And.intro W5 (And.intro hd hs)))
    have hsz4 : rb < w4.heap.size ∧ g8 < w4.heap.size := by omega
    clear RS4 W5 P5 P0 hd hdr hs n0 nf
    go_wp2_with fail
    go_loopg [45] 1 (fun gg v wr => ∃ i : Nat, i + gg = 1 ∧ v = .int .i64 (i : Int) ∧ (i = 0 → wr = w4) ∧ (i = 1 → wr = (World.drew w5).setCell ⟨g8, 0, none⟩ (.int .i64 1)))
    case atStart => exact ⟨0, by omega, rfl, fun _ => rfl, fun h => by omega⟩
    case round =>
      obtain ⟨i, hi, rfl, hI0, hI1⟩ := hrel
      by_cases hin : i < 1
      · have hi0 : i = 0 := by omega
        subst hi0
        have e := (hI0 rfl).symm
        subst e
        clear hI0 hI1
        go_wp2_with fail
        go_loopg [7] 1 (fun gg v wx => ∃ k : Nat, k + gg = 1 ∧ v = .int .i64 (k : Int) ∧ (k = 0 → wx = w4) ∧ (k = 1 → wx = w5))
        case atStart => exact ⟨0, by omega, rfl, fun _ => rfl, fun h => by omega⟩
        case round =>
          obtain ⟨k, hk, rfl, hK0, hK1⟩ := hrel
          by_cases hkn : k < 1
          · have hk0 : k = 0 := by omega
            subst hk0
            have e := (hK0 rfl).symm
            subst e
            clear hK0 hK1
            go_wp2
            go_roundg 0
            case measure => omega
            case rel => exact ⟨1, by omega, by go_num, fun h => by omega, fun _ => rfl⟩
          · have hk0 : k = 1 := by omega
            subst hk0
            have e := (hK1 rfl).symm
            subst e
            clear hK0 hK1
            go_upto_region 13 with fail
            refine wp_region_l (l := 8) (S := (fun w' => w'.cell? ⟨rb, 8, none⟩ = some (.slice (some ⟨g8, 0, none⟩) 1 1) ∧ w'.heap[mb]? = w5.heap[mb]?)) (by kernel_rfl) ⟨c8, rfl⟩ (fun hHeld => ?_)
            refine AnyL.take2 (i := 0) (oi := { dst := some 72, op := Go.Op.move (Go.Operand.tmp 0), type := 89, pos := _, after := #[], guard := none }) (v := ?vv23033) (by kernel_rfl) (by kernel_rfl) rfl (by kernel_rfl) (by kernel_rfl) (by kernel_rfl) (fun _ _ _ h => h) (Or.inl ⟨by rfl, ?hy23033⟩) (by assumption) ?tk23033
            case hy23033 => (intro w hSw; (try dsimp only at hSw); go_simp; (try with_reducible rfl))
            try simp only [Act.put, List.setIfInBounds_toArray, List.set_cons_zero, List.set_cons_succ]
            refine AnyL.take2 (i := 1) (oi := { dst := some 73, op := Go.Op.nilCheck (Go.Operand.tmp 72), type := 0, pos := _, after := #[{ on := 0, ground := Go.Ground.data }], guard := none }) (v := ?vv23034) (by kernel_rfl) (by kernel_rfl) rfl (by kernel_rfl) (by kernel_rfl) (by kernel_rfl) (fun _ _ _ h => h) (Or.inl ⟨by rfl, ?hy23034⟩) (by assumption) ?tk23034
            case hy23034 => (intro w hSw; (try dsimp only at hSw); go_simp; (try with_reducible rfl))
            try simp only [Act.put, List.setIfInBounds_toArray, List.set_cons_zero, List.set_cons_succ]
            refine AnyL.take2 (i := 2) (oi := { dst := some 74, op := Go.Op.fieldAddr 88 (Go.Operand.tmp 73) 8, type := 0, pos := _, after := #[{ on := 1, ground := Go.Ground.data }], guard := none }) (v := ?vv23035) (by kernel_rfl) (by kernel_rfl) rfl (by kernel_rfl) (by kernel_rfl) (by kernel_rfl) (fun _ _ _ h => h) (Or.inl ⟨by rfl, ?hy23035⟩) (by assumption) ?tk23035
            case hy23035 => (intro w hSw; (try dsimp only at hSw); go_simp; (try with_reducible rfl))
            try simp only [Act.put, List.setIfInBounds_toArray, List.set_cons_zero, List.set_cons_succ]
            refine AnyL.take2 (i := 3) (oi := { dst := some 75, op := Go.Op.load 86 (Go.Operand.tmp 74), type := 86, pos := _, after := #[{ on := 2, ground := Go.Ground.data }], guard := none }) (v := ?vv23036) (by kernel_rfl) (by kernel_rfl) rfl (by kernel_rfl) (by kernel_rfl) (by kernel_rfl) (fun _ _ _ h => h) (Or.inl ⟨by rfl, ?hy23036⟩) (by assumption) ?tk23036
            case hy23036 => (intro w hSw; (try dsimp only at hSw); go_simp; (try with_reducible rfl))
            try simp only [Act.put, List.setIfInBounds_toArray, List.set_cons_zero, List.set_cons_succ]
            refine AnyL.take2 (i := 4) (oi := { dst := some 76, op := Go.Op.move (Go.Operand.tmp 6), type := 3, pos := _, after := #[], guard := none }) (v := ?vv23037) (by kernel_rfl) (by kernel_rfl) rfl (by kernel_rfl) (by kernel_rfl) (by kernel_rfl) (fun _ _ _ h => h) (Or.inl ⟨by rfl, ?hy23037⟩) (by assumption) ?tk23037
            case hy23037 => (intro w hSw; (try dsimp only at hSw); go_simp; (try with_reducible rfl))
            try simp only [Act.put, List.setIfInBounds_toArray, List.set_cons_zero, List.set_cons_succ]
            refine AnyL.take2 (i := 5) (oi := { dst := some 77, op := Go.Op.move (Go.Operand.tmp 5), type := 216, pos := _, after := #[], guard := none }) (v := ?vv23038) (by kernel_rfl) (by kernel_rfl) rfl (by kernel_rfl) (by kernel_rfl) (by kernel_rfl) (fun _ _ _ h => h) (Or.inl ⟨by rfl, ?hy23038⟩) (by assumption) ?tk23038
            case hy23038 => (intro w hSw; (try dsimp only at hSw); go_simp; (try with_reducible rfl))
            try simp only [Act.put, List.setIfInBounds_toArray, List.set_cons_zero, List.set_cons_succ]
            refine AnyL.take2 (i := 6) (oi := { dst := some 78, op := Go.Op.call { callee := Go.Callee.builtin Go.Builtin.len, args := #[Go.Operand.tmp 77], argTypes := #[216] }, type := 3, pos := _, after := #[{ on := 5, ground := Go.Ground.data }], guard := none }) (v := ?vv23039) (by kernel_rfl) (by kernel_rfl) rfl (by kernel_rfl) (by kernel_rfl) (by kernel_rfl) (fun _ _ _ h => h) (Or.inl ⟨by rfl, ?hy23039⟩) (by assumption) ?tk23039
            case hy23039 => (intro w hSw; have hl7 := hln w hSw.2; (try dsimp only at hSw); go_simp; (try with_reducible rfl))
            try simp only [Act.put, List.setIfInBounds_toArray, List.set_cons_zero, List.set_cons_succ]
            refine AnyL.take2 (i := 7) (oi := { dst := some 79, op := Go.Op.indexAddr 86 (Go.Operand.tmp 75) (Go.Operand.tmp 76), type := 0, pos := _, after := #[{ on := 3, ground := Go.Ground.data }, { on := 4, ground := Go.Ground.data }, { on := 0, ground := Go.Ground.phase }, { on := 1, ground := Go.Ground.phase }, { on := 2, ground := Go.Ground.phase }, { on := 3, ground := Go.Ground.phase }, { on := 4, ground := Go.Ground.phase }, { on := 5, ground := Go.Ground.phase }, { on := 6, ground := Go.Ground.phase }], guard := none }) (v := ?vv23040) (by kernel_rfl) (by kernel_rfl) rfl (by kernel_rfl) (by kernel_rfl) (by kernel_rfl) (fun _ _ _ h => h) (Or.inl ⟨by rfl, ?hy23040⟩) (by assumption) ?tk23040
            case hy23040 => (intro w hSw; (try dsimp only at hSw); go_simp; (try with_reducible rfl))
            try simp only [Act.put, List.setIfInBounds_toArray, List.set_cons_zero, List.set_cons_succ]
            refine AnyL.last (o := { dst := none, op := Go.Op.store 3 (Go.Operand.tmp 79) (Go.Operand.tmp 78), type := 0, pos := _, after := #[{ on := 7, ground := Go.Ground.data }, { on := 6, ground := Go.Ground.data }, { on := 6, ground := Go.Ground.chain }, { on := 0, ground := Go.Ground.phase }, { on := 1, ground := Go.Ground.phase }, { on := 2, ground := Go.Ground.phase }, { on := 3, ground := Go.Ground.phase }, { on := 4, ground := Go.Ground.phase }, { on := 5, ground := Go.Ground.phase }, { on := 6, ground := Go.Ground.phase }], guard := none }) (by kernel_rfl) rfl (by kernel_rfl) (fun K' hK' => ?_)
            go_simp
            clear hHeld
            refine hK'.out _ _ ?_
            clear hK' K'
            try simp only [Act.put, List.setIfInBounds_toArray, List.set_cons_zero, List.set_cons_succ]
            go_wp2
            go_roundg 0
            case measure => omega
            case rel => exact ⟨1, by omega, by go_num, fun h => by omega, fun _ => rfl⟩
      · have hi0 : i = 1 := by omega
        subst hi0
        have e := (hI1 rfl).symm
        subst e
        clear hI0 hI1
        have d8 : ((World.drew w5).setCell ⟨g8, 0, none⟩ (.int .i64 1)).cell? ⟨rb, 8, none⟩ = some (.slice (some ⟨g8, 0, none⟩) 1 1) := (World.cell?_of_block (a := ⟨rb, 8, none⟩) (far_set (fun e => hgr e.symm))).trans c8
        have d0 : ((World.drew w5).setCell ⟨g8, 0, none⟩ (.int .i64 1)).cell? ⟨g8, 0, none⟩ = some (.int .i64 1) := World.cell?_setCell_same _ _ _ c0
        have HD0 := hideIt d0
        go_wp2
        go_ret
        obtain ⟨RS4, W5, hd, hs⟩ := HX.out
        obtain ⟨W4w, _, hs4⟩ := HW4.out
        have hb3 := HB3.out.1
        have hb0 := HB0.out
        have hwsz : wd.heap.size = w.heap.size := by rw [HD.out]
        refine ⟨rfl, _, _, (RS4.blk (W5.block rb hsz4.1 (by omega))).blk (far_set (fun e => hgr e.symm)), .inr ⟨g8, rfl, HD0.out, rfl, fun h => by have := hSl g8 h; omega⟩, ?_⟩
        refine ⟨?_, ?_, ?_, ?_, fun q h1 h2 => ?_⟩
        · exact W5.os.trans (W4w.os.trans (hb3.os.trans hb0.os))
        · exact W5.tape.trans (W4w.tape.trans (hb3.tape.trans hb0.tape))
        · exact W5.output.trans (W4w.output.trans (hb3.output.trans hb0.output))
        · have := W5.size
          have := W4w.size
          show w.heap.size ≤ (((World.drew w5).setCell ⟨g8, 0, none⟩ (.int .i64 1))).heap.size
          simp
          omega
        · exact (far_set (by omega)).trans ((W5.block q (by have := W4w.size; omega) (by omega)).trans ((W4w.block q (by omega) h2).trans ((hb3.block q (by omega)).trans (hb0.block q h1))))
  · rw [hs1] at h8
    rw [hs3] at h9
    have HQ := hideIt (And.intro H (And.intro hd hdr))
    clear H hd hdr hA hr fz
    have heq := sl_some g 1 1
    go_enter Try.func87, Try.ntmps87
    go_upto_region 1 with fail
    refine wp_region_held_drew (S := (fun w' => w'.cell? ⟨rb, 8, none⟩ = some (.slice (some ⟨g, 0, none⟩) 1 1) ∧ w'.cell? ⟨rb, 9, none⟩ = some (.int .i64 1) ∧ w'.cell? ⟨rb, 4, none⟩ = some (.int .i64 1))) (by kernel_rfl) ⟨h8, h9, h4⟩ (fun hHeld => ?_)
    refine wpAnyH_take (i := 0) (oi := { dst := some 8, op := Go.Op.move (Go.Operand.tmp 0), type := 89, pos := _, after := #[], guard := none }) (v := ?vv23017) rfl (by kernel_rfl) (by kernel_rfl) (by kernel_rfl) (fun _ _ _ h => h) (Or.inl ⟨by rfl, ?hy23017⟩) (by assumption) ?tk23017
    case hy23017 => (intro w hSw; (try dsimp only at hSw); go_simp; (try with_reducible rfl))
    try simp only [Act.put, List.setIfInBounds_toArray, List.set_cons_zero, List.set_cons_succ]
    refine wpAnyH_take (i := 1) (oi := { dst := some 9, op := Go.Op.nilCheck (Go.Operand.tmp 8), type := 0, pos := _, after := #[{ on := 0, ground := Go.Ground.data }], guard := none }) (v := ?vv23018) rfl (by kernel_rfl) (by kernel_rfl) (by kernel_rfl) (fun _ _ _ h => h) (Or.inl ⟨by rfl, ?hy23018⟩) (by assumption) ?tk23018
    case hy23018 => (intro w hSw; (try dsimp only at hSw); go_simp; (try with_reducible rfl))
    try simp only [Act.put, List.setIfInBounds_toArray, List.set_cons_zero, List.set_cons_succ]
    refine wpAnyH_take (i := 2) (oi := { dst := some 10, op := Go.Op.fieldAddr 88 (Go.Operand.tmp 9) 8, type := 0, pos := _, after := #[{ on := 1, ground := Go.Ground.data }], guard := none }) (v := ?vv23019) rfl (by kernel_rfl) (by kernel_rfl) (by kernel_rfl) (fun _ _ _ h => h) (Or.inl ⟨by rfl, ?hy23019⟩) (by assumption) ?tk23019
    case hy23019 => (intro w hSw; (try dsimp only at hSw); go_simp; (try with_reducible rfl))
    try simp only [Act.put, List.setIfInBounds_toArray, List.set_cons_zero, List.set_cons_succ]
    refine wpAnyH_take (i := 3) (oi := { dst := some 11, op := Go.Op.load 86 (Go.Operand.tmp 10), type := 86, pos := _, after := #[{ on := 2, ground := Go.Ground.data }], guard := none }) (v := ?vv23020) rfl (by kernel_rfl) (by kernel_rfl) (by kernel_rfl) (fun _ _ _ h => h) (Or.inl ⟨by rfl, ?hy23020⟩) (by assumption) ?tk23020
    case hy23020 => (intro w hSw; (try dsimp only at hSw); go_simp; (try with_reducible rfl))
    try simp only [Act.put, List.setIfInBounds_toArray, List.set_cons_zero, List.set_cons_succ]
    refine wpAnyH_take (i := 4) (oi := { dst := some 12, op := Go.Op.binOp Go.BinOp.eql 86 (Go.Operand.tmp 11) (Go.Operand.const (Go.Value.slice none 0 0)) 86, type := 4, pos := _, after := #[{ on := 3, ground := Go.Ground.data }], guard := none }) (v := ?vv23021) rfl (by kernel_rfl) (by kernel_rfl) (by kernel_rfl) (fun _ _ _ h => h) (Or.inl ⟨by rfl, ?hy23021⟩) (by assumption) ?tk23021
    case hy23021 => (intro w hSw; (try dsimp only at hSw); go_simp; (try with_reducible rfl))
    try simp only [Act.put, List.setIfInBounds_toArray, List.set_cons_zero, List.set_cons_succ]
    refine wpAnyH_take (i := 5) (oi := { dst := some 13, op := Go.Op.move (Go.Operand.tmp 12), type := 4, pos := _, after := #[{ on := 4, ground := Go.Ground.data }], guard := none }) (v := ?vv23022) rfl (by kernel_rfl) (by kernel_rfl) (by kernel_rfl) (fun _ _ _ h => h) (Or.inl ⟨by rfl, ?hy23022⟩) (by assumption) ?tk23022
    case hy23022 => (intro w hSw; (try dsimp only at hSw); go_simp; (try with_reducible rfl))
    try simp only [Act.put, List.setIfInBounds_toArray, List.set_cons_zero, List.set_cons_succ]
    refine wpAnyH_take (i := 6) (oi := { dst := some 14, op := Go.Op.move (Go.Operand.tmp 0), type := 89, pos := _, after := #[{ on := 5, ground := Go.Ground.guard }], guard := some (5, false) }) (v := ?vv23023) rfl (by kernel_rfl) (by kernel_rfl) (by kernel_rfl) (fun _ _ _ h => h) (Or.inl ⟨by rfl, ?hy23023⟩) (by assumption) ?tk23023
    case hy23023 => (intro w hSw; (try dsimp only at hSw); go_simp; (try with_reducible rfl))
    try simp only [Act.put, List.setIfInBounds_toArray, List.set_cons_zero, List.set_cons_succ]
    refine wpAnyH_take (i := 7) (oi := { dst := some 15, op := Go.Op.nilCheck (Go.Operand.tmp 14), type := 0, pos := _, after := #[{ on := 6, ground := Go.Ground.data }, { on := 5, ground := Go.Ground.guard }], guard := some (5, false) }) (v := ?vv23024) rfl (by kernel_rfl) (by kernel_rfl) (by kernel_rfl) (fun _ _ _ h => h) (Or.inl ⟨by rfl, ?hy23024⟩) (by assumption) ?tk23024
    case hy23024 => (intro w hSw; (try dsimp only at hSw); go_simp; (try with_reducible rfl))
    try simp only [Act.put, List.setIfInBounds_toArray, List.set_cons_zero, List.set_cons_succ]
    refine wpAnyH_take (i := 8) (oi := { dst := some 16, op := Go.Op.fieldAddr 88 (Go.Operand.tmp 15) 9, type := 0, pos := _, after := #[{ on := 7, ground := Go.Ground.data }, { on := 5, ground := Go.Ground.guard }], guard := some (5, false) }) (v := ?vv23025) rfl (by kernel_rfl) (by kernel_rfl) (by kernel_rfl) (fun _ _ _ h => h) (Or.inl ⟨by rfl, ?hy23025⟩) (by assumption) ?tk23025
    case hy23025 => (intro w hSw; (try dsimp only at hSw); go_simp; (try with_reducible rfl))
    try simp only [Act.put, List.setIfInBounds_toArray, List.set_cons_zero, List.set_cons_succ]
    refine wpAnyH_take (i := 9) (oi := { dst := some 17, op := Go.Op.load 3 (Go.Operand.tmp 16), type := 3, pos := _, after := #[{ on := 8, ground := Go.Ground.data }, { on := 5, ground := Go.Ground.guard }], guard := some (5, false) }) (v := ?vv23026) rfl (by kernel_rfl) (by kernel_rfl) (by kernel_rfl) (fun _ _ _ h => h) (Or.inl ⟨by rfl, ?hy23026⟩) (by assumption) ?tk23026
    case hy23026 => (intro w hSw; (try dsimp only at hSw); go_simp; (try with_reducible rfl))
    try simp only [Act.put, List.setIfInBounds_toArray, List.set_cons_zero, List.set_cons_succ]
    refine wpAnyH_take (i := 10) (oi := { dst := some 18, op := Go.Op.move (Go.Operand.tmp 0), type := 89, pos := _, after := #[{ on := 5, ground := Go.Ground.guard }], guard := some (5, false) }) (v := ?vv23027) rfl (by kernel_rfl) (by kernel_rfl) (by kernel_rfl) (fun _ _ _ h => h) (Or.inl ⟨by rfl, ?hy23027⟩) (by assumption) ?tk23027
    case hy23027 => (intro w hSw; (try dsimp only at hSw); go_simp; (try with_reducible rfl))
    try simp only [Act.put, List.setIfInBounds_toArray, List.set_cons_zero, List.set_cons_succ]
    refine wpAnyH_take (i := 11) (oi := { dst := some 19, op := Go.Op.nilCheck (Go.Operand.tmp 18), type := 0, pos := _, after := #[{ on := 10, ground := Go.Ground.data }, { on := 5, ground := Go.Ground.guard }], guard := some (5, false) }) (v := ?vv23028) rfl (by kernel_rfl) (by kernel_rfl) (by kernel_rfl) (fun _ _ _ h => h) (Or.inl ⟨by rfl, ?hy23028⟩) (by assumption) ?tk23028
    case hy23028 => (intro w hSw; (try dsimp only at hSw); go_simp; (try with_reducible rfl))
    try simp only [Act.put, List.setIfInBounds_toArray, List.set_cons_zero, List.set_cons_succ]
    refine wpAnyH_take (i := 12) (oi := { dst := some 20, op := Go.Op.fieldAddr 88 (Go.Operand.tmp 19) 4, type := 0, pos := _, after := #[{ on := 11, ground := Go.Ground.data }, { on := 5, ground := Go.Ground.guard }], guard := some (5, false) }) (v := ?vv23029) rfl (by kernel_rfl) (by kernel_rfl) (by kernel_rfl) (fun _ _ _ h => h) (Or.inl ⟨by rfl, ?hy23029⟩) (by assumption) ?tk23029
    case hy23029 => (intro w hSw; (try dsimp only at hSw); go_simp; (try with_reducible rfl))
    try simp only [Act.put, List.setIfInBounds_toArray, List.set_cons_zero, List.set_cons_succ]
    refine wpAnyH_take (i := 13) (oi := { dst := some 21, op := Go.Op.load 3 (Go.Operand.tmp 20), type := 3, pos := _, after := #[{ on := 12, ground := Go.Ground.data }, { on := 5, ground := Go.Ground.guard }], guard := some (5, false) }) (v := ?vv23030) rfl (by kernel_rfl) (by kernel_rfl) (by kernel_rfl) (fun _ _ _ h => h) (Or.inl ⟨by rfl, ?hy23030⟩) (by assumption) ?tk23030
    case hy23030 => (intro w hSw; (try dsimp only at hSw); go_simp; (try with_reducible rfl))
    try simp only [Act.put, List.setIfInBounds_toArray, List.set_cons_zero, List.set_cons_succ]
    refine wpAnyH_take (i := 14) (oi := { dst := some 22, op := Go.Op.binOp Go.BinOp.neq 3 (Go.Operand.tmp 17) (Go.Operand.tmp 21) 3, type := 4, pos := _, after := #[{ on := 9, ground := Go.Ground.data }, { on := 13, ground := Go.Ground.data }, { on := 5, ground := Go.Ground.guard }], guard := some (5, false) }) (v := ?vv23031) rfl (by kernel_rfl) (by kernel_rfl) (by kernel_rfl) (fun _ _ _ h => h) (Or.inl ⟨by rfl, ?hy23031⟩) (by assumption) ?tk23031
    case hy23031 => (intro w hSw; (try dsimp only at hSw); go_simp; (try with_reducible rfl))
    try simp only [Act.put, List.setIfInBounds_toArray, List.set_cons_zero, List.set_cons_succ]
    refine wpAnyH_take (i := 15) (oi := { dst := some 23, op := Go.Op.pick (Go.Operand.tmp 13) (Go.Operand.const (Go.Value.bool true)) (Go.Operand.tmp 22), type := 4, pos := _, after := #[{ on := 5, ground := Go.Ground.data }, { on := 14, ground := Go.Ground.data }], guard := none }) (v := ?vv23032) rfl (by kernel_rfl) (by kernel_rfl) (by kernel_rfl) (fun _ _ _ h => h) (Or.inl ⟨by rfl, ?hy23032⟩) (by assumption) ?tk23032
    case hy23032 => (intro w hSw; (try dsimp only at hSw); go_simp; (try with_reducible rfl))
    try simp only [Act.put, List.setIfInBounds_toArray, List.set_cons_zero, List.set_cons_succ]
    refine wpAnyH_done (by kernel_rfl) ?_ _
    clear hHeld
    go_wp2
    go_ret
    obtain ⟨H, hd, hdr⟩ := HQ.out
    exact ⟨rfl, s.spr, s.sat, H.drew, .inr ⟨g, hs1, hs2, hs3, hs4⟩, (Wr.refl _ _).drew⟩
end Go.Proofs.Qxb6500880a
