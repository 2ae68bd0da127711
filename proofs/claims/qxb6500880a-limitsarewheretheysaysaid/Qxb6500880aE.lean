import Derived.Deep.CutBlock
import Derived.OwnWalk
import Derived.Maps.AppendAt
import Derived.Laws.AppendOwnNone
import Derived.Test.Qxb6500880aD
set_option linter.unusedVariables false
set_option linter.unusedSimpArgs false
namespace Go.Proofs.Qxb6500880a
open Go.RowKit

theorem info21 : (Try.prog.info? 21).map (fun i => (i.zero, i.size, i.bytes)) = some (some (.int .i32 0), 1, 4) := by kernel_rfl
theorem info99 : (Try.prog.info? 99).map (fun i => (i.zero, i.size, i.bytes)) = some (some (.int .u32 0), 1, 4) := by kernel_rfl
theorem made_one (z : Value) (n : Nat) : (madeCells #[z] n).toList = List.replicate n z := by
  apply List.ext_getElem?
  intro i
  by_cases h : i < n
  · simp [madeCells, h, Nat.mod_one]
  · simp [madeCells, h]
set_option maxRecDepth 20000 in
set_option maxHeartbeats 8000000 in
theorem rehash_new {w : World} {b : Nat} {nm : ByteArray} {s : RelS} (H : RelAt w b nm s) (h0 : s.rows = 0) (hsl : s.slots = .slice none 0 0) :
    Calls Try.prog 40 #[.pointer (some ⟨b, 0, none⟩)] w fun e w' => e = .returned (.tuple #[]) ∧ (∃ v, RelAt w' b nm { s with slots := v } ∧ SlotAt w' v (fun _ => 0) ∧ v.ownBlock = some w.heap.size) ∧ Wr b w w' := by
  obtain ⟨i0_, hi_, hz0, hz1, hz2⟩ := info_parts info21
  have h5 := H.sl
  rw [hsl] at h5
  have hb := H.lt
  have fz := H.fz
  have HH := hideIt H
  have H0 := hideIt h0
  have hw0 : IntKind.i64.wrap 0 = 0 := rfl
  clear H h0 hsl
  go_enter Try.func40, Try.ntmps40
  go_wp2_with (first | (at_make; refine wpList_make_full _ rfl _ _ 69 rfl w.heap.size 21 i0_ _ 1 Try.underlying69 hi_ hz0 hz1 .i64 .i64 16 16 16 rfl rfl rfl rfl (by rw [hz2]; omega) (by unfold maxLen; omega) (Nat.le_refl _) ?_) | go_in)
  intro w3 hown3 hgrow3
  have hb3 : Below w.heap.size w w3 := ⟨hgrow3.os, hgrow3.tape, hgrow3.output, hgrow3.size, fun k hk => hgrow3.block k hk (by simp)⟩
  have H3 := HH.out.below hb3
  have fz3 := H3.fz
  have k5 := H3.sl
  have S3 : SlotAt w3 (.slice (some ⟨w.heap.size, 0, none⟩) 16 16) (fun _ => 0) := by
    refine ⟨w.heap.size, rfl, fun j hj => ?_, fun o => hown3.frozenAt o⟩
    have e := hown3.cellAt j hj
    rw [made_one, List.getElem?_replicate, if_pos hj] at e
    exact e
  have hbb : b ≠ w.heap.size := by omega
  have HQ := hideIt (And.intro H3 (And.intro S3 hb3))
  clear hown3 hgrow3 H3 S3 hb3 h5
  go_upto_region 1 with fail
  obtain ⟨H3, S3, hb3⟩ := HQ.out
  have H4 := H3.put_slots (.slice (some ⟨w.heap.size, 0, none⟩) 16 16)
  have W4 : Wr b w (w3.setCell ⟨b, 5, none⟩ (.slice (some ⟨w.heap.size, 0, none⟩) 16 16)) := (Wr.of_below hb3).set
  have S4 : SlotAt (w3.setCell ⟨b, 5, none⟩ (.slice (some ⟨w.heap.size, 0, none⟩) 16 16)) (.slice (some ⟨w.heap.size, 0, none⟩) 16 16) (fun _ => 0) := by
    obtain ⟨g, e, hg, hf⟩ := S3
    simp only [Value.slice.injEq, Option.some.injEq, Addr.mk.injEq] at e
    obtain ⟨⟨rfl, _⟩, _⟩ := e
    exact ⟨_, rfl, fun j hj => (World.cell?_of_block (a := ⟨w.heap.size, j, none⟩) (far_set (fun z => hbb z.symm))).trans (hg j hj), fun o => (World.frozen?_setCell _ _ _ _).trans (hf o)⟩
  have r4 := H4.ro
  rw [show ({ s with slots := .slice (some ⟨w.heap.size, 0, none⟩) 16 16 } : RelS).rows = 0 from H0.out] at r4
  have HQ4 := hideIt (And.intro H4 (And.intro S4 W4))
  clear H3 S3 hb3 H4 S4 W4 HQ
  generalize World.setCell w3 ⟨b, 5, none⟩ (.slice (some ⟨w.heap.size, 0, none⟩) 16 16) = w4 at *
  go_wp2_with fail
  go_loopg [20] 0 (fun g v wr => v = .int .i64 0 ∧ wr = w4)
  case atStart => exact ⟨rfl, rfl⟩
  case round =>
    obtain ⟨rfl, rfl⟩ := hrel
    go_wp2
    go_end0
    obtain ⟨H4, S4, W4⟩ := HQ4.out
    exact ⟨rfl, ⟨_, H4, S4, rfl⟩, W4⟩
end Go.Proofs.Qxb6500880a
