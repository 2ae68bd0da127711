import Derived.Deep.CutBlock
import Derived.OwnWalk
import Derived.Maps.AppendAt
import Derived.Test.Qxb6500880aC
set_option linter.unusedVariables false
set_option linter.unusedSimpArgs false
namespace Go.Proofs.Qxb6500880a
open Go.RowKit

/-- The hash table of a relation: 16 places. -/
def SlotAt (w : World) (v : Value) (f : Nat → Int) : Prop := ∃ g, v = .slice (some ⟨g, 0, none⟩) 16 16 ∧ (∀ j, j < 16 → w.cell? ⟨g, j, none⟩ = some (.int .i32 (f j))) ∧ ∀ o, w.frozen? ⟨g, o, none⟩ = false
theorem SlotAt.below {w w' : World} {v : Value} {f : Nat → Int} (h : SlotAt w v f) (hb : Below w.heap.size w w') : SlotAt w' v f := by
  obtain ⟨g, e, h, fz⟩ := h
  have hl : g < w.heap.size := World.block_lt_of_cell? _ _ (h 0 (by omega))
  exact ⟨g, e, fun j hj => cell_later hb (h j hj), fun o => (World.frozen?_of_block (a := ⟨g, o, none⟩) (hb.block g hl)).trans (fz o)⟩
set_option maxRecDepth 20000 in
set_option maxHeartbeats 8000000 in
theorem seek_free {w : World} {b n : Nat} {nm : ByteArray} {s : RelS} {v : Value} {f : Nat → Int} (H : RelAt w b nm s) (hs : SlotAt w s.slots f) (hf : f (slotZ n) = 0) (HR : SymZ w v n) (hn : n ≤ 1000) :
    Calls Try.prog 41 #[.pointer (some ⟨b, 0, none⟩), v] w fun e w' => e = .returned (.tuple #[.int .i64 (slotZ n : Int), .bool false]) ∧ w' = w := by
  have hsl := H.sl
  obtain ⟨g, eg, hg, _⟩ := hs
  rw [eg] at hsl
  have hk := hg (slotZ n) (slotZ_lt n)
  rw [hf] at hk
  have hlt := slotZ_lt n
  have heq := slotZ_eq n
  have hhr := hashRow_any HR hn
  obtain ⟨sz, hsz⟩ : ∃ sz, slotZ n = sz := ⟨_, rfl⟩
  obtain ⟨hz, hhz⟩ : ∃ hz, hashZ n = hz := ⟨_, rfl⟩
  rw [hsz] at hk hlt heq ⊢
  rw [hhz] at hhr heq
  have z0 : (0 : Int) ≤ sz := by omega
  have z1 : (sz : Int) < 16 := by omega
  have hw1 : IntKind.i64.wrap (sz : Int) = sz := by rw [IntKind.wrap_i64]; omega
  clear hg hf HR hsz hhz H eg
  go_enter Try.func41, Try.ntmps41
  go_wp2_with fail
  refine hhr.mono ?_
  rintro e w1 ⟨rfl, rfl⟩
  go_wp2_with fail
  go_loopg [7] 0 (fun gg v wr => v = .int .u64 (sz : Int) ∧ wr = w1)
  case atStart => exact ⟨rfl, rfl⟩
  case round =>
    obtain ⟨rfl, rfl⟩ := hrel
    go_wp2
    go_ret2
    exact ⟨rfl, rfl⟩
set_option maxRecDepth 20000 in
set_option maxHeartbeats 8000000 in
theorem seek_hit {w : World} {b n : Nat} {nm : ByteArray} {s : RelS} {v : Value} {f : Nat → Int} (H : RelAt w b nm s) (hs : SlotAt w s.slots f) (hf : f (slotZ n) = 1) (HR : SymZ w v n) (hn : n ≤ 1000) (hA : s.A = n) (hd : SymZ w s.data s.A) :
    Calls Try.prog 41 #[.pointer (some ⟨b, 0, none⟩), v] w fun e w' => e = .returned (.tuple #[.int .i64 0, .bool true]) ∧ Below w.heap.size w w' := by
  have hsl := H.sl
  obtain ⟨g, eg, hg, _⟩ := hs
  rw [eg] at hsl
  have hk := hg (slotZ n) (slotZ_lt n)
  rw [hf] at hk
  have hlt := slotZ_lt n
  have heq := slotZ_eq n
  have hhr := hashRow_any HR hn
  obtain ⟨sz, hsz⟩ : ∃ sz, slotZ n = sz := ⟨_, rfl⟩
  obtain ⟨hz, hhz⟩ : ∃ hz, hashZ n = hz := ⟨_, rfl⟩
  rw [hsz] at hk hlt heq
  rw [hhz] at hhr heq
  have z0 : (0 : Int) ≤ sz := by omega
  have z1 : (sz : Int) < 16 := by omega
  have hw1 : IntKind.i64.wrap (sz : Int) = sz := by rw [IntKind.wrap_i64]; omega
  have HRO := hideIt (row_any H hd (by omega))
  have HRR := hideIt HR
  have HA := hideIt hA
  clear hg hf HR hsz hhz H eg hd hA
  go_enter Try.func41, Try.ntmps41
  go_wp2_with fail
  refine hhr.mono ?_
  rintro e w1 ⟨rfl, rfl⟩
  go_wp2_with fail
  go_loopg [7] 0 (fun gg v wr => v = .int .u64 (sz : Int) ∧ wr = w1)
  case atStart => exact ⟨rfl, rfl⟩
  case round =>
    obtain ⟨rfl, rfl⟩ := hrel
    go_wp2_with fail
    refine HRO.out.mono ?_
    rintro e w2 ⟨vr, rfl, hz2, rfl⟩
    rw [HA.out] at hz2
    have heq2 := equalRows_any hz2 (HRR.out.below (below_dr (Below.refl _ _))) hn
    go_wp2_with fail
    refine heq2.mono ?_
    rintro e w3 ⟨rfl, hb3⟩
    have HB := hideIt hb3
    clear hb3 heq2
    go_wp2
    go_ret2
    exact ⟨rfl, then_ (below_dr (Below.refl _ _)) HB.out⟩
set_option maxRecDepth 20000 in
set_option maxHeartbeats 8000000 in
theorem find_none {w : World} {b : Nat} {nm : ByteArray} {s : RelS} {v : Value} (H : RelAt w b nm s) (h0 : s.rows = 0) :
    Calls Try.prog 34 #[.pointer (some ⟨b, 0, none⟩), v] w fun e w' => e = .returned (.int .i64 (-1)) ∧ w' = w := by
  have h4 := H.ro
  rw [h0] at h4
  clear H h0
  go_enter Try.func34, Try.ntmps34
  go_wp2
  go_ret
  exact ⟨rfl, rfl⟩
set_option maxRecDepth 20000 in
set_option maxHeartbeats 8000000 in
theorem find_hit {w : World} {b n : Nat} {nm : ByteArray} {s : RelS} {v : Value} {f : Nat → Int} (H : RelAt w b nm s) (h1 : s.rows = 1) (hs : SlotAt w s.slots f) (hf : f (slotZ n) = 1) (HR : SymZ w v n) (hn : n ≤ 1000) (hA : s.A = n) (hd : SymZ w s.data s.A) :
    Calls Try.prog 34 #[.pointer (some ⟨b, 0, none⟩), v] w fun e w' => e = .returned (.int .i64 0) ∧ Below w.heap.size w w' := by
  have h4 := H.ro
  rw [h1] at h4
  have hsk := seek_hit H hs hf HR hn hA hd
  clear H h1 hs hf HR hA hd
  go_enter Try.func34, Try.ntmps34
  go_wp2_with fail
  refine hsk.mono ?_
  rintro e w1 ⟨rfl, hb⟩
  go_wp2
  go_ret
  exact ⟨rfl, hb⟩
end Go.Proofs.Qxb6500880a
