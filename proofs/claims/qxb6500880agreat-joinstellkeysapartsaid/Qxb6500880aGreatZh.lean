import Derived.Deep.CutBlock
import Derived.OwnWalk
import Derived.Maps.AppendAt
import Derived.Maps.OwnSet
import Derived.Maps.OwnOps
import Derived.Laws.ResultCell
import Derived.Test.Qxb6500880aGreatZf
set_option linter.unusedVariables false
set_option linter.unusedSimpArgs false
namespace Go.Proofs.Qxb6500880aGreat
open Go.RowKit

theorem info3 : (Tryz.prog.info? 3).map (fun i => (i.zero, i.size, i.bytes)) = some (some (.int .i64 0), 1, 8) := by kernel_rfl
theorem info188 : (Tryz.prog.info? 188).map (fun i => (i.zero, i.size, i.bytes)) = some (some (.pointer none), 1, 8) := by kernel_rfl
/-- n ints as values. -/
def intF (f : Nat → Nat) (n : Nat) : List Value := (List.range n).map (fun j => Value.int .i64 (f j : Int))
theorem intF_len (f : Nat → Nat) (n : Nat) : (intF f n).length = n := by simp [intF]
theorem intF_get {f : Nat → Nat} {n j : Nat} (h : j < n) : (intF f n)[j]? = some (.int .i64 (f j : Int)) := by simp [intF, h]
theorem intF_one (f : Nat → Nat) (n : Nat) : ∀ u ∈ intF f n, u.oneCell' = true := by
  intro u hu
  simp only [intF, List.mem_map] at hu
  obtain ⟨j, _, rfl⟩ := hu
  rfl
theorem intF_succ (f : Nat → Nat) (n : Nat) : intF f (n + 1) = intF f n ++ [.int .i64 (f n : Int)] := by
  unfold intF
  rw [List.range_succ, List.map_append]
  rfl
theorem intF_congr {f f' : Nat → Nat} {n : Nat} (h : ∀ j, j < n → f j = f' j) : intF f n = intF f' n := by
  unfold intF
  refine List.map_congr_left (fun j hj => ?_)
  rw [h j (List.mem_range.1 hj)]
theorem sl41_some (g n c : Nat) (w : World) : (binOp .eql 41 (.slice (some ⟨g, 0, none⟩) n c) (.slice none 0 0)).run Tryz.prog w = .ok (.bool false) w := by
  have h : ∀ d, (Op.equalIn (d + 1) 41 (.slice (some ⟨g, 0, none⟩) n c) (.slice none 0 0)).run Tryz.prog w = .ok false w := fun d => by simp [Op.equalIn, run_underlying Tryz.underlying41]
  simp [binOp, Op.equal, Op.maxDepth, h 9999]
set_option maxRecDepth 20000 in
set_option maxHeartbeats 8000000 in
theorem clone_any {w : World} {g n c : Nat} {f : Nat → Nat} (hc : ∀ j, j < n → w.cell? ⟨g, j, none⟩ = some (.int .i64 (f j : Int))) (hn : n ≤ 100) :
    Calls Tryz.prog 106 #[.slice (some ⟨g, 0, none⟩) n c] w fun e w' => ∃ v, e = .returned v ∧ w'.ownsRow w.heap.size 3 1 v n (intF f n) ∧ Below w.heap.size w w' := by
  obtain ⟨i3, hi3, hz0, hz1, hz2⟩ := info_parts info3
  have hnil := sl41_some g n c
  have hnw : ∀ j u, (intF f n)[j]? = some u → (w.alloc (.cells #[] 3)).cell? ((⟨g, 0, none⟩ : Addr).add j) = some u := fun j u hu => by
    rcases Nat.lt_or_ge j n with q | q
    · rw [intF_get q] at hu
      have hu := Option.some.inj hu
      subst hu
      rw [addr_add, Nat.zero_add]
      exact cell_later (one_alloc _ _) (hc j q)
    · rw [List.getElem?_eq_none (by rw [intF_len]; exact q)] at hu
      cases hu
  have hown : (w.alloc (.cells #[] 3)).ownsRow w.heap.size 3 1 (.slice (some ⟨w.heap.size, 0, none⟩) 0 0) 0 [] := World.ownsRow_made w #[] 0 (Nat.le_refl _) (by unfold maxLen; omega) (by simp)
  have HN := hideIt (And.intro hnw hown)
  clear hc hnw hown
  go_enter Tryz.func106, Tryz.ntmps106
  go_wp2_with (first | (at_builtin; refine wpList_append_own_at _ rfl (.tmp 5) (.tmp 6) 41 rfl w.heap.size 3 i3 (.int .i64 0) 1 8 Tryz.underlying41 hi3 hz0 hz1 hz2 rfl (by decide) (.slice (some ⟨w.heap.size, 0, none⟩) 0 0) 0 [] rfl HN.out.2 ⟨g, 0, none⟩ n c (intF f n) rfl (by rw [intF_len, Nat.mul_one]) HN.out.1 (intF_one f n) (by unfold maxLen; omega) (by omega) (by simp) ?_) | go_in)
  intro v' w3 hown' hgrow hiff hblk
  obtain ⟨p', c', rfl⟩ := own_shape hown'
  have bA := one_alloc w (.cells #[] 3)
  have hb3 : Below w.heap.size w w3 := ⟨hgrow.os.trans bA.os, hgrow.tape.trans bA.tape, hgrow.output.trans bA.output, Nat.le_trans bA.size hgrow.size, fun q hq => (hgrow.block q (by simp; omega) (fun e => by have z : q = w.heap.size := Option.some.inj e; omega)).trans (bA.block q hq)⟩
  have HQ := hideIt (And.intro hown' hb3)
  clear hown' hgrow hiff hblk bA hb3
  go_wp2
  go_ret
  exact ⟨_, rfl, HQ.out.1, HQ.out.2⟩
/-- A fresh index. -/
structure IxN (w : World) (IX : Nat) : Prop where
  x1 : w.cell? ⟨IX, 1, none⟩ = some (.slice none 0 0)
  x2 : w.cell? ⟨IX, 2, none⟩ = some (.slice none 0 0)
  x3 : w.cell? ⟨IX, 3, none⟩ = some (.int .i64 0)
  fx : ∀ o, w.frozen? ⟨IX, o, none⟩ = false
theorem IxN.blk {w w' : World} {IX : Nat} (h : IxN w IX) (e : w'.heap[IX]? = w.heap[IX]?) : IxN w' IX :=
  ⟨(World.cell?_of_block (a := ⟨IX, 1, none⟩) e).trans h.x1, (World.cell?_of_block (a := ⟨IX, 2, none⟩) e).trans h.x2, (World.cell?_of_block (a := ⟨IX, 3, none⟩) e).trans h.x3, fun o => (World.frozen?_of_block (a := ⟨IX, o, none⟩) e).trans (h.fx o)⟩
set_option maxRecDepth 20000 in
set_option maxHeartbeats 8000000 in
theorem indexOn_new {w : World} {rq g n c : Nat} {f : Nat → Nat} {nm : ByteArray} {s : RelS} (H : RelAt w rq nm s) (hix : s.idx = .slice none 0 0) (hc : ∀ j, j < n → w.cell? ⟨g, j, none⟩ = some (.int .i64 (f j : Int))) (hn : n ≤ 100) (hn0 : 0 < n) :
    Calls Tryz.prog 80 #[.pointer (some ⟨rq, 0, none⟩), .slice (some ⟨g, 0, none⟩) n c] w fun e w' => ∃ IX gc cc gi ci, e = .returned (.tuple #[.pointer (some ⟨IX, 0, none⟩), .bool true]) ∧ RelAt w' rq nm { s with idx := .slice (some ⟨gi, 0, none⟩) 1 ci } ∧ w'.cell? ⟨gi, 0, none⟩ = some (.pointer (some ⟨IX, 0, none⟩)) ∧ IxC w' IX gc cc n f ∧ IxN w' IX ∧ (w.heap.size ≤ IX ∧ w.heap.size ≤ gc ∧ w.heap.size ≤ gi ∧ IX ≠ gc ∧ gi ≠ gc ∧ gi ≠ IX) ∧ Wr rq w w' := by
  obtain ⟨i8, hi8, hy0, hy1, hy2⟩ := info_parts info188
  have hcl := clone_any (c := c) hc hn
  have h7 := H.ix
  rw [hix] at h7
  have hrl := H.lt
  have HH := hideIt H
  clear H hix hc
  go_enter Tryz.func80, Tryz.ntmps80
  go_wp2_with fail
  go_loopg [13] 0 (fun g v wr => v = .int .i64 0 ∧ wr = w)
  case atStart => exact ⟨rfl, rfl⟩
  case round =>
  obtain ⟨rfl, hwr⟩ := hrel
  rw [hwr]
  clear hwr
  go_wp2_with fail
  refine hcl.mono ?_
  rintro e w2 ⟨v, rfl, hown, hb2⟩
  obtain ⟨gc, cc, rfl, hcc, hgc, hgcl, hcell, hcf⟩ := own_full hown hn0
  have bI := one_alloc w2 (.cells #[.slice (some ⟨gc, 0, none⟩) n cc, .slice none 0 0, .slice none 0 0, .int .i64 0] 225)
  have hsI : (w2.alloc (.cells #[.slice (some ⟨gc, 0, none⟩) n cc, .slice none 0 0, .slice none 0 0, .int .i64 0] 225)).heap.size = w2.heap.size + 1 := by simp
  have X : IxN (w2.alloc (.cells #[.slice (some ⟨gc, 0, none⟩) n cc, .slice none 0 0, .slice none 0 0, .int .i64 0] 225)) w2.heap.size := ⟨new_cell rfl _ _ _, new_cell rfl _ _ _, new_cell rfl _ _ _, fun o => new_frz rfl _ _ _⟩
  have C : IxC (w2.alloc (.cells #[.slice (some ⟨gc, 0, none⟩) n cc, .slice none 0 0, .slice none 0 0, .int .i64 0] 225)) w2.heap.size gc cc n f := ⟨new_cell rfl _ _ _, fun j hj => by
    have := hcell j (by omega)
    rw [intF_get hj] at this
    exact cell_later bI this, hcc⟩
  have H2 : RelAt (w2.alloc (.cells #[.slice (some ⟨gc, 0, none⟩) n cc, .slice none 0 0, .slice none 0 0, .int .i64 0] 225)) rq nm s := (HH.out.below hb2).below bI
  have k7 := cell_later (then_ hb2 bI) h7
  have hs2 := hb2.size
  have HQ := hideIt (And.intro X (And.intro C (And.intro H2 (And.intro hb2 (And.intro bI hsI)))))
  clear hcl hown hb2 bI hsI X C H2 hcell hcf h7
  go_upto_region 8 with fail
  generalize w2.alloc (.cells #[.slice (some ⟨gc, 0, none⟩) n cc, .slice none 0 0, .slice none 0 0, .int .i64 0] 225) = w3 at *
  generalize hIX : w2.heap.size = IX at *
  have nw := cell_new1 w3 (.pointer (some ⟨IX, 0, none⟩)) 188
  go_wp2_with (first | (at_builtin; refine wpList_append_own_at _ rfl (.tmp 33) (.tmp 35) 96 rfl w3.heap.size 188 i8 (.pointer none) 1 8 Tryz.underlying96 hi8 hy0 hy1 hy2 rfl (by decide) (.slice none 0 0) 0 [] rfl (own_nil _ _ _ _) ⟨w3.heap.size, 0, none⟩ 1 1 [.pointer (some ⟨IX, 0, none⟩)] rfl rfl nw (by simp [Value.oneCell']) (by unfold maxLen; omega) (by omega) (by simp) ?_) | go_in)
  intro v' w5 hown hgrow hiff hblk
  obtain ⟨X, C, H2, hb2, bI, hsI⟩ := HQ.out
  have bA := one_alloc w3 (.cells #[.pointer (some ⟨IX, 0, none⟩)] 188)
  have b5 : Below w3.heap.size w3 w5 := ⟨hgrow.os.trans bA.os, hgrow.tape.trans bA.tape, hgrow.output.trans bA.output, Nat.le_trans bA.size hgrow.size, fun q hq => (hgrow.block q (by simp; omega) (by simp [Value.ownBlock])).trans (bA.block q hq)⟩
  obtain ⟨gi, ci, rfl, hci, hgi, hgil, hcell, hcf⟩ := own_full hown (by omega)
  have H5 := H2.below b5
  have X5 := X.blk (b5.block IX (by omega))
  have C5 := C.below b5
  have g0 := hcell 0 (by omega)
  have kk7 := (World.cell?_of_block (a := ⟨rq, 7, none⟩) (b5.block rq (by omega))).trans k7
  have fz5 := H5.fz
  have HQ5 := hideIt (And.intro X5 (And.intro C5 (And.intro H5 (And.intro g0 (And.intro (show Below w.heap.size w w5 from (hb2.trans ((bI.mono (by omega)).trans (b5.mono (by omega))))) hsI)))))
  clear hown hgrow hiff hblk X C H2 hb2 bI hsI bA b5 H5 X5 C5 g0 hcell hcf k7 nw HQ
  go_wp2
  go_ret2
  obtain ⟨X5, C5, H5, g0, b5, hsI⟩ := HQ5.out
  refine ⟨IX, gc, cc, gi, ci, rfl, H5.put_idx _, ?_, C5.keep ?_ (far_set (by omega)), X5.blk (far_set (by omega)), ⟨by omega, by omega, by omega, by omega, by omega, by omega⟩, (Wr.of_below b5).set⟩
  · exact (World.cell?_of_block (a := ⟨gi, 0, none⟩) (far_set (q := gi) (by omega))).trans g0
  · exact World.cell?_of_block (a := ⟨IX, 0, none⟩) (far_set (q := IX) (by omega))
end Go.Proofs.Qxb6500880aGreat
