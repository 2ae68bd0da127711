import Derived.Test.Qxb6500877aGreatDoorQd
set_option linter.unusedVariables false
set_option linter.unusedSimpArgs false
namespace Go.Proofs.Qxb6500877aGreatDoor
open Go.RowKit

/-- The pending timers in the order in which the machine lists them. -/
def pendT (s : Wheel) (L : Option (Nat × Nat) → List Nat) : List TmR := (preL L 11).map (tmR s)
/-- Timers listed in memory, in a block not below base. -/
def TmsAt (w : World) (base : Nat) (v : Value) (l : List TmR) : Prop :=
  (l = [] ∧ v = .slice none 0 0) ∨ ∃ g cap, v = .slice (some ⟨g, 0, none⟩) l.length cap ∧ base ≤ g ∧ g < w.heap.size ∧ ∀ j e, l[j]? = some e → w.cell? ⟨g, j * 4, none⟩ = some (.int .u64 e.id) ∧ w.cell? ⟨g, j * 4 + 1, none⟩ = some (.int .i64 e.core) ∧ w.cell? ⟨g, j * 4 + 2, none⟩ = some (.int .u64 e.dl) ∧ w.cell? ⟨g, j * 4 + 3, none⟩ = some (.int .u64 e.ck)
theorem tmCells_at : ∀ (l : List TmR) (j : Nat) (e : TmR), l[j]? = some e → (tmCells l)[j * 4]? = some (.int .u64 e.id) ∧ (tmCells l)[j * 4 + 1]? = some (.int .i64 e.core) ∧ (tmCells l)[j * 4 + 2]? = some (.int .u64 e.dl) ∧ (tmCells l)[j * 4 + 3]? = some (.int .u64 e.ck)
  | [], j, e, h => by simp at h
  | a :: l, 0, e, h => by
    simp at h
    subst h
    simp [tmCells]
  | a :: l, j + 1, e, h => by
    simp at h
    obtain ⟨h0, h1, h2, h3⟩ := tmCells_at l j e h
    have hc : tmCells (a :: l) = [.int .u64 a.id, .int .i64 a.core, .int .u64 a.dl, .int .u64 a.ck] ++ tmCells l := by simp [tmCells]
    rw [hc]
    have key : ∀ q, ([.int .u64 a.id, .int .i64 a.core, .int .u64 a.dl, .int .u64 a.ck] ++ tmCells l)[(j + 1) * 4 + q]? = (tmCells l)[j * 4 + q]? := fun q => by
      rw [List.getElem?_append_right (by simp; omega)]
      congr 1
      simp
      omega
    exact ⟨(key 0).trans h0, (key 1).trans h1, (key 2).trans h2, (key 3).trans h3⟩
theorem tms_own {w : World} {g cap : Nat} {l : List TmR} (h : w.ownsRow g 84 4 (.slice (some ⟨g, 0, none⟩) l.length cap) l.length (tmCells l)) (base : Nat) (hb : base ≤ g) : TmsAt w base (.slice (some ⟨g, 0, none⟩) l.length cap) l := by
  refine .inr ⟨g, cap, rfl, hb, (h.lt g rfl).2, fun j e hj => ?_⟩
  obtain ⟨h0, h1, h2, h3⟩ := tmCells_at l j e hj
  have key : ∀ q u, (tmCells l)[q]? = some u → w.cell? ⟨g, q, none⟩ = some u := fun q u hq => by
    have := h.cells (g := g) rfl q u hq
    have e : (⟨g, 0, none⟩ : Addr).add q = ⟨g, q, none⟩ := by simp [Addr.add]; intro h; exact h.symm
    rw [e] at this
    exact this
  exact ⟨key _ _ h0, key _ _ h1, key _ _ h2, key _ _ h3⟩
set_option maxRecDepth 20000 in
set_option maxHeartbeats 4000000 in
theorem pendings_any {w : World} {B : Nat} {s : Wheel} {L : Option (Nat × Nat) → List Nat} {fr : List Nat} {f : Int → Option Int} (H : WheelAt w B s) (I : WInv s L fr f []) (T : TabAt w) (hB : 2 < B) (hlive : s.live = ((preL L 11).length : Nat)) (h64 : (preL L 11).length ≤ 64) :
    Calls Tryz.prog 88 #[.pointer (some ⟨B, 1, none⟩)] w fun e w' => ∃ v, e = .returned v ∧ TmsAt w' w.heap.size v (pendT s L) ∧ Below w.heap.size w w' := by
  obtain ⟨i0_, hi_, hz0, hz1, hz2⟩ := info_parts info84
  have hlB : B < w.heap.size := World.block_lt_of_cell? _ _ H.one.1
  have hb0 : Below w.heap.size w (w.alloc (.cells #[.pointer (some ⟨B, 1, none⟩)] 212)) := one_alloc _ _
  have c0 : (w.alloc (.cells #[.pointer (some ⟨B, 1, none⟩)] 212)).cell? ⟨w.heap.size, 0, none⟩ = some (.pointer (some ⟨B, 1, none⟩)) := by simp
  have hsz : (w.alloc (.cells #[.pointer (some ⟨B, 1, none⟩)] 212)).heap.size = w.heap.size + 1 := by simp
  generalize hW : w.alloc (.cells #[.pointer (some ⟨B, 1, none⟩)] 212) = W at *
  have HW := H.mut (Mut.of_below (lo := 0) (hi := 0) hb0 hlB) (by omega)
  have TW := T.below hb0
  have hl := HW.one.2.2.1
  rw [hlive] at hl
  obtain ⟨n, HN⟩ : ∃ n, Hid ((preL L 11).length = n) := ⟨_, hideIt rfl⟩
  rw [HN.out] at hl h64
  have HH := hideIt (And.intro HW TW)
  have HSZ := hideIt hsz
  clear hsz
  have HI := hideIt I
  clear HW TW H T hlive I
  by_cases hz : n = 0
  · subst hz
    have h0 : preL L 11 = [] := List.length_eq_zero_iff.1 HN.out
    have hl0 : W.cell? ⟨B, 515, none⟩ = some (.int .i64 0) := hl
    have HE : Hid (pendT s L = []) := hideIt (by rw [pendT, h0]; rfl)
    clear hl h0
    go_enter Tryz.func88, Tryz.ntmps88
    go_wp2
    go_ret
    exact ⟨_, rfl, .inl ⟨HE.out, rfl⟩, hb0⟩
  · have hzb : ((n : Int) == 0) = false := by simp; omega
    clear hz
    go_enter Tryz.func88, Tryz.ntmps88
    go_upto_region 3 with fail
    go_cut [3] (fun a3 wd => ∃ b3 : Nat, a3 = .pointer (some ⟨b3, 0, none⟩) ∧ ES W wd B s w.heap.size b3 W.heap.size n [] ∧ Below w.heap.size w wd ∧ EQ B w.heap.size b3 W.heap.size ∧ W.heap.size < b3)
    case first =>
      go_wp2_with (first | (at_make; refine wpList_make_own _ rfl _ _ 59 rfl W.heap.size 84 i0_ _ 4 Tryz.underlying59 hi_ hz0 hz1 .i64 .i64 (n : Int) n rfl rfl rfl (by rw [hz2]; omega) (by unfold maxLen; omega) (Nat.le_refl _) ?_; intro w3 hown3 hgrow3) | go_in)
      go_meet
      case rel =>
        have hsz := HSZ.out
        have hs3 : W.heap.size < w3.heap.size := (hown3.lt _ rfl).2
        have b3 : Below W.heap.size W w3 := ⟨hgrow3.os, hgrow3.tape, hgrow3.output, hgrow3.size, fun k hk => hgrow3.block k hk (by simp)⟩
        have b4 := b3.trans ((one_alloc w3 (.cells #[.slice (some ⟨W.heap.size, 0, none⟩) 0 n] 59)).mono hgrow3.size)
        refine ⟨w3.heap.size, rfl, ⟨HH.out.1.mut (Mut.of_below (lo := 0) (hi := 0) b4 (by omega)) (by omega), HH.out.2.below b4, cell_later b4 c0, by simp, by simp, hown3.alloc _, ⟨b4.os, b4.tape, b4.output, b4.size, fun k hk _ _ => b4.block k hk⟩⟩, hb0.trans (b4.mono (by omega)), ⟨by omega, by omega, by omega, by omega, by omega, by omega, by omega⟩, hs3⟩
    case rest =>
    obtain ⟨b3, rfl, E, hbb, q, hb3⟩ := hcut
    have hcall := each_any HI.out q HN.out.symm E
    have c1 := E.c1
    clear E hl c0
    go_wp2_with fail
    refine hcall.mono ?_
    rintro e w4 ⟨rfl, E⟩
    have c3 := E.c3
    have HE := hideIt E
    have hlen := HN.out
    rw [hlen] at c3
    clear E c1 hcall
    go_wp2
    go_ret
    have E := HE.out
    have hsz := HSZ.out
    have ow := E.own
    have hl2 : (pendT s L).length = (preL L 11).length := by simp [pendT]
    rw [← hlen, ← hl2] 
    refine ⟨_, rfl, tms_own (l := pendT s L) (by rw [hl2]; exact (by rw [hlen] at ow ⊢; exact ow)) w.heap.size (by omega), ?_⟩
    have M := E.M
    exact ⟨M.os.trans hb0.os, M.tape.trans hb0.tape, M.output.trans hb0.output, Nat.le_trans hb0.size M.size, fun k hk => (M.block k (by omega) (by omega) (by omega)).trans (hb0.block k hk)⟩
end Go.Proofs.Qxb6500877aGreatDoor
