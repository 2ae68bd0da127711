import Derived.Deep.CutBlock
import Derived.OwnWalk
import Derived.Test.Qxb6500877aGreatDoorIc0
import Derived.Test.Qxb6500877aGreatDoorGa
set_option linter.unusedVariables false
set_option linter.unusedSimpArgs false
namespace Go.Proofs.Qxb6500877aGreatDoor
open Go.RowKit

theorem numCells_snoc (l : List Nat) (x : Nat) : numCells (l ++ [x]) = numCells l ++ [.int .i64 (x : Int)] := by simp [numCells]
theorem nums_snoc {w : World} {base : Nat} {v : Value} {l : List Nat} {x : Nat} (h : w.ownsRow base 65 1 v (l.length + 1) (numCells l ++ [.int .i64 (x : Int)])) : w.ownsRow base 65 1 v (l ++ [x]).length (numCells (l ++ [x])) := by
  rw [numCells_snoc, List.length_append]
  exact h
/-- The bits told so far (l) and those left (r). -/
def Told (b r : Nat) (l : List Nat) : Prop := l.Nodup ∧ (∀ i ∈ l, i < 16 ∧ r.testBit i = false) ∧ ∀ i, i < 16 → (b.testBit i = true ↔ i ∈ l ∨ r.testBit i = true)
theorem told_start (b : Nat) : Told b b [] := ⟨List.nodup_nil, fun i h => by simp at h, fun i _ => by simp⟩
theorem told_next {b r : Nat} {l : List Nat} (h : Told b r l) (h0 : 0 < r) (h1 : r < 65536) : Told b (r &&& (r - 1)) (l ++ [tz64 r]) := by
  obtain ⟨a1, a2, a3⟩ := h
  obtain ⟨t16, tb, hcl⟩ := low_spec h0 h1
  refine ⟨?_, fun i hi => ?_, fun i hi => ?_⟩
  · rw [List.nodup_append]
    refine ⟨a1, by simp, fun x hx y hy e => ?_⟩
    rw [List.mem_singleton] at hy
    subst e
    subst hy
    rw [(a2 _ hx).2] at tb
    simp at tb
  · rw [hcl i]
    rcases List.mem_append.1 hi with q | q
    · rw [(a2 i q).2]
      exact ⟨(a2 i q).1, by simp⟩
    · rw [List.mem_singleton] at q
      subst q
      exact ⟨t16, by simp⟩
  · rw [a3 i hi, hcl i, List.mem_append, List.mem_singleton]
    by_cases q : i = tz64 r
    · subst q; simp [tb]
    · simp [q]
theorem told_end {b : Nat} {l : List Nat} (h : Told b 0 l) : l.Nodup ∧ ∀ i, i ∈ l ↔ i < 16 ∧ b.testBit i = true := by
  obtain ⟨a1, a2, a3⟩ := h
  refine ⟨a1, fun i => ⟨fun hi => ⟨(a2 i hi).1, (a3 i (a2 i hi).1).2 (.inl hi)⟩, fun hi => ?_⟩⟩
  rcases (a3 i hi.1).1 hi.2 with q | q
  · exact q
  · simp at q
set_option maxRecDepth 20000 in
set_option maxHeartbeats 8000000 in
theorem nonEmpty_any {w : World} {B b : Nat} (hc : w.cell? ⟨B, 6595, none⟩ = some (.int .u16 (b : Int))) (T : Tab32 w) (hb : b < 65536) :
    Calls Tryz.prog 110 #[.pointer (some ⟨B, 1939, none⟩)] w fun e w' => ∃ (v : Value) (l : List Nat), e = .returned v ∧ w'.ownsRow w.heap.size 65 1 v l.length (numCells l) ∧ (l.Nodup ∧ ∀ i, i ∈ l ↔ i < 16 ∧ b.testBit i = true) ∧ Below w.heap.size w w' := by
  have h1w : 1 < w.heap.size := World.block_lt_of_cell? _ _ (T 0 (by omega))
  have hlB : B < w.heap.size := World.block_lt_of_cell? _ _ hc
  by_cases hz : b = 0
  · subst hz
    go_enter Tryz.func110, Tryz.ntmps110
    go_wp2
    go_ret
    exact ⟨_, [], rfl, World.ownsRow_nil _ _ _ _, ⟨List.nodup_nil, fun i => by simp⟩, Below.refl _ _⟩
  · have hz0 : ((b : Int) == 0) = false := by simp; omega
    have hon := ones16 hb w
    obtain ⟨i0_, hi_, hzz, hz1, hz2⟩ := info_parts info65
    go_enter Tryz.func110, Tryz.ntmps110
    go_wp2_with fail
    refine hon.mono ?_
    rintro e w1 ⟨n, hn, rfl, hb1⟩
    have hc1 := cell_later hb1 hc
    have hs1 := hb1.size
    have hw1 : ∀ w3 : World, w1.grownBy w3 none → Below w.heap.size w w3 := fun w3 hg => below_grown hb1 hg hs1 (fun k hk => by simp at hk)
    have HW1 := hideIt hw1
    clear hw1 hon
    go_upto_region 4 with (first | (at_make; refine wpList_make_own _ rfl _ _ 70 rfl w.heap.size 65 i0_ (.int .i64 0) 1 Tryz.underlying70 hi_ hzz hz1 .i64 .i64 (n : Int) n rfl rfl rfl (by rw [hz2]; omega) (by unfold maxLen; omega) hs1 ?_; intro w3 hown3 hgrow3; have hb3 := HW1.out w3 hgrow3; clear hgrow3) | go_in)
    have hc3 := cell_later hb3 hc
    clear hc1
    go_wp2_with fail
    go_loopg [3, 4] b (fun gg v3 v4 wr => ∃ (r : Nat) (l : List Nat), gg = r ∧ v4 = .int .u16 (r : Int) ∧ wr.ownsRow w.heap.size 65 1 v3 l.length (numCells l) ∧ Hid (Told b r l) ∧ r ≤ b ∧ Below w.heap.size w wr)
    case atStart => exact ⟨b, [], rfl, rfl, hown3, hideIt (told_start b), Nat.le_refl _, hb3⟩
    case round =>
      clear hown3 hb3 hc3
      obtain ⟨r, l, rfl, rfl, hown, HT, hrb, hbw⟩ := hrel
      by_cases hr0 : gk = 0
      · subst hr0
        go_wp2
        go_ret
        exact ⟨_, l, rfl, hown, told_end HT.out, hbw⟩
      · have hrp : 0 < gk := by omega
        have hr65 : gk < 65536 := by omega
        have hnz : ((gk : Int) != 0) = true := by simp; omega
        have hl16 : l.length ≤ 16 := nodup_le 16 l HT.out.1 (fun x hx => (HT.out.2.1 x hx).1)
        have htz := tz16_any hrp hr65 (T.blk (hbw.block 1 h1w))
        have hsub : IntKind.u16.wrap ((gk : Int) - 1) = ((gk - 1 : Nat) : Int) := by rw [IntKind.wrap_u16]; omega
        have hand : bits .and .u16 (gk : Int) ((gk - 1 : Nat) : Int) = ((gk &&& (gk - 1) : Nat) : Int) := u16_and_nat _ _ hr65 (by omega)
        have hle : gk &&& (gk - 1) ≤ gk - 1 := Nat.and_le_right
        have hsr : w.heap.size ≤ wr.heap.size := hbw.size
        have hr : ∀ k, u3.ownBlock = some k → w.heap.size ≤ k := fun k hk => (hown.lt k hk).1
        have HN := hideIt (told_next HT.out hrp hr65)
        generalize tz64 gk = t at htz HN
        generalize hrr : gk &&& (gk - 1) = rr at hand hle HN
        generalize hr1 : gk - 1 = r1 at hsub hand
        clear hrr
        go_wp2_with fail
        refine htz.mono ?_
        rintro e wr ⟨rfl, rfl⟩
        go_wp2_with (first | (at_builtin; refine wpList_append_own _ rfl (.tmp 26) (.tmp 29) 70 rfl w.heap.size 65 i0_ (.int .i64 0) 1 8 Tryz.underlying70 hi_ hzz hz1 hz2 rfl (by decide) _ l.length (numCells l) rfl (hown.alloc _) ⟨wr.heap.size, 0, none⟩ 1 1 [.int .i64 (t : Int)] rfl rfl (cell_one_new _ _ _) (fun x hx => by simp at hx; rw [hx]; rfl) (by unfold maxLen; omega) (by omega) (by simp; omega) ?_; intro v' w3 hown' hgrow3 _; have hb2 : Below w.heap.size w w3 := below_grown (hbw.trans ((one_alloc wr _).mono hsr)) hgrow3 (by simp; omega) hr; clear hgrow3) | go_in)
        go_roundg rr
        case measure => omega
        case rel => exact ⟨rr, l ++ [t], rfl, rfl, nums_snoc hown', HN, by omega, hb2⟩
end Go.Proofs.Qxb6500877aGreatDoor
