import Derived.Deep.CutBlock
import Derived.OwnWalk
import Derived.Maps.AppendAt
import Derived.Maps.OwnSet
import Derived.Maps.OwnOps
import Derived.Laws.ResultCell
import Derived.Laws.AppendOwnNone
import Derived.Test.Qxb6500880aGreatQg
set_option linter.unusedVariables false
set_option linter.unusedSimpArgs false
namespace Go.Proofs.Qxb6500880aGreat
open Go.RowKit

set_option maxRecDepth 20000 in
set_option maxHeartbeats 8000000 in
theorem run_go {w : World} {D : RD} {c : Nat → Value} {X : Nat → RS} {LB cl gl cgl : Nat} (R : Rdy w D c X) (c7 : c 7 = .slice (some ⟨LB, 0, none⟩) 1 cl) (c8 : c 8 = .int .i64 0) (c9 : c 9 = .int .u8 0) (hL : w.cell? ⟨LB, 0, none⟩ = some (.slice (some ⟨gl, 0, none⟩) 1 cgl)) (hg : w.cell? ⟨gl, 0, none⟩ = some (.pointer (some ⟨D.ρ.RB, 0, none⟩))) :
    Calls Tryz.prog 9 #[.pointer (some ⟨D.E, 0, none⟩)] w fun e w' => e = .returned (.agg #[.int .u8 0, .int .i64 0, .int .i64 0]) ∧ ∃ c' X', StO w w' D c X c' X' := by
  have bA := one_alloc w (.cells #[.int .u8 0, .int .i64 0, .int .i64 0] 61)
  have hsp := step_go (R.below bA) c7 c8 c9 (cell_later bA hL) (cell_later bA hg)
  have a0 : (w.alloc (.cells #[.int .u8 0, .int .i64 0, .int .i64 0] 61)).cell? ⟨w.heap.size, 0, none⟩ = some (.int .u8 0) := by simp
  have a1 : (w.alloc (.cells #[.int .u8 0, .int .i64 0, .int .i64 0] 61)).cell? ⟨w.heap.size, 1, none⟩ = some (.int .i64 0) := by simp
  have a2 : (w.alloc (.cells #[.int .u8 0, .int .i64 0, .int .i64 0] 61)).cell? ⟨w.heap.size, 2, none⟩ = some (.int .i64 0) := by simp
  have af : ∀ o, (w.alloc (.cells #[.int .u8 0, .int .i64 0, .int .i64 0] 61)).frozen? ⟨w.heap.size, o, none⟩ = false := fun o => by simp
  have hA : (w.alloc (.cells #[.int .u8 0, .int .i64 0, .int .i64 0] 61)).heap.size = w.heap.size + 1 := by simp
  have hel := R.s.flt
  have HQ := hideIt (And.intro bA (And.intro a0 (And.intro a1 (And.intro a2 (And.intro af (And.intro hA hel))))))
  clear bA a0 a1 a2 af hA R hL hg c7 c8 c9 hel
  go_enter Tryz.func9, Tryz.ntmps9
  go_wp2_with fail
  generalize w.alloc (.cells #[.int .u8 0, .int .i64 0, .int .i64 0] 61) = w1 at *
  go_loopg [] 0 (fun gg wr => wr = w1)
  case atStart => exact rfl
  case round =>
    have ew := hrel.symm
    subst ew
    go_wp2_with fail
    refine hsp.mono ?_
    rintro e w5 ⟨rfl, c', X', V⟩
    obtain ⟨bA, a0, a1, a2, af, hA, hel⟩ := HQ.out
    have hfp : ∀ k q, k < 9 → fpE D X' k q → q ≠ w.heap.size := fun k q hk hq e => by
      have ho : ∀ k, k < 9 → fpE D X k q → False := fun k hk hq => by have := hel k q hk hq; omega
      match k, hk, hq with
      | 0, _, hq => exact ho 0 (by omega) hq
      | 1, _, hq => exact ho 1 (by omega) hq
      | 2, _, hq => exact ho 2 (by omega) hq
      | 3, _, hq => exact ho 3 (by omega) hq
      | 4, _, hq => exact ho 4 (by omega) hq
      | 5, _, hq =>
        obtain ⟨v, ev⟩ := V.x0
        change fpR (D.rb 0) (X' 0).s q at hq
        rw [ev] at hq
        exact ho 5 (by omega) hq
      | 6, _, hq => change fpR (D.rb 1) (X' 1).s q at hq; rw [V.x1.1] at hq; exact ho 6 (by omega) hq
      | 7, _, hq =>
        rcases V.fr q hq with z | z
        · exact ho 7 (by omega) z
        · omega
      | 8, _, hq => change fpR (D.rb 3) (X' 3).s q at hq; rw [V.x1.2] at hq; exact ho 8 (by omega) hq
    have kz := V.W.block w.heap.size (by omega) (fun e => by
      rcases e with e | e | e | e | e
      · have := hel 0 _ (by omega) e; omega
      · have := hel 1 _ (by omega) e; omega
      · have := hel 2 _ (by omega) e; omega
      · have := hel 5 _ (by omega) (.inl e); omega
      · have := hel 7 _ (by omega) e; omega)
    have z0 := (World.cell?_of_block (a := ⟨w.heap.size, 0, none⟩) kz).trans a0
    have z1 := (World.cell?_of_block (a := ⟨w.heap.size, 1, none⟩) kz).trans a1
    have z2 := (World.cell?_of_block (a := ⟨w.heap.size, 2, none⟩) kz).trans a2
    have zf : ∀ o, w5.frozen? ⟨w.heap.size, o, none⟩ = false := fun o => (World.frozen?_of_block (a := ⟨w.heap.size, o, none⟩) kz).trans (af o)
    have hs5 := V.W.size
    have bN := one_alloc w5 (.cells #[.int .u8 0, .int .i64 0, .int .i64 0] 61)
    have y0 := cell_later bN z0
    have y1 := cell_later bN z1
    have y2 := cell_later bN z2
    have hw5 : w.heap.size < w5.heap.size := by omega
    have yf : ∀ o, (w5.alloc (.cells #[.int .u8 0, .int .i64 0, .int .i64 0] 61)).frozen? ⟨w.heap.size, o, none⟩ = false := fun o => (World.frozen?_of_block (a := ⟨w.heap.size, o, none⟩) (bN.block _ hw5)).trans (zf o)
    have n0 : (w5.alloc (.cells #[.int .u8 0, .int .i64 0, .int .i64 0] 61)).cell? ⟨w5.heap.size, 0, none⟩ = some (.int .u8 0) := by simp
    have n1 : (w5.alloc (.cells #[.int .u8 0, .int .i64 0, .int .i64 0] 61)).cell? ⟨w5.heap.size, 1, none⟩ = some (.int .i64 0) := by simp
    have n2 : (w5.alloc (.cells #[.int .u8 0, .int .i64 0, .int .i64 0] 61)).cell? ⟨w5.heap.size, 2, none⟩ = some (.int .i64 0) := by simp
    have hne : w.heap.size ≠ w5.heap.size := by omega
    have S6 := V.s.below bN
    have W6 : Ws (fun q => q = D.E ∨ q = D.GR ∨ q = D.GC ∨ q = D.rb 0 ∨ fpR (D.rb 2) (X 2).s q) w (w5.alloc (.cells #[.int .u8 0, .int .i64 0, .int .i64 0] 61)) := ((Ws.of_below bA).trans V.W).below bN
    have hfr : ∀ q, fpR (D.rb 2) (X' 2).s q → fpR (D.rb 2) (X 2).s q ∨ w.heap.size < q := fun q hq => (V.fr q hq).imp id (fun z => by omega)
    have HX := hideIt (And.intro S6 (And.intro W6 (And.intro V.c (And.intro V.x0 (And.intro V.x1 (And.intro V.A (And.intro V.k (And.intro hfr hfp))))))))
    clear V bA a0 a1 a2 af hA kz z0 z1 z2 zf hs5 bN S6 W6 hsp hfr hfp hel
    go_upto_region 2 with fail
    generalize hp : w5.heap.size = p5 at *
    generalize w5.alloc (.cells #[.int .u8 0, .int .i64 0, .int .i64 0] 61) = w6 at *
    go_wp2
    refine bodyPost_ret (v := .agg #[.int .u8 0, .int .i64 0, .int .i64 0]) ?_ rfl ?_
    · rw [results_one_cell rfl]
      go_simp
    · obtain ⟨S6, W6, h1, h2, h3, h4, h5, h6, hfp⟩ := HX.out
      exact ⟨rfl, c', X', ((S6.off hfp).off hfp).off hfp, h1, h2, h3, h4, h5, h6, ((W6.set (.inr (Nat.le_refl _))).set (.inr (Nat.le_refl _))).set (.inr (Nat.le_refl _))⟩
end Go.Proofs.Qxb6500880aGreat
