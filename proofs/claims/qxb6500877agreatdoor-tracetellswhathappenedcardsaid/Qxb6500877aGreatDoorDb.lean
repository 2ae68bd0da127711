import Derived.Test.Qxb6500877aGreatDoorDa
set_option linter.unusedVariables false
set_option linter.unusedSimpArgs false
namespace Go.Proofs.Qxb6500877aGreatDoor
open Go.RowKit

theorem load43 {w : World} {b : Nat} {c co tk tm : Int} {hm : Bool} {m : MsgV} {p : Option Addr} {a n : Nat} (R : RgAt w b c co tk tm hm m p a n) : (loadVar 43 ⟨b, 0, none⟩).run Tryz.prog w = .ok (resV c co tk tm hm m p a n) w := by
  obtain ⟨r0, r1, r2, r3, r4, r5, r6, r7, r8, r9, r10, r11, r12, r13, r14⟩ := R
  unfold resV
  go_simp
theorem RgAt.drew {w : World} {b : Nat} {c co tk tm : Int} {hm : Bool} {m : MsgV} {p : Option Addr} {a n : Nat} (R : RgAt w b c co tk tm hm m p a n) : RgAt w.drew b c co tk tm hm m p a n := R.blk rfl
theorem snap_core {t : Nat} {ν : Net} {τ : TSt} {σ : Sg} {S : Snap} (h : SnapOf t ν τ σ S) {c : Nat} (hc : c < 4) : S.cur c = σ.s.cur c ∧ ((S.q c).length : Int) = σ.s.qn c := by
  obtain ⟨Q, l, I, T, rfl⟩ := h
  refine ⟨rfl, ?_⟩
  rw [I.qn c hc]
  show ((preQ (Q c) 4).length : Int) = _
  simp [preQ]
  omega
theorem IdsAt.slice {w : World} {base : Nat} {v : Value} {l : List Nat} (h : IdsAt w base v l) : ∃ p cap, v = .slice p l.length cap := by
  rcases h with ⟨rfl, rfl⟩ | ⟨g, cap, rfl, _⟩
  · exact ⟨none, 0, rfl⟩
  · exact ⟨_, cap, rfl⟩
theorem pick_idle {σ : Sg} {c : Nat} (h1 : σ.s.cur c = -1) (h2 : σ.s.qn c = 0) : pickRes σ c = ⟨-1, 1, σ⟩ := by
  rw [pickRes, if_neg]
  rintro (h | h)
  · exact h h1
  · omega
theorem pick_busy {σ : Sg} {c : Nat} (h : σ.s.cur c ≠ -1 ∨ 0 < σ.s.qn c) : (pickRes σ c).c = 0 ∧ (pickRes σ c).σ.s.cur c = (pickRes σ c).tk := by
  rw [pickRes, if_pos h]
  refine ⟨rfl, ?_⟩
  by_cases e : σ.s.cur c = -1
  · simp [e, Sg.inc, Sg.put, pickS, Sched.setCur]
  · simp [e, Sg.inc, Sg.put, pickS, Sched.setCur]
/-- A step of one machine leaves another one. -/
theorem Mach.over {w w' : World} {B mb t k B1 mb1 t1 k1 : Nat} {ν ν1 : Net} {τ τ1 : TSt} {σ σ1 : Sg} (h : Mach w B mb t k ν τ σ) (D : Done w w' B1 mb1 t1 k1 ν1 τ1 σ1) (n1 : B ≠ B1 ∧ B ≠ mb1) (n2 : mb ≠ B1 ∧ mb ≠ mb1) : Mach w' B mb t k ν τ σ := by
  have h1 := h.lt
  have h2 := h.mlt
  have h3 := h.hB
  have h4 := D.m.hB
  have h5 := D.m.hm
  exact h.blocks (fun q hq => D.f.block q (by omega) (by omega) (by omega))
/-- The machine and its two copies. -/
structure TR (n0 : Nat) (w0 w : World) (B mb t k : Nat) (ν : Net) (τ : TSt) (σ : Sg) (B1 mb1 k1 : Nat) (σ1 : Sg) (B2 mb2 k2 : Nat) (σ2 : Sg) (b5 : Nat) (o : OpS) (N : Nat) : Prop where
  m : Mach w B mb t k ν τ σ
  m1 : Mach w B1 mb1 t k1 ν τ σ1
  m2 : Mach w B2 mb2 t k2 ν τ σ2
  op : OpAt w b5 o
  b : Below n0 w0 w
  s : n0 ≤ w.heap.size
  h0 : n0 ≤ B ∧ n0 ≤ mb
  h1 : B < b5 ∧ mb < b5 ∧ b5 < B1 ∧ b5 < mb1
  h2 : B1 < B2 ∧ B1 < mb2 ∧ mb1 < B2 ∧ mb1 < mb2
  h3 : B2 < N ∧ mb2 < N ∧ N ≤ w.heap.size
section
variable {n0 : Nat} {w0 w w' : World} {B mb t k : Nat} {ν : Net} {τ : TSt} {σ : Sg} {B1 mb1 k1 : Nat} {σ1 : Sg} {B2 mb2 k2 : Nat} {σ2 : Sg} {b5 : Nat} {o : OpS} {N : Nat}
theorem TR.keep (H : TR n0 w0 w B mb t k ν τ σ B1 mb1 k1 σ1 B2 mb2 k2 σ2 b5 o N) (hb : Below w.heap.size w w') : TR n0 w0 w' B mb t k ν τ σ B1 mb1 k1 σ1 B2 mb2 k2 σ2 b5 o N :=
  ⟨H.m.below hb, H.m1.below hb, H.m2.below hb, H.op.blk (hb.block b5 H.op.lt), below_to H.b hb H.s, Nat.le_trans H.s hb.size, H.h0, H.h1, H.h2, by have := hb.size; have := H.h3; omega⟩
theorem TR.one (H : TR n0 w0 w B mb t k ν τ σ B1 mb1 k1 σ1 B2 mb2 k2 σ2 b5 o N) {k1' : Nat} {σ1' : Sg} (D : Done w w' B1 mb1 t k1' ν τ σ1') : TR n0 w0 w' B mb t k ν τ σ B1 mb1 k1' σ1' B2 mb2 k2 σ2 b5 o N := by
  have h0 := H.h0
  have h1 := H.h1
  have h2 := H.h2
  exact ⟨H.m.over D (by omega) (by omega), D.m, H.m2.over D (by omega) (by omega), H.op.blk (D.f.block b5 H.op.lt (by omega) (by omega)), below_done H.b D H.s (by omega) (by omega), Nat.le_trans H.s D.f.size, H.h0, H.h1, H.h2, by have := D.f.size; have := H.h3; omega⟩
theorem TR.two (H : TR n0 w0 w B mb t k ν τ σ B1 mb1 k1 σ1 B2 mb2 k2 σ2 b5 o N) {k2' : Nat} {σ2' : Sg} (D : Done w w' B2 mb2 t k2' ν τ σ2') : TR n0 w0 w' B mb t k ν τ σ B1 mb1 k1 σ1 B2 mb2 k2' σ2' b5 o N := by
  have h0 := H.h0
  have h1 := H.h1
  have h2 := H.h2
  exact ⟨H.m.over D (by omega) (by omega), H.m1.over D (by omega) (by omega), D.m, H.op.blk (D.f.block b5 H.op.lt (by omega) (by omega)), below_done H.b D H.s (by omega) (by omega), Nat.le_trans H.s D.f.size, H.h0, H.h1, H.h2, by have := D.f.size; have := H.h3; omega⟩
end
/-- A snapshot that stands above all machines. -/
structure SP (w : World) (b base N t : Nat) (ν : Net) (τ : TSt) (σ : Sg) (S : Snap) : Prop where
  st : StAt w b base S
  so : SnapOf t ν τ σ S
  sm : SnapSm S
  h : N ≤ b ∧ N ≤ base
theorem SP.keep {w w' : World} {b base N t : Nat} {ν : Net} {τ : TSt} {σ : Sg} {S : Snap} (H : SP w b base N t ν τ σ S) (hb : Below w.heap.size w w') : SP w' b base N t ν τ σ S := ⟨H.st.below hb, H.so, H.sm, H.h⟩
theorem SP.over {w w' : World} {b base N t : Nat} {ν : Net} {τ : TSt} {σ : Sg} {S : Snap} (H : SP w b base N t ν τ σ S) {B1 mb1 t1 k1 : Nat} {ν1 : Net} {τ1 : TSt} {σ1 : Sg} (D : Done w w' B1 mb1 t1 k1 ν1 τ1 σ1) (hn : B1 < N ∧ mb1 < N) : SP w' b base N t ν τ σ S := by
  have h := H.h
  exact ⟨H.st.done D (by omega) (by omega), H.so, H.sm, H.h⟩
theorem sp_new {w w2 : World} {cs : Array Value} {S : Snap} {N t : Nat} {ν : Net} {τ : TSt} {σ : Sg} (hcz : cs.size = 123) (hsc : ∀ j u, cs[j]? = some u → SCell w2 w.heap.size S j u) (so : SnapOf t ν τ σ S) (sm : SnapSm S) (hN : N ≤ w.heap.size) (hb : Below w.heap.size w w2) : SP (w2.alloc (.cells cs 61)) w2.heap.size w.heap.size N t ν τ σ S :=
  ⟨stat_new hcz hsc, so, sm, by have := hb.size; omega⟩
theorem SP.equal {w : World} {b base b' base' N t : Nat} {ν : Net} {τ : TSt} {σ : Sg} {S S' : Snap} (H : SP w b base N t ν τ σ S) (H' : SP w b' base' N t ν τ σ S') : Calls Tryz.prog 24 #[.pointer (some ⟨b, 0, none⟩), .pointer (some ⟨b', 0, none⟩)] w fun e w' => e = .returned (.bool true) ∧ Below w.heap.size w w' :=
  stEqual_any H.st H'.st (H.so.eq H'.so) H.sm
end Go.Proofs.Qxb6500877aGreatDoor
