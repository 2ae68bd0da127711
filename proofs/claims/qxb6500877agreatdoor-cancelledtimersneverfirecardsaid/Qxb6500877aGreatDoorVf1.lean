import Derived.Test.Qxb6500877aGreatDoorVf0
set_option linter.unusedVariables false
set_option linter.unusedSimpArgs false
namespace Go.Proofs.Qxb6500877aGreatDoor
open Go.RowKit

theorem FS.len {w : World} {base : Nat} {p : Option Addr} {cap : Nat} {l : List FiredS} (h : FS w base p cap l) : l.length ≤ 9223372036854775807 := by
  have : maxLen = 9223372036854775807 := by decide
  rcases h with h | ⟨g, h1, h2, h3, h4, h5, h6⟩
  · rw [h]; simp
  · omega
theorem FS.drew {w : World} {base : Nat} {p : Option Addr} {cap : Nat} {l : List FiredS} (h : FS w base p cap l) : FS w.drew base p cap l := h.keep (Nat.le_refl _) (fun _ _ _ => rfl)
theorem FS.wide {w : World} {base base' : Nat} {p : Option Addr} {cap : Nat} {l : List FiredS} (h : FS w base p cap l) (hb : base' ≤ base) : FS w base' p cap l := by
  rcases h with h | ⟨g, h1, h2, h3, h4, h5⟩
  · exact .inl h
  · exact .inr ⟨g, h1, by omega, h3, h4, h5⟩
theorem FS.below {w w' : World} {base : Nat} {p : Option Addr} {cap : Nat} {l : List FiredS} (h : FS w base p cap l) (hb : Below w.heap.size w w') : FS w' base p cap l := h.keep hb.size (fun q _ hq => hb.block q hq)
theorem LT.grow {n0 : Nat} {w0 w w' : World} {B mb t k : Nat} {ν : Net} {τ : TSt} {bk pb cb n r : Nat} {β : Int → Option TmV} {χ : Int → Bool} (h : LT n0 w0 w B mb t k ν τ bk pb cb n β χ) (Q : LQ n0 B mb bk pb cb) (G : w.grownBy w' (some r)) (hr : n0 ≤ r ∧ B < r ∧ mb < r ∧ bk < r ∧ pb < r ∧ cb < r) : LT n0 w0 w' B mb t k ν τ bk pb cb n β χ := by
  obtain ⟨q0, q1, q2, q3, q4, q5, q6⟩ := Q
  have hs := h.s
  have h1 := h.m.lt
  have h2 := h.m.mlt
  obtain ⟨h3, h4, h5⟩ := h.bo.lt
  have hne : ∀ q, q < r → some q ≠ some r := fun q hq e => by cases e; omega
  refine ⟨h.m.blocks (fun q hq => G.block q (by omega) (hne q (by omega))), h.bo.keep (fun q hq => G.block q (by omega) (hne q (by omega))), ?_, Nat.le_trans h.s G.size⟩
  exact ⟨G.os.trans h.b.os, G.tape.trans h.b.tape, G.output.trans h.b.output, Nat.le_trans h.b.size G.size, fun k hk => (G.block k (by omega) (hne k (by omega))).trans (h.b.block k hk)⟩
theorem LT.rng {n0 : Nat} {w0 w w' : World} {B mb t k : Nat} {ν : Net} {τ : TSt} {bk pb cb n : Nat} {β : Int → Option TmV} {χ : Int → Bool} (h : LT n0 w0 w B mb t k ν τ bk pb cb n β χ) (Q : LQ n0 B mb bk pb cb) (G : w.grownBy w' none) : LT n0 w0 w' B mb t k ν τ bk pb cb n β χ :=
  h.keep ⟨G.os, G.tape, G.output, G.size, fun k hk => G.block k hk (by simp)⟩
theorem map_late {w : World} {pb n : Nat} {τ : Int → Option TmV} {D : DataW Unit} (hown : w.ownsMap Tryz.prog 36 R4 pb n D) (hD : ∀ id : Int, 0 ≤ id → id < 18446744073709551616 → Maps.has D (.int .u64 id) = (τ id).isSome ∧ D.atKey (.int .u64 id) (tmD 0 ⟨0, 0, 0⟩) = dOf id (τ id)) {til : Int} (hl : ∀ id v, τ id = some v → til < v.dl) {x : Int} {c : Int × TmV} {kl : Lit} {y : DataW Unit × List MemPlace} (hk : keyOf Tryz.prog 36 (.int .u64 x) = some kl) (hh : Maps.has D kl = true) (hy : R4 (tmVal c.1 c.2) = some y) (ha : ∀ zd, D.atKey kl zd = y.1) : til < c.2.dl := by
  obtain ⟨x', ex, rfl, hw⟩ := Maps.keyOf_int_inv Tryz.underlying36 hk
  cases ex
  have e0 : IntKind.u64.min = 0 := by decide
  have e1 : IntKind.u64.max = 18446744073709551615 := by decide
  simp [Lit.wf] at hw
  obtain ⟨r1, r2⟩ := hD x (by omega) (by omega)
  rw [hh] at r1
  obtain ⟨v, hv⟩ := Option.isSome_iff_exists.1 r1.symm
  rw [hv, ha] at r2
  rw [R4_mk] at hy
  cases hy
  obtain ⟨_, e⟩ := tmD_inj r2
  have := hl x v hv
  rw [← e] at this
  exact this
theorem invK36 (key : Value) (kl : Lit) (h : keyOf Tryz.prog 36 key = some kl) : ∃ x, key = Value.int .u64 x := by
  obtain ⟨x, rfl, _⟩ := Maps.keyOf_int_inv Tryz.underlying36 h
  exact ⟨x, rfl⟩
def mkTm (c : Int × TmV) : Value := .agg #[.int .u64 c.1, .int .i64 c.2.core, .int .u64 c.2.dl, .int .u64 c.2.ck]
theorem invV84 (v : Value) (y : DataW Unit × List MemPlace) (h : R4 v = some y) : ∃ c, v = mkTm c := by
  obtain ⟨a, u, rfl, _⟩ := R4_inv h
  exact ⟨(a, u), rfl⟩
theorem take_snocF {l : List FiredS} {j : Nat} {b : FiredS} (h : l[j]? = some b) : l.take (j + 1) = l.take j ++ [b] := by rw [List.take_add_one, h]; rfl
end Go.Proofs.Qxb6500877aGreatDoor
