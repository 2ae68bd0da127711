import Derived.Deep.CutBlock
import Derived.OwnWalk
import Derived.Maps.AppendAt
import Derived.Test.Qxb6500880aGreatC
import Derived.Test.Qxb6500880aGreatHa
set_option linter.unusedVariables false
set_option linter.unusedSimpArgs false
namespace Go.Proofs.Qxb6500880aGreat
open Go.RowKit

/-- The hash table of a relation: N places. -/
def SlotAt (w : World) (v : Value) (N : Nat) (f : Nat → Nat) : Prop := ∃ g, v = .slice (some ⟨g, 0, none⟩) N N ∧ (∀ j, j < N → w.cell? ⟨g, j, none⟩ = some (.int .i32 (f j : Int))) ∧ ∀ o, w.frozen? ⟨g, o, none⟩ = false
theorem SlotAt.blk {w w' : World} {v : Value} {N : Nat} {f : Nat → Nat} (h : SlotAt w v N f) (hb : ∀ q, v.ownBlock = some q → w'.heap[q]? = w.heap[q]?) : SlotAt w' v N f := by
  obtain ⟨g, e, h, fz⟩ := h
  have hg := hb g (by rw [e]; rfl)
  exact ⟨g, e, fun j hj => (World.cell?_of_block (a := ⟨g, j, none⟩) hg).trans (h j hj), fun o => (World.frozen?_of_block (a := ⟨g, o, none⟩) hg).trans (fz o)⟩
theorem SlotAt.lt {w : World} {v : Value} {N : Nat} {f : Nat → Nat} (h : SlotAt w v N f) (hN : 0 < N) {q : Nat} (hq : v.ownBlock = some q) : q < w.heap.size := by
  obtain ⟨g, e, h, fz⟩ := h
  rw [e] at hq
  simp [Value.ownBlock] at hq
  subst hq
  exact World.block_lt_of_cell? _ _ (h 0 hN)
theorem SlotAt.below {w w' : World} {v : Value} {N : Nat} {f : Nat → Nat} (h : SlotAt w v N f) (hN : 0 < N) (hb : Below w.heap.size w w') : SlotAt w' v N f := h.blk fun q hq => hb.block q (h.lt hN hq)
/-- Row i of the rows d of A symbols. -/
def rowF (d : Nat → Nat) (A i : Nat) : Nat → Nat := fun j => d (i * A + j)
def stF (d : Nat → Nat) (A N : Nat) : Nat → Nat := fun j => hashN (rowF d A j) A % N
/-- A relation's rows and its table, k of the rows entered. -/
structure RelT (w : World) (b : Nat) (nm : ByteArray) (s : RelS) (d : Nat → Nat) (N k : Nat) (f : Nat → Nat) : Prop where
  at' : RelAt w b nm s
  data : SymR w s.data (s.rows * s.A) d
  slot : SlotAt w s.slots N f
  tbl : Tbl N k f (stF d s.A N)
  hk : k ≤ s.rows
  pw : ∃ x, N = 2 ^ x ∧ x ≤ 20
  a0 : 0 < s.A
  a1 : s.A ≤ 1000
  r1 : s.rows ≤ 1000
  val : ∀ j, j < s.rows * s.A → d j < 64
def sameR (d : Nat → Nat) (A : Nat) (r : Nat → Nat) (j : Nat) : Prop := ∀ c, c < A → d (j * A + c) = r c
/-- What 'seek' answers. -/
def SeekOut (e : Ending) (d : Nat → Nat) (A N k : Nat) (f r : Nat → Nat) : Prop :=
  (∃ j, j < k ∧ sameR d A r j ∧ e = .returned (.tuple #[.int .i64 (j : Int), .bool true])) ∨
  ((∀ j, j < k → ¬ sameR d A r j) ∧ ∃ D, D < N ∧ f ((hashN r A % N + D) % N) = 0 ∧ (∀ x, x < D → f ((hashN r A % N + x) % N) ≠ 0) ∧ e = .returned (.tuple #[.int .i64 (((hashN r A % N + D) % N : Nat) : Int), .bool false]))
theorem pw_le {N : Nat} (h : ∃ x, N = 2 ^ x ∧ x ≤ 20) : 0 < N ∧ N ≤ 1048576 := by
  obtain ⟨x, rfl, hx⟩ := h
  refine ⟨Nat.two_pow_pos x, ?_⟩
  have : 2 ^ x ≤ 2 ^ 20 := Nat.pow_le_pow_right (by omega) hx
  have : (2 : Nat) ^ 20 = 1048576 := by decide
  omega
theorem mask_of {N x : Nat} (h : ∃ x, N = 2 ^ x ∧ x ≤ 20) (hx : x < 18446744073709551616) : bits .and .u64 (x : Int) ((N : Int) - 1) = ((x % N : Nat) : Int) := by
  obtain ⟨k, e, hk⟩ := h
  exact mask_eq e hk hx
set_option maxRecDepth 20000 in
set_option maxHeartbeats 8000000 in
theorem seek_any {w : World} {b N k : Nat} {nm : ByteArray} {s : RelS} {v : Value} {f d r : Nat → Nat} (T : RelT w b nm s d N k f) (HR : SymR w v s.A r) (hr : ∀ j, j < s.A → r j < 64) :
    Calls Tryz.prog 46 #[.pointer (some ⟨b, 0, none⟩), v] w fun e w' => SeekOut e d s.A N k f r ∧ Below w.heap.size w w' := by
  have hsl := T.at'.sl
  obtain ⟨g, eg, hg, _⟩ := T.slot
  rw [eg] at hsl
  obtain ⟨N0, N1⟩ := pw_le T.pw
  have hhr := hashRow_any HR T.a1 hr
  obtain ⟨D, hDN, hD0, hD1⟩ := T.tbl.free (hashN r s.A % N)
  have HT := hideIt T
  have HG := hideIt hg
  have HHR := hideIt HR
  have HDD := hideIt (And.intro hDN (And.intro hD0 hD1))
  obtain ⟨A, HA⟩ : ∃ A, Hid (s.A = A) := ⟨_, hideIt rfl⟩
  rw [HA.out] at hhr ⊢
  have hm0 := mask_of T.pw (x := hashN r A) (by have := hashR_rng r A; have := hashN_cast r A; omega)
  rw [hashN_cast] at hm0
  obtain ⟨s0, HS0⟩ : ∃ s0, Hid (hashN r A % N = s0) := ⟨_, hideIt rfl⟩
  rw [HS0.out] at hm0
  have hs0 : s0 < N := by rw [← HS0.out]; exact Nat.mod_lt _ N0
  have hw1 : IntKind.i64.wrap ((N : Int) - 1) = (N : Int) - 1 := by rw [IntKind.wrap_i64]; omega
  have hw2 : IntKind.u64.wrap ((N : Int) - 1) = (N : Int) - 1 := by rw [IntKind.wrap_u64]; omega
  clear hg HR T hDN hD0 hD1 hr
  go_enter Tryz.func46, Tryz.ntmps46
  go_wp2_with fail
  refine hhr.mono ?_
  rintro e w1 ⟨rfl, e1⟩
  have e1 := e1.symm
  subst e1
  go_wp2_with fail
  go_loopg [7] D (fun gg v wr => ∃ dd, dd + gg = D ∧ v = .int .u64 (((s0 + dd) % N : Nat) : Int) ∧ (∀ x, x < dd → f ((s0 + x) % N) ≠ 0 ∧ ¬ sameR d A r (f ((s0 + x) % N) - 1)) ∧ Below w.heap.size w wr)
  case atStart => exact ⟨0, by omega, by rw [Nat.add_zero, Nat.mod_eq_of_lt hs0], fun x hx => by omega, Below.refl _ _⟩
  case round =>
    obtain ⟨dd, hdd, rfl, hinv, hb⟩ := hrel
    have HI := hideIt hinv
    have HB := hideIt hb
    obtain ⟨p, HP⟩ : ∃ p, Hid ((s0 + dd) % N = p) := ⟨_, hideIt rfl⟩
    rw [HP.out]
    have hp : p < N := by rw [← HP.out]; exact Nat.mod_lt _ N0
    have p0 : (0 : Int) ≤ p := by omega
    have p1 : (p : Int) < N := by omega
    have hcell : wr.cell? ⟨g, p, none⟩ = some (.int .i32 (f p : Int)) := cell_later hb (HG.out p hp)
    have hsl' : wr.cell? ⟨b, 5, none⟩ = some (.slice (some ⟨g, 0, none⟩) N N) := cell_later hb hsl
    have hwp : IntKind.i64.wrap (p : Int) = p := by rw [IntKind.wrap_i64]; omega
    have hwp1 : IntKind.u64.wrap ((p : Int) + 1) = (p : Int) + 1 := by rw [IntKind.wrap_u64]; omega
    have hm1 := mask_of HT.out.pw (x := p + 1) (by omega)
    have hq : (p + 1) % N = (s0 + (dd + 1)) % N := by rw [← HP.out, Nat.mod_add_mod]; rfl
    rw [hq] at hm1
    have e1 : ((p + 1 : Nat) : Int) = (p : Int) + 1 := rfl
    rw [e1] at hm1
    have HPL := hideIt (And.intro hp hq)
    clear hinv hb hq e1
    by_cases hf : f p = 0
    · rw [hf] at hcell
      have hcell' : wr.cell? ⟨g, p, none⟩ = some (.int .i32 0) := hcell
      clear hcell
      have HF := hideIt hf
      clear hf
      go_wp2
      go_ret2
      refine ⟨.inr ⟨fun j hj hsame => ?_, dd, ?_, ?_, ?_, ?_⟩, HB.out⟩
      · have hst : stF d s.A N j = s0 := by
          rw [← HS0.out, HA.out]
          show hashN (rowF d A j) A % N = hashN r A % N
          rw [hashN_congr (r := rowF d A j) (r' := r) hsame]
        obtain ⟨x, hx, hxe⟩ := HT.out.tbl.ahead (D := dd) hj (by rw [hst, HP.out]; exact HF.out) (fun e he => by rw [hst]; exact (HI.out e he).1)
        rw [hst] at hxe
        have := (HI.out x hx).2
        rw [hxe] at this
        exact this hsame
      · have := HDD.out.1
        omega
      · rw [HS0.out, HP.out]; exact HF.out
      · intro x hx
        rw [HS0.out]
        exact (HI.out x hx).1
      · rw [HS0.out, HP.out]
        rfl
    · obtain ⟨y, hy⟩ : ∃ y, f p = y + 1 := ⟨f p - 1, by omega⟩
      rw [hy] at hcell
      have hyk : y < k := by have := HT.out.tbl.le p HPL.out.1; omega
      have hkr := HT.out.hk
      have hr1 := HT.out.r1
      have hy1 : ¬ (((y + 1 : Nat) : Int) = 0) := by omega
      have hwy : IntKind.i32.wrap (((y + 1 : Nat) : Int) - 1) = (y : Int) := by rw [IntKind.wrap_i32]; omega
      have hwy2 : IntKind.i64.wrap (y : Int) = (y : Int) := by rw [IntKind.wrap_i64]; omega
      have hrow := row_any (HT.out.at'.below HB.out) (HT.out.data.below HB.out) HT.out.a0 HT.out.a1 HT.out.r1 (i := y) (by omega)
      obtain ⟨z, HZ⟩ : ∃ z, Hid (((y + 1 : Nat) : Int) = z) := ⟨_, hideIt rfl⟩
      rw [HZ.out] at hy1 hwy hcell
      have HY := hideIt (And.intro hy hyk)
      clear hy hf hkr hr1 hyk
      go_wp2_with fail
      refine hrow.mono ?_
      rintro e w2 ⟨vr, rfl, hvr, _, rfl⟩
      have hb2 : Below w.heap.size w wr.drew := below_dr HB.out
      have heq := equalRows_any hvr (HHR.out.below hb2) HT.out.a1
      rw [HA.out] at heq
      clear hvr hrow
      go_wp2_with fail
      refine heq.mono ?_
      rintro e w3 ⟨rfl, hb3⟩
      have HB3 := hideIt (then_ hb2 hb3)
      clear hb2 hb3 heq HB
      rcases hE : eqR (fun j => d (y * A + j)) r A with _ | _
      · have HE := hideIt hE
        clear hE
        go_wp2
        go_roundg (D - (dd + 1))
        case measure =>
          have h2 := HDD.out.2.1
          by_cases hlt : dd < D
          · omega
          · have : dd = D := by omega
            subst this
            rw [HA.out, HS0.out, HP.out, HY.out.1] at h2
            omega
        case rel =>
          have hlt : dd < D := by
            have h2 := HDD.out.2.1
            by_cases hlt : dd < D
            · exact hlt
            · have : dd = D := by omega
              subst this
              rw [HA.out, HS0.out, HP.out, HY.out.1] at h2
              omega
          refine ⟨dd + 1, by omega, rfl, fun x hx => ?_, HB3.out⟩
          by_cases hxd : x = dd
          · subst hxd
            rw [HP.out, HY.out.1]
            refine ⟨by omega, fun hs => ?_⟩
            have := (eqR_iff (fun j => d (y * A + j)) r A).2 hs
            rw [HE.out] at this
            cases this
          · exact HI.out x (by omega)
      · have HE := hideIt hE
        clear hE
        go_wp2
        go_ret2
        exact ⟨.inl ⟨y, HY.out.2, (eqR_iff (fun j => d (y * A + j)) r A).1 HE.out, rfl⟩, HB3.out⟩
end Go.Proofs.Qxb6500880aGreat
