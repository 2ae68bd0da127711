import Derived.Deep.CutBlock
import Derived.OwnWalk
import Derived.Maps.AppendAt
import Derived.Laws.BitsAllLaws
import Derived.Test.Qxb6500880aGreatA
import Derived.Test.Qxb6500880aGreatL
set_option linter.unusedVariables false
set_option linter.unusedSimpArgs false
namespace Go.Proofs.Qxb6500880aGreat
open Go.RowKit

def mixF (h : Int) (x : Nat) : Int := IntKind.u64.wrap (bits .xor .u64 h (x : Int) * 1099511628211)
def foldF (h : Int) : Int := bits .xor .u64 h (h / 536870912)
def itR (r : Nat → Nat) : Nat → Int
  | 0 => 14695981039346656037
  | n + 1 => mixF (itR r n) (r n)
def hashR (r : Nat → Nat) (n : Nat) : Int := foldF (itR r n)
def hashN (r : Nat → Nat) (n : Nat) : Nat := (hashR r n).toNat
theorem itR_rng (r : Nat → Nat) : ∀ n, 0 ≤ itR r n ∧ itR r n < 18446744073709551616
  | 0 => by unfold itR; omega
  | n + 1 => by
    show 0 ≤ mixF (itR r n) (r n) ∧ mixF (itR r n) (r n) < 18446744073709551616
    unfold mixF
    rw [IntKind.wrap_u64]
    omega
theorem itR_congr {r r' : Nat → Nat} : ∀ n, (∀ j, j < n → r j = r' j) → itR r n = itR r' n
  | 0, _ => rfl
  | n + 1, h => by
    show mixF (itR r n) (r n) = mixF (itR r' n) (r' n)
    rw [itR_congr n (fun j hj => h j (by omega)), h n (by omega)]
theorem hashN_congr {r r' : Nat → Nat} {n : Nat} (h : ∀ j, j < n → r j = r' j) : hashN r n = hashN r' n := by
  unfold hashN hashR
  rw [itR_congr n h]
theorem foldF_rng {h : Int} (h0 : 0 ≤ h) (h1 : h < 18446744073709551616) : 0 ≤ foldF h ∧ foldF h < 18446744073709551616 := by
  unfold foldF
  rw [u64_xor h (h / 536870912) h0 h1 (by omega) (by omega)]
  have : h.toNat ^^^ (h / 536870912).toNat < 2 ^ 64 := Nat.xor_lt_two_pow (by omega) (by omega)
  omega
theorem hashR_rng (r : Nat → Nat) (n : Nat) : 0 ≤ hashR r n ∧ hashR r n < 18446744073709551616 := foldF_rng (itR_rng r n).1 (itR_rng r n).2
theorem hashN_cast (r : Nat → Nat) (n : Nat) : (hashN r n : Int) = hashR r n := by
  have := (hashR_rng r n).1
  unfold hashN
  omega
/-- The low bits: the rest by a power of two. -/
theorem mask_eq {x N k : Nat} (hN : N = 2 ^ k) (hk : k ≤ 20) (hx : x < 18446744073709551616) : bits .and .u64 (x : Int) ((N : Int) - 1) = ((x % N : Nat) : Int) := by
  have h1 : 0 < N := by subst hN; exact Nat.two_pow_pos k
  have h2 : N ≤ 2 ^ 20 := by subst hN; exact Nat.pow_le_pow_right (by omega) hk
  have h3 : (2 : Nat) ^ 20 = 1048576 := by decide
  rw [u64_and (x : Int) ((N : Int) - 1) (by omega) (by omega) (by omega) (by omega)]
  have e1 : ((x : Int)).toNat = x := by omega
  have e2 : ((N : Int) - 1).toNat = N - 1 := by omega
  rw [e1, e2, hN, Nat.and_two_pow_sub_one_eq_mod]
theorem mix_any (h : Int) (x : Nat) (hx : x < 64) (w : World) : Calls Tryz.prog 75 #[.int .u64 h, .int .u32 (x : Int)] w fun e w' => e = .returned (.int .u64 (mixF h x)) ∧ w' = w := by
  have hw : IntKind.u64.wrap (x : Int) = x := by rw [IntKind.wrap_u64]; omega
  go_enter Tryz.func75, Tryz.ntmps75
  go_wp2
  go_ret
  exact ⟨rfl, rfl⟩
theorem fold_any (h : Int) (w : World) : Calls Tryz.prog 76 #[.int .u64 h] w fun e w' => e = .returned (.int .u64 (foldF h)) ∧ w' = w := by
  go_enter Tryz.func76, Tryz.ntmps76
  go_wp2
  go_ret
  exact ⟨rfl, rfl⟩
/-- A row of n symbols. -/
def SymR (w : World) (v : Value) (n : Nat) (r : Nat → Nat) : Prop := ∃ p c, v = .slice p n c ∧ n ≤ c ∧ (n = 0 ∨ ∃ g off, p = some ⟨g, off, none⟩ ∧ ∀ j, j < n → w.cell? ⟨g, off + j, none⟩ = some (.int .u32 (r j : Int)))
theorem SymR.blk {w w' : World} {v : Value} {n : Nat} {r : Nat → Nat} (h : SymR w v n r) (hb : ∀ q, v.ownBlock = some q → q < w.heap.size → w'.heap[q]? = w.heap[q]?) : SymR w' v n r := by
  obtain ⟨p, c, e, hc, h⟩ := h
  refine ⟨p, c, e, hc, ?_⟩
  rcases h with h | ⟨g, off, e2, h⟩
  · exact .inl h
  · exact .inr ⟨g, off, e2, fun j hj => (World.cell?_of_block (a := ⟨g, off + j, none⟩) (hb g (by rw [e, e2]; rfl) (World.block_lt_of_cell? _ _ (h j hj)))).trans (h j hj)⟩
theorem SymR.below {w w' : World} {v : Value} {n : Nat} {r : Nat → Nat} (h : SymR w v n r) (hb : Below w.heap.size w w') : SymR w' v n r := h.blk fun q _ hq => hb.block q hq
theorem SymR.congr {w : World} {v : Value} {n : Nat} {r r' : Nat → Nat} (h : SymR w v n r) (hr : ∀ j, j < n → r j = r' j) : SymR w v n r' := by
  obtain ⟨p, c, e, hc, h⟩ := h
  refine ⟨p, c, e, hc, ?_⟩
  rcases h with h | ⟨g, off, e2, h⟩
  · exact .inl h
  · exact .inr ⟨g, off, e2, fun j hj => by rw [← hr j hj]; exact h j hj⟩
set_option maxRecDepth 20000 in
set_option maxHeartbeats 8000000 in
theorem hashRow_any {w : World} {v : Value} {n : Nat} {r : Nat → Nat} (H : SymR w v n r) (hn : n ≤ 1000) (hr : ∀ j, j < n → r j < 64) : Calls Tryz.prog 56 #[v] w fun e w' => e = .returned (.int .u64 (hashR r n)) ∧ w' = w := by
  obtain ⟨p, c, rfl, hc, H⟩ := H
  have HH := hideIt H
  have HR := hideIt hr
  clear H hr
  go_enter Tryz.func56, Tryz.ntmps56
  go_wp2_with fail
  go_loopg [8, 3] n (fun g v8 v3 wr => ∃ i : Nat, i + g = n ∧ v8 = .int .i64 (i : Int) ∧ v3 = .int .u64 (itR r i) ∧ wr = w)
  case atStart => exact ⟨0, by omega, rfl, rfl, rfl⟩
  case round =>
    obtain ⟨i, hi, rfl, rfl, rfl⟩ := hrel
    obtain ⟨hv, HV⟩ : ∃ hv, Hid (itR r i = hv) := ⟨_, hideIt rfl⟩
    rw [HV.out]
    by_cases hin : i < n
    · have i0 : (0 : Int) ≤ i := by omega
      have i1 : (i : Int) < (n : Int) := by omega
      obtain ⟨g, off, rfl, hz⟩ : ∃ g off, p = some ⟨g, off, none⟩ ∧ wr.cell? ⟨g, off + i, none⟩ = some (.int .u32 (r i : Int)) := by
        rcases HH.out with h | ⟨g, off, e, h⟩
        · omega
        · exact ⟨g, off, e, h i hin⟩
      have hm := mix_any hv (r i) (HR.out i hin) wr
      go_wp2_with fail
      refine hm.mono ?_
      rintro e w2 ⟨rfl, rfl⟩
      go_wp2
      go_roundg (n - (i + 1))
      case measure => omega
      case rel => exact ⟨i + 1, by omega, by go_num, by rw [← HV.out]; rfl, rfl⟩
    · have e : i = n := by omega
      subst e
      have hf := fold_any hv wr
      go_wp2_with fail
      refine hf.mono ?_
      rintro e w2 ⟨rfl, rfl⟩
      go_wp2
      go_ret
      exact ⟨by rw [hashR, HV.out]; rfl, rfl⟩
/-- Are two rows equal? -/
def eqR (r r' : Nat → Nat) : Nat → Bool
  | 0 => true
  | n + 1 => eqR r r' n && decide (r n = r' n)
theorem eqR_iff (r r' : Nat → Nat) : ∀ n, eqR r r' n = true ↔ ∀ j, j < n → r j = r' j
  | 0 => by simp [eqR]
  | n + 1 => by
    simp only [eqR, Bool.and_eq_true, decide_eq_true_eq, eqR_iff r r' n]
    constructor
    · rintro ⟨h1, h2⟩ j hj
      by_cases e : j = n
      · rw [e]; exact h2
      · exact h1 j (by omega)
    · intro h
      exact ⟨fun j hj => h j (by omega), h n (by omega)⟩
theorem eqR_false {r r' : Nat → Nat} {n i : Nat} (hi : i < n) (h : r i ≠ r' i) : eqR r r' n = false := by
  rcases hq : eqR r r' n with _ | _
  · rfl
  · exact absurd ((eqR_iff r r' n).1 hq i hi) h
set_option maxRecDepth 20000 in
set_option maxHeartbeats 8000000 in
theorem equalRows_any {w : World} {v v' : Value} {n : Nat} {r r' : Nat → Nat} (H1 : SymR w v n r) (H2 : SymR w v' n r') (hn : n ≤ 1000) : Calls Tryz.prog 57 #[v, v'] w fun e w' => e = .returned (.bool (eqR r r' n)) ∧ Below w.heap.size w w' := by
  have HH1 := hideIt H1
  have HH2 := hideIt H2
  obtain ⟨p, c, rfl, hc, H1⟩ := H1
  obtain ⟨p', c', rfl, hc', H2⟩ := H2
  have K1 := hideIt H1
  have K2 := hideIt H2
  clear H1 H2
  go_enter Tryz.func57, Tryz.ntmps57
  go_wp2_with fail
  go_loopg [8] n (fun g v8 wr => ∃ i : Nat, i + g = n ∧ v8 = .int .i64 (i : Int) ∧ (∀ j, j < i → r j = r' j) ∧ Below w.heap.size w wr)
  case atStart => exact ⟨0, by omega, rfl, fun j hj => by omega, Below.refl _ _⟩
  case round =>
    obtain ⟨i, hi, rfl, heq, hb⟩ := hrel
    have HE := hideIt heq
    clear heq
    by_cases hin : i < n
    · have i0 : (0 : Int) ≤ i := by omega
      have i1 : (i : Int) < (n : Int) := by omega
      obtain ⟨g, off, rfl, hz⟩ : ∃ g off, p = some ⟨g, off, none⟩ ∧ wr.cell? ⟨g, off + i, none⟩ = some (.int .u32 (r i : Int)) := by
        rcases K1.out with h | ⟨g, off, e, h⟩
        · omega
        · exact ⟨g, off, e, cell_later hb (h i hin)⟩
      obtain ⟨g', off', rfl, hz'⟩ : ∃ g off, p' = some ⟨g, off, none⟩ ∧ wr.cell? ⟨g, off + i, none⟩ = some (.int .u32 (r' i : Int)) := by
        rcases K2.out with h | ⟨g, off, e, h⟩
        · omega
        · exact ⟨g, off, e, cell_later hb (h i hin)⟩
      go_wp2_with fail
      go_quiet (fail)
      by_cases hrr : r i = r' i
      · rw [← hrr] at hz'
        go_wp2
        go_roundg (n - (i + 1))
        case measure => omega
        case rel => exact ⟨i + 1, by omega, by go_num, fun j hj => by
          by_cases e : j = i
          · rw [e]; exact hrr
          · exact HE.out j (by omega), below_drN hb _⟩
      · have hrr' : ¬ ((r i : Int) = (r' i : Int)) := by omega
        go_wp2
        go_ret
        exact ⟨by rw [eqR_false hin hrr]; rfl, below_drN hb _⟩
    · have e : i = n := by omega
      subst e
      go_wp2
      go_ret
      exact ⟨by rw [(eqR_iff r r' i).2 HE.out]; rfl, hb⟩
/-- A relation. -/
structure RelS where
  A : Nat
  rows : Nat
  data : Value
  slots : Value
  why : Value
  idx : Value
  old : Nat
  cur : Nat
/-- A relation in memory. -/
structure RelAt (w : World) (b : Nat) (nm : ByteArray) (s : RelS) : Prop where
  nm : w.cell? ⟨b, 0, none⟩ = some (.string nm)
  ar : w.cell? ⟨b, 1, none⟩ = some (.int .i64 (s.A : Int))
  sr : w.cell? ⟨b, 2, none⟩ = some (.int .i64 0)
  da : w.cell? ⟨b, 3, none⟩ = some (s.data)
  ro : w.cell? ⟨b, 4, none⟩ = some (.int .i64 (s.rows : Int))
  sl : w.cell? ⟨b, 5, none⟩ = some (s.slots)
  wy : w.cell? ⟨b, 6, none⟩ = some (s.why)
  ix : w.cell? ⟨b, 7, none⟩ = some (s.idx)
  sp : w.cell? ⟨b, 8, none⟩ = some (.slice none 0 0)
  sa : w.cell? ⟨b, 9, none⟩ = some (.int .i64 0)
  ol : w.cell? ⟨b, 10, none⟩ = some (.int .i64 (s.old : Int))
  cu : w.cell? ⟨b, 11, none⟩ = some (.int .i64 (s.cur : Int))
  fz : ∀ o, w.frozen? ⟨b, o, none⟩ = false
theorem RelAt.blk {w w' : World} {b : Nat} {nm : ByteArray} {s : RelS} (h : RelAt w b nm s) (e : w'.heap[b]? = w.heap[b]?) : RelAt w' b nm s :=
  ⟨(World.cell?_of_block (a := ⟨b, 0, none⟩) e).trans h.nm, (World.cell?_of_block (a := ⟨b, 1, none⟩) e).trans h.ar, (World.cell?_of_block (a := ⟨b, 2, none⟩) e).trans h.sr, (World.cell?_of_block (a := ⟨b, 3, none⟩) e).trans h.da, (World.cell?_of_block (a := ⟨b, 4, none⟩) e).trans h.ro, (World.cell?_of_block (a := ⟨b, 5, none⟩) e).trans h.sl, (World.cell?_of_block (a := ⟨b, 6, none⟩) e).trans h.wy, (World.cell?_of_block (a := ⟨b, 7, none⟩) e).trans h.ix, (World.cell?_of_block (a := ⟨b, 8, none⟩) e).trans h.sp, (World.cell?_of_block (a := ⟨b, 9, none⟩) e).trans h.sa, (World.cell?_of_block (a := ⟨b, 10, none⟩) e).trans h.ol, (World.cell?_of_block (a := ⟨b, 11, none⟩) e).trans h.cu, fun o => (World.frozen?_of_block (a := ⟨b, o, none⟩) e).trans (h.fz o)⟩
theorem RelAt.lt {w : World} {b : Nat} {nm : ByteArray} {s : RelS} (h : RelAt w b nm s) : b < w.heap.size := World.block_lt_of_cell? _ _ h.nm
theorem RelAt.below {w w' : World} {b : Nat} {nm : ByteArray} {s : RelS} (h : RelAt w b nm s) (hb : Below w.heap.size w w') : RelAt w' b nm s := h.blk (hb.block b h.lt)
theorem RelAt.drew {w : World} {b : Nat} {nm : ByteArray} {s : RelS} (h : RelAt w b nm s) : RelAt w.drew b nm s := h.blk rfl
theorem RelAt.put_data {w : World} {b : Nat} {nm : ByteArray} {s : RelS} (h : RelAt w b nm s) (x : Value) : RelAt (w.setCell ⟨b, 3, none⟩ (x)) b nm { s with data := x } := by
  have o : ∀ j, j ≠ 3 → (w.setCell ⟨b, 3, none⟩ (x)).cell? ⟨b, j, none⟩ = w.cell? ⟨b, j, none⟩ := fun j hj => World.cell?_setCell_other _ _ _ _ (by simp <;> omega)
  exact ⟨(o 0 (by omega)).trans h.nm, (o 1 (by omega)).trans h.ar, (o 2 (by omega)).trans h.sr, World.cell?_setCell_same _ _ _ h.da, (o 4 (by omega)).trans h.ro, (o 5 (by omega)).trans h.sl, (o 6 (by omega)).trans h.wy, (o 7 (by omega)).trans h.ix, (o 8 (by omega)).trans h.sp, (o 9 (by omega)).trans h.sa, (o 10 (by omega)).trans h.ol, (o 11 (by omega)).trans h.cu, fun o => (World.frozen?_setCell _ _ _ _).trans (h.fz o)⟩
theorem RelAt.put_rows {w : World} {b : Nat} {nm : ByteArray} {s : RelS} (h : RelAt w b nm s) (x : Nat) : RelAt (w.setCell ⟨b, 4, none⟩ (.int .i64 (x : Int))) b nm { s with rows := x } := by
  have o : ∀ j, j ≠ 4 → (w.setCell ⟨b, 4, none⟩ (.int .i64 (x : Int))).cell? ⟨b, j, none⟩ = w.cell? ⟨b, j, none⟩ := fun j hj => World.cell?_setCell_other _ _ _ _ (by simp <;> omega)
  exact ⟨(o 0 (by omega)).trans h.nm, (o 1 (by omega)).trans h.ar, (o 2 (by omega)).trans h.sr, (o 3 (by omega)).trans h.da, World.cell?_setCell_same _ _ _ h.ro, (o 5 (by omega)).trans h.sl, (o 6 (by omega)).trans h.wy, (o 7 (by omega)).trans h.ix, (o 8 (by omega)).trans h.sp, (o 9 (by omega)).trans h.sa, (o 10 (by omega)).trans h.ol, (o 11 (by omega)).trans h.cu, fun o => (World.frozen?_setCell _ _ _ _).trans (h.fz o)⟩
theorem RelAt.put_slots {w : World} {b : Nat} {nm : ByteArray} {s : RelS} (h : RelAt w b nm s) (x : Value) : RelAt (w.setCell ⟨b, 5, none⟩ (x)) b nm { s with slots := x } := by
  have o : ∀ j, j ≠ 5 → (w.setCell ⟨b, 5, none⟩ (x)).cell? ⟨b, j, none⟩ = w.cell? ⟨b, j, none⟩ := fun j hj => World.cell?_setCell_other _ _ _ _ (by simp <;> omega)
  exact ⟨(o 0 (by omega)).trans h.nm, (o 1 (by omega)).trans h.ar, (o 2 (by omega)).trans h.sr, (o 3 (by omega)).trans h.da, (o 4 (by omega)).trans h.ro, World.cell?_setCell_same _ _ _ h.sl, (o 6 (by omega)).trans h.wy, (o 7 (by omega)).trans h.ix, (o 8 (by omega)).trans h.sp, (o 9 (by omega)).trans h.sa, (o 10 (by omega)).trans h.ol, (o 11 (by omega)).trans h.cu, fun o => (World.frozen?_setCell _ _ _ _).trans (h.fz o)⟩
theorem RelAt.put_why {w : World} {b : Nat} {nm : ByteArray} {s : RelS} (h : RelAt w b nm s) (x : Value) : RelAt (w.setCell ⟨b, 6, none⟩ (x)) b nm { s with why := x } := by
  have o : ∀ j, j ≠ 6 → (w.setCell ⟨b, 6, none⟩ (x)).cell? ⟨b, j, none⟩ = w.cell? ⟨b, j, none⟩ := fun j hj => World.cell?_setCell_other _ _ _ _ (by simp <;> omega)
  exact ⟨(o 0 (by omega)).trans h.nm, (o 1 (by omega)).trans h.ar, (o 2 (by omega)).trans h.sr, (o 3 (by omega)).trans h.da, (o 4 (by omega)).trans h.ro, (o 5 (by omega)).trans h.sl, World.cell?_setCell_same _ _ _ h.wy, (o 7 (by omega)).trans h.ix, (o 8 (by omega)).trans h.sp, (o 9 (by omega)).trans h.sa, (o 10 (by omega)).trans h.ol, (o 11 (by omega)).trans h.cu, fun o => (World.frozen?_setCell _ _ _ _).trans (h.fz o)⟩
theorem RelAt.put_idx {w : World} {b : Nat} {nm : ByteArray} {s : RelS} (h : RelAt w b nm s) (x : Value) : RelAt (w.setCell ⟨b, 7, none⟩ (x)) b nm { s with idx := x } := by
  have o : ∀ j, j ≠ 7 → (w.setCell ⟨b, 7, none⟩ (x)).cell? ⟨b, j, none⟩ = w.cell? ⟨b, j, none⟩ := fun j hj => World.cell?_setCell_other _ _ _ _ (by simp <;> omega)
  exact ⟨(o 0 (by omega)).trans h.nm, (o 1 (by omega)).trans h.ar, (o 2 (by omega)).trans h.sr, (o 3 (by omega)).trans h.da, (o 4 (by omega)).trans h.ro, (o 5 (by omega)).trans h.sl, (o 6 (by omega)).trans h.wy, World.cell?_setCell_same _ _ _ h.ix, (o 8 (by omega)).trans h.sp, (o 9 (by omega)).trans h.sa, (o 10 (by omega)).trans h.ol, (o 11 (by omega)).trans h.cu, fun o => (World.frozen?_setCell _ _ _ _).trans (h.fz o)⟩
theorem RelAt.put_old {w : World} {b : Nat} {nm : ByteArray} {s : RelS} (h : RelAt w b nm s) (x : Nat) : RelAt (w.setCell ⟨b, 10, none⟩ (.int .i64 (x : Int))) b nm { s with old := x } := by
  have o : ∀ j, j ≠ 10 → (w.setCell ⟨b, 10, none⟩ (.int .i64 (x : Int))).cell? ⟨b, j, none⟩ = w.cell? ⟨b, j, none⟩ := fun j hj => World.cell?_setCell_other _ _ _ _ (by simp <;> omega)
  exact ⟨(o 0 (by omega)).trans h.nm, (o 1 (by omega)).trans h.ar, (o 2 (by omega)).trans h.sr, (o 3 (by omega)).trans h.da, (o 4 (by omega)).trans h.ro, (o 5 (by omega)).trans h.sl, (o 6 (by omega)).trans h.wy, (o 7 (by omega)).trans h.ix, (o 8 (by omega)).trans h.sp, (o 9 (by omega)).trans h.sa, World.cell?_setCell_same _ _ _ h.ol, (o 11 (by omega)).trans h.cu, fun o => (World.frozen?_setCell _ _ _ _).trans (h.fz o)⟩
theorem RelAt.put_cur {w : World} {b : Nat} {nm : ByteArray} {s : RelS} (h : RelAt w b nm s) (x : Nat) : RelAt (w.setCell ⟨b, 11, none⟩ (.int .i64 (x : Int))) b nm { s with cur := x } := by
  have o : ∀ j, j ≠ 11 → (w.setCell ⟨b, 11, none⟩ (.int .i64 (x : Int))).cell? ⟨b, j, none⟩ = w.cell? ⟨b, j, none⟩ := fun j hj => World.cell?_setCell_other _ _ _ _ (by simp <;> omega)
  exact ⟨(o 0 (by omega)).trans h.nm, (o 1 (by omega)).trans h.ar, (o 2 (by omega)).trans h.sr, (o 3 (by omega)).trans h.da, (o 4 (by omega)).trans h.ro, (o 5 (by omega)).trans h.sl, (o 6 (by omega)).trans h.wy, (o 7 (by omega)).trans h.ix, (o 8 (by omega)).trans h.sp, (o 9 (by omega)).trans h.sa, (o 10 (by omega)).trans h.ol, World.cell?_setCell_same _ _ _ h.cu, fun o => (World.frozen?_setCell _ _ _ _).trans (h.fz o)⟩
/-- Of what was there, only blocks in S have been written. -/
structure Ws (S : Nat → Prop) (w w' : World) : Prop where
  os : w'.os = w.os
  tape : w'.tape = w.tape
  output : w'.output = w.output
  size : w.heap.size ≤ w'.heap.size
  block : ∀ q, q < w.heap.size → ¬ S q → w'.heap[q]? = w.heap[q]?
theorem Ws.refl (S : Nat → Prop) (w : World) : Ws S w w := ⟨rfl, rfl, rfl, Nat.le_refl _, fun _ _ _ => rfl⟩
theorem Ws.trans {S : Nat → Prop} {w w1 w2 : World} (h : Ws S w w1) (g : Ws S w1 w2) : Ws S w w2 := ⟨g.os.trans h.os, g.tape.trans h.tape, g.output.trans h.output, Nat.le_trans h.size g.size, fun q h1 h2 => (g.block q (Nat.lt_of_lt_of_le h1 h.size) h2).trans (h.block q h1 h2)⟩
theorem Ws.of_below {S : Nat → Prop} {w w1 : World} (h : Below w.heap.size w w1) : Ws S w w1 := ⟨h.os, h.tape, h.output, h.size, fun q h1 _ => h.block q h1⟩
theorem Ws.below {S : Nat → Prop} {w w1 w2 : World} (h : Ws S w w1) (g : Below w1.heap.size w1 w2) : Ws S w w2 := h.trans (Ws.of_below g)
theorem Ws.mono {S S' : Nat → Prop} {w w1 : World} (h : Ws S w w1) (hs : ∀ q, q < w.heap.size → S q → S' q) : Ws S' w w1 := ⟨h.os, h.tape, h.output, h.size, fun q h1 h2 => h.block q h1 (fun e => h2 (hs q h1 e))⟩
theorem Ws.set {S : Nat → Prop} {w w1 : World} (h : Ws S w w1) {b o : Nat} {v : Value} (hb : S b ∨ w.heap.size ≤ b) : Ws S w (w1.setCell ⟨b, o, none⟩ v) := ⟨h.os, h.tape, h.output, by simpa using h.size, fun q h1 h2 => (far_set (fun e => by rcases hb with z | z; exact h2 (e ▸ z); omega)).trans (h.block q h1 h2)⟩
theorem Ws.drew {S : Nat → Prop} {w w1 : World} (h : Ws S w w1) : Ws S w w1.drew := ⟨h.os, h.tape, h.output, h.size, h.block⟩
end Go.Proofs.Qxb6500880aGreat
