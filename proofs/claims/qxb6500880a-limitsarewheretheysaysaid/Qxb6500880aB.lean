import Derived.Deep.CutBlock
import Derived.OwnWalk
import Derived.Maps.AppendAt
import Derived.Laws.BitsAllLaws
import Derived.Test.Qxb6500880aA
set_option linter.unusedVariables false
set_option linter.unusedSimpArgs false
namespace Go.Proofs.Qxb6500880a
open Go.RowKit

def mixF (h : Int) : Int := IntKind.u64.wrap (bits .xor .u64 h 0 * 1099511628211)
def foldF (h : Int) : Int := bits .xor .u64 h (h / 536870912)
def itZ : Nat → Int
  | 0 => 14695981039346656037
  | n + 1 => mixF (itZ n)
def hashZ (n : Nat) : Int := foldF (itZ n)
def slotZ (n : Nat) : Nat := (hashZ n).toNat &&& 15
theorem itZ_rng : ∀ n, 0 ≤ itZ n ∧ itZ n < 18446744073709551616
  | 0 => by unfold itZ; omega
  | n + 1 => by
    show 0 ≤ mixF (itZ n) ∧ mixF (itZ n) < 18446744073709551616
    unfold mixF
    rw [IntKind.wrap_u64]
    omega
theorem foldF_rng {h : Int} (h0 : 0 ≤ h) (h1 : h < 18446744073709551616) : 0 ≤ foldF h ∧ foldF h < 18446744073709551616 := by
  unfold foldF
  rw [u64_xor h (h / 536870912) h0 h1 (by omega) (by omega)]
  have : h.toNat ^^^ (h / 536870912).toNat < 2 ^ 64 := Nat.xor_lt_two_pow (by omega) (by omega)
  omega
theorem hashZ_rng (n : Nat) : 0 ≤ hashZ n ∧ hashZ n < 18446744073709551616 := foldF_rng (itZ_rng n).1 (itZ_rng n).2
theorem slotZ_lt (n : Nat) : slotZ n < 16 := Nat.lt_of_le_of_lt Nat.and_le_right (by decide)
theorem slotZ_eq (n : Nat) : bits .and .u64 (hashZ n) 15 = (slotZ n : Int) := by
  obtain ⟨h0, h1⟩ := hashZ_rng n
  rw [u64_and (hashZ n) 15 h0 h1 (by omega) (by omega)]
  rfl
theorem mix_any (h : Int) (w : World) : Calls Try.prog 65 #[.int .u64 h, .int .u32 0] w fun e w' => e = .returned (.int .u64 (mixF h)) ∧ w' = w := by
  go_enter Try.func65, Try.ntmps65
  go_wp2
  go_ret
  exact ⟨rfl, rfl⟩
theorem fold_any (h : Int) (w : World) : Calls Try.prog 66 #[.int .u64 h] w fun e w' => e = .returned (.int .u64 (foldF h)) ∧ w' = w := by
  go_enter Try.func66, Try.ntmps66
  go_wp2
  go_ret
  exact ⟨rfl, rfl⟩
/-- A row of n symbols, all zero. -/
def SymZ (w : World) (v : Value) (n : Nat) : Prop := ∃ p c, v = .slice p n c ∧ n ≤ c ∧ (n = 0 ∨ ∃ g off, p = some ⟨g, off, none⟩ ∧ ∀ j, j < n → w.cell? ⟨g, off + j, none⟩ = some (.int .u32 0))
theorem SymZ.below {w w' : World} {v : Value} {n : Nat} (h : SymZ w v n) (hb : Below w.heap.size w w') : SymZ w' v n := by
  obtain ⟨p, c, e, hc, h⟩ := h
  refine ⟨p, c, e, hc, ?_⟩
  rcases h with h | ⟨g, off, e, h⟩
  · exact .inl h
  · exact .inr ⟨g, off, e, fun j hj => cell_later hb (h j hj)⟩
set_option maxRecDepth 20000 in
set_option maxHeartbeats 8000000 in
theorem hashRow_any {w : World} {v : Value} {n : Nat} (H : SymZ w v n) (hn : n ≤ 1000) : Calls Try.prog 50 #[v] w fun e w' => e = .returned (.int .u64 (hashZ n)) ∧ w' = w := by
  obtain ⟨p, c, rfl, hc, H⟩ := H
  have HH := hideIt H
  clear H
  go_enter Try.func50, Try.ntmps50
  go_wp2_with fail
  go_loopg [8, 3] n (fun g v8 v3 wr => ∃ i : Nat, i + g = n ∧ v8 = .int .i64 (i : Int) ∧ v3 = .int .u64 (itZ i) ∧ wr = w)
  case atStart => exact ⟨0, by omega, rfl, rfl, rfl⟩
  case round =>
    obtain ⟨i, hi, rfl, rfl, rfl⟩ := hrel
    obtain ⟨hv, HV⟩ : ∃ hv, Hid (itZ i = hv) := ⟨_, hideIt rfl⟩
    rw [HV.out]
    by_cases hin : i < n
    · have i0 : (0 : Int) ≤ i := by omega
      have i1 : (i : Int) < (n : Int) := by omega
      obtain ⟨g, off, rfl, hz⟩ : ∃ g off, p = some ⟨g, off, none⟩ ∧ wr.cell? ⟨g, off + i, none⟩ = some (.int .u32 0) := by
        rcases HH.out with h | ⟨g, off, e, h⟩
        · omega
        · exact ⟨g, off, e, h i hin⟩
      have hm := mix_any hv wr
      go_wp2_with fail
      refine hm.mono ?_
      rintro e w2 ⟨rfl, rfl⟩
      go_wp2
      go_roundg (n - (i + 1))
      case measure => omega
      case rel => exact ⟨i + 1, by omega, by go_num, by rw [← HV.out]; rfl, rfl⟩
    · have e : i = n := by omega
      subst e
      have hf := fold_any hv wr
      go_wp2_with fail
      refine hf.mono ?_
      rintro e w2 ⟨rfl, rfl⟩
      go_wp2
      go_ret
      exact ⟨by rw [hashZ, HV.out]; rfl, rfl⟩
set_option maxRecDepth 20000 in
set_option maxHeartbeats 8000000 in
theorem equalRows_any {w : World} {v v' : Value} {n : Nat} (H1 : SymZ w v n) (H2 : SymZ w v' n) (hn : n ≤ 1000) : Calls Try.prog 51 #[v, v'] w fun e w' => e = .returned (.bool true) ∧ Below w.heap.size w w' := by
  have HH1 := hideIt H1
  have HH2 := hideIt H2
  obtain ⟨p, c, rfl, hc, H1⟩ := H1
  obtain ⟨p', c', rfl, hc', H2⟩ := H2
  have K1 := hideIt H1
  have K2 := hideIt H2
  clear H1 H2
  go_enter Try.func51, Try.ntmps51
  go_wp2_with fail
  go_loopg [8] n (fun g v8 wr => ∃ i : Nat, i + g = n ∧ v8 = .int .i64 (i : Int) ∧ Below w.heap.size w wr)
  case atStart => exact ⟨0, by omega, rfl, Below.refl _ _⟩
  case round =>
    obtain ⟨i, hi, rfl, hb⟩ := hrel
    by_cases hin : i < n
    · have i0 : (0 : Int) ≤ i := by omega
      have i1 : (i : Int) < (n : Int) := by omega
      obtain ⟨g, off, rfl, hz⟩ : ∃ g off, p = some ⟨g, off, none⟩ ∧ wr.cell? ⟨g, off + i, none⟩ = some (.int .u32 0) := by
        rcases K1.out with h | ⟨g, off, e, h⟩
        · omega
        · exact ⟨g, off, e, cell_later hb (h i hin)⟩
      obtain ⟨g', off', rfl, hz'⟩ : ∃ g off, p' = some ⟨g, off, none⟩ ∧ wr.cell? ⟨g, off + i, none⟩ = some (.int .u32 0) := by
        rcases K2.out with h | ⟨g, off, e, h⟩
        · omega
        · exact ⟨g, off, e, cell_later hb (h i hin)⟩
      go_wp2_with fail
      go_quiet (fail)
      go_wp2
      go_roundg (n - (i + 1))
      case measure => omega
      case rel => exact ⟨i + 1, by omega, by go_num, below_drN hb _⟩
    · have e : i = n := by omega
      subst e
      go_wp2
      go_ret
      exact ⟨rfl, hb⟩
/-- A relation. -/
structure RelS where
  A : Nat
  rows : Nat
  data : Value
  slots : Value
  why : Value
  spr : Value
  sat : Int
  old : Nat
  cur : Nat
/-- A relation in memory. -/
structure RelAt (w : World) (b : Nat) (nm : ByteArray) (s : RelS) : Prop where
  nm : w.cell? ⟨b, 0, none⟩ = some (.string nm)
  ar : w.cell? ⟨b, 1, none⟩ = some (.int .i64 (s.A : Int))
  sr : w.cell? ⟨b, 2, none⟩ = some (.int .i64 0)
  da : w.cell? ⟨b, 3, none⟩ = some (s.data)
  ro : w.cell? ⟨b, 4, none⟩ = some (.int .i64 (s.rows : Int))
  sl : w.cell? ⟨b, 5, none⟩ = some (s.slots)
  wy : w.cell? ⟨b, 6, none⟩ = some (s.why)
  ix : w.cell? ⟨b, 7, none⟩ = some (.slice none 0 0)
  sp : w.cell? ⟨b, 8, none⟩ = some (s.spr)
  sa : w.cell? ⟨b, 9, none⟩ = some (.int .i64 s.sat)
  ol : w.cell? ⟨b, 10, none⟩ = some (.int .i64 (s.old : Int))
  cu : w.cell? ⟨b, 11, none⟩ = some (.int .i64 (s.cur : Int))
  fz : ∀ o, w.frozen? ⟨b, o, none⟩ = false
theorem RelAt.blk {w w' : World} {b : Nat} {nm : ByteArray} {s : RelS} (h : RelAt w b nm s) (e : w'.heap[b]? = w.heap[b]?) : RelAt w' b nm s :=
  ⟨(World.cell?_of_block (a := ⟨b, 0, none⟩) e).trans h.nm, (World.cell?_of_block (a := ⟨b, 1, none⟩) e).trans h.ar, (World.cell?_of_block (a := ⟨b, 2, none⟩) e).trans h.sr, (World.cell?_of_block (a := ⟨b, 3, none⟩) e).trans h.da, (World.cell?_of_block (a := ⟨b, 4, none⟩) e).trans h.ro, (World.cell?_of_block (a := ⟨b, 5, none⟩) e).trans h.sl, (World.cell?_of_block (a := ⟨b, 6, none⟩) e).trans h.wy, (World.cell?_of_block (a := ⟨b, 7, none⟩) e).trans h.ix, (World.cell?_of_block (a := ⟨b, 8, none⟩) e).trans h.sp, (World.cell?_of_block (a := ⟨b, 9, none⟩) e).trans h.sa, (World.cell?_of_block (a := ⟨b, 10, none⟩) e).trans h.ol, (World.cell?_of_block (a := ⟨b, 11, none⟩) e).trans h.cu, fun o => (World.frozen?_of_block (a := ⟨b, o, none⟩) e).trans (h.fz o)⟩
theorem RelAt.lt {w : World} {b : Nat} {nm : ByteArray} {s : RelS} (h : RelAt w b nm s) : b < w.heap.size := World.block_lt_of_cell? _ _ h.nm
theorem RelAt.below {w w' : World} {b : Nat} {nm : ByteArray} {s : RelS} (h : RelAt w b nm s) (hb : Below w.heap.size w w') : RelAt w' b nm s := h.blk (hb.block b h.lt)
theorem RelAt.drew {w : World} {b : Nat} {nm : ByteArray} {s : RelS} (h : RelAt w b nm s) : RelAt w.drew b nm s := h.blk rfl
theorem RelAt.put_data {w : World} {b : Nat} {nm : ByteArray} {s : RelS} (h : RelAt w b nm s) (x : Value) : RelAt (w.setCell ⟨b, 3, none⟩ (x)) b nm { s with data := x } := by
  have o : ∀ j, j ≠ 3 → (w.setCell ⟨b, 3, none⟩ (x)).cell? ⟨b, j, none⟩ = w.cell? ⟨b, j, none⟩ := fun j hj => World.cell?_setCell_other _ _ _ _ (by simp <;> omega)
  exact ⟨(o 0 (by omega)).trans h.nm, (o 1 (by omega)).trans h.ar, (o 2 (by omega)).trans h.sr, World.cell?_setCell_same _ _ _ h.da, (o 4 (by omega)).trans h.ro, (o 5 (by omega)).trans h.sl, (o 6 (by omega)).trans h.wy, (o 7 (by omega)).trans h.ix, (o 8 (by omega)).trans h.sp, (o 9 (by omega)).trans h.sa, (o 10 (by omega)).trans h.ol, (o 11 (by omega)).trans h.cu, fun o => (World.frozen?_setCell _ _ _ _).trans (h.fz o)⟩
theorem RelAt.put_rows {w : World} {b : Nat} {nm : ByteArray} {s : RelS} (h : RelAt w b nm s) (x : Nat) : RelAt (w.setCell ⟨b, 4, none⟩ (.int .i64 (x : Int))) b nm { s with rows := x } := by
  have o : ∀ j, j ≠ 4 → (w.setCell ⟨b, 4, none⟩ (.int .i64 (x : Int))).cell? ⟨b, j, none⟩ = w.cell? ⟨b, j, none⟩ := fun j hj => World.cell?_setCell_other _ _ _ _ (by simp <;> omega)
  exact ⟨(o 0 (by omega)).trans h.nm, (o 1 (by omega)).trans h.ar, (o 2 (by omega)).trans h.sr, (o 3 (by omega)).trans h.da, World.cell?_setCell_same _ _ _ h.ro, (o 5 (by omega)).trans h.sl, (o 6 (by omega)).trans h.wy, (o 7 (by omega)).trans h.ix, (o 8 (by omega)).trans h.sp, (o 9 (by omega)).trans h.sa, (o 10 (by omega)).trans h.ol, (o 11 (by omega)).trans h.cu, fun o => (World.frozen?_setCell _ _ _ _).trans (h.fz o)⟩
theorem RelAt.put_slots {w : World} {b : Nat} {nm : ByteArray} {s : RelS} (h : RelAt w b nm s) (x : Value) : RelAt (w.setCell ⟨b, 5, none⟩ (x)) b nm { s with slots := x } := by
  have o : ∀ j, j ≠ 5 → (w.setCell ⟨b, 5, none⟩ (x)).cell? ⟨b, j, none⟩ = w.cell? ⟨b, j, none⟩ := fun j hj => World.cell?_setCell_other _ _ _ _ (by simp <;> omega)
  exact ⟨(o 0 (by omega)).trans h.nm, (o 1 (by omega)).trans h.ar, (o 2 (by omega)).trans h.sr, (o 3 (by omega)).trans h.da, (o 4 (by omega)).trans h.ro, World.cell?_setCell_same _ _ _ h.sl, (o 6 (by omega)).trans h.wy, (o 7 (by omega)).trans h.ix, (o 8 (by omega)).trans h.sp, (o 9 (by omega)).trans h.sa, (o 10 (by omega)).trans h.ol, (o 11 (by omega)).trans h.cu, fun o => (World.frozen?_setCell _ _ _ _).trans (h.fz o)⟩
theorem RelAt.put_why {w : World} {b : Nat} {nm : ByteArray} {s : RelS} (h : RelAt w b nm s) (x : Value) : RelAt (w.setCell ⟨b, 6, none⟩ (x)) b nm { s with why := x } := by
  have o : ∀ j, j ≠ 6 → (w.setCell ⟨b, 6, none⟩ (x)).cell? ⟨b, j, none⟩ = w.cell? ⟨b, j, none⟩ := fun j hj => World.cell?_setCell_other _ _ _ _ (by simp <;> omega)
  exact ⟨(o 0 (by omega)).trans h.nm, (o 1 (by omega)).trans h.ar, (o 2 (by omega)).trans h.sr, (o 3 (by omega)).trans h.da, (o 4 (by omega)).trans h.ro, (o 5 (by omega)).trans h.sl, World.cell?_setCell_same _ _ _ h.wy, (o 7 (by omega)).trans h.ix, (o 8 (by omega)).trans h.sp, (o 9 (by omega)).trans h.sa, (o 10 (by omega)).trans h.ol, (o 11 (by omega)).trans h.cu, fun o => (World.frozen?_setCell _ _ _ _).trans (h.fz o)⟩
theorem RelAt.put_spr {w : World} {b : Nat} {nm : ByteArray} {s : RelS} (h : RelAt w b nm s) (x : Value) : RelAt (w.setCell ⟨b, 8, none⟩ (x)) b nm { s with spr := x } := by
  have o : ∀ j, j ≠ 8 → (w.setCell ⟨b, 8, none⟩ (x)).cell? ⟨b, j, none⟩ = w.cell? ⟨b, j, none⟩ := fun j hj => World.cell?_setCell_other _ _ _ _ (by simp <;> omega)
  exact ⟨(o 0 (by omega)).trans h.nm, (o 1 (by omega)).trans h.ar, (o 2 (by omega)).trans h.sr, (o 3 (by omega)).trans h.da, (o 4 (by omega)).trans h.ro, (o 5 (by omega)).trans h.sl, (o 6 (by omega)).trans h.wy, (o 7 (by omega)).trans h.ix, World.cell?_setCell_same _ _ _ h.sp, (o 9 (by omega)).trans h.sa, (o 10 (by omega)).trans h.ol, (o 11 (by omega)).trans h.cu, fun o => (World.frozen?_setCell _ _ _ _).trans (h.fz o)⟩
theorem RelAt.put_sat {w : World} {b : Nat} {nm : ByteArray} {s : RelS} (h : RelAt w b nm s) (x : Int) : RelAt (w.setCell ⟨b, 9, none⟩ (.int .i64 x)) b nm { s with sat := x } := by
  have o : ∀ j, j ≠ 9 → (w.setCell ⟨b, 9, none⟩ (.int .i64 x)).cell? ⟨b, j, none⟩ = w.cell? ⟨b, j, none⟩ := fun j hj => World.cell?_setCell_other _ _ _ _ (by simp <;> omega)
  exact ⟨(o 0 (by omega)).trans h.nm, (o 1 (by omega)).trans h.ar, (o 2 (by omega)).trans h.sr, (o 3 (by omega)).trans h.da, (o 4 (by omega)).trans h.ro, (o 5 (by omega)).trans h.sl, (o 6 (by omega)).trans h.wy, (o 7 (by omega)).trans h.ix, (o 8 (by omega)).trans h.sp, World.cell?_setCell_same _ _ _ h.sa, (o 10 (by omega)).trans h.ol, (o 11 (by omega)).trans h.cu, fun o => (World.frozen?_setCell _ _ _ _).trans (h.fz o)⟩
theorem RelAt.put_old {w : World} {b : Nat} {nm : ByteArray} {s : RelS} (h : RelAt w b nm s) (x : Nat) : RelAt (w.setCell ⟨b, 10, none⟩ (.int .i64 (x : Int))) b nm { s with old := x } := by
  have o : ∀ j, j ≠ 10 → (w.setCell ⟨b, 10, none⟩ (.int .i64 (x : Int))).cell? ⟨b, j, none⟩ = w.cell? ⟨b, j, none⟩ := fun j hj => World.cell?_setCell_other _ _ _ _ (by simp <;> omega)
  exact ⟨(o 0 (by omega)).trans h.nm, (o 1 (by omega)).trans h.ar, (o 2 (by omega)).trans h.sr, (o 3 (by omega)).trans h.da, (o 4 (by omega)).trans h.ro, (o 5 (by omega)).trans h.sl, (o 6 (by omega)).trans h.wy, (o 7 (by omega)).trans h.ix, (o 8 (by omega)).trans h.sp, (o 9 (by omega)).trans h.sa, World.cell?_setCell_same _ _ _ h.ol, (o 11 (by omega)).trans h.cu, fun o => (World.frozen?_setCell _ _ _ _).trans (h.fz o)⟩
theorem RelAt.put_cur {w : World} {b : Nat} {nm : ByteArray} {s : RelS} (h : RelAt w b nm s) (x : Nat) : RelAt (w.setCell ⟨b, 11, none⟩ (.int .i64 (x : Int))) b nm { s with cur := x } := by
  have o : ∀ j, j ≠ 11 → (w.setCell ⟨b, 11, none⟩ (.int .i64 (x : Int))).cell? ⟨b, j, none⟩ = w.cell? ⟨b, j, none⟩ := fun j hj => World.cell?_setCell_other _ _ _ _ (by simp <;> omega)
  exact ⟨(o 0 (by omega)).trans h.nm, (o 1 (by omega)).trans h.ar, (o 2 (by omega)).trans h.sr, (o 3 (by omega)).trans h.da, (o 4 (by omega)).trans h.ro, (o 5 (by omega)).trans h.sl, (o 6 (by omega)).trans h.wy, (o 7 (by omega)).trans h.ix, (o 8 (by omega)).trans h.sp, (o 9 (by omega)).trans h.sa, (o 10 (by omega)).trans h.ol, World.cell?_setCell_same _ _ _ h.cu, fun o => (World.frozen?_setCell _ _ _ _).trans (h.fz o)⟩
end Go.Proofs.Qxb6500880a
