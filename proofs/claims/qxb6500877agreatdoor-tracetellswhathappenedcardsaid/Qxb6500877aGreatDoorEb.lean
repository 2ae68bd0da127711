import Derived.DeepKeys
import Derived.Test.Qxb6500877aGreatDoorEa
set_option linter.unusedVariables false
set_option linter.unusedSimpArgs false
namespace Go.Proofs.Qxb6500877aGreatDoor
open Go.RowKit

structure F5 (w : World) (b o : Nat) (e : FiredS) : Prop where
  c0 : w.cell? ⟨b, o, none⟩ = some (.int .u64 e.id)
  c1 : w.cell? ⟨b, o + 1, none⟩ = some (.int .i64 e.core)
  c2 : w.cell? ⟨b, o + 2, none⟩ = some (.int .u64 e.dl)
  c3 : w.cell? ⟨b, o + 3, none⟩ = some (.int .u64 e.ck)
  c4 : w.cell? ⟨b, o + 4, none⟩ = some (.int .u64 e.t)
theorem F5.blk {w w' : World} {b o : Nat} {e : FiredS} (h : F5 w b o e) (q : w'.heap[b]? = w.heap[b]?) : F5 w' b o e :=
  ⟨(World.cell?_of_block (a := ⟨b, o, none⟩) q).trans h.c0, (World.cell?_of_block (a := ⟨b, o + 1, none⟩) q).trans h.c1, (World.cell?_of_block (a := ⟨b, o + 2, none⟩) q).trans h.c2, (World.cell?_of_block (a := ⟨b, o + 3, none⟩) q).trans h.c3, (World.cell?_of_block (a := ⟨b, o + 4, none⟩) q).trans h.c4⟩
theorem f5_new (w : World) (e : FiredS) (t : TypeId) : F5 (w.alloc (.cells #[.int .u64 e.id, .int .i64 e.core, .int .u64 e.dl, .int .u64 e.ck, .int .u64 e.t] t)) w.heap.size 0 e := by
  refine ⟨?_, ?_, ?_, ?_, ?_⟩ <;> simp
def f5c (e : FiredS) : List Value := [.int .u64 e.id, .int .i64 e.core, .int .u64 e.dl, .int .u64 e.ck, .int .u64 e.t]
theorem firedCells_get : ∀ (l : List FiredS) (j q : Nat), q < 5 → (firedCells l)[j * 5 + q]? = (l[j]?).bind (fun m => (f5c m)[q]?)
  | [], j, q, _ => by simp [firedCells]
  | m :: l, 0, q, hq => by
    have : q = 0 ∨ q = 1 ∨ q = 2 ∨ q = 3 ∨ q = 4 := by omega
    rcases this with rfl | rfl | rfl | rfl | rfl <;> rfl
  | m :: l, j + 1, q, hq => by
    have h := firedCells_get l j q hq
    have e : firedCells (m :: l) = f5c m ++ firedCells l := by simp [firedCells, f5c]
    have e9 : (f5c m).length = 5 := rfl
    rw [e, List.getElem?_append_right (by rw [e9]; omega), e9, show (j + 1) * 5 + q - 5 = j * 5 + q by omega, h]
    rfl
theorem addr_add0 (g n : Nat) : (⟨g, 0, none⟩ : Addr).add n = ⟨g, n, none⟩ := by
  cases n with
  | zero => rfl
  | succ n => simp [Addr.add]
/-- The timers that went off lie in block g. -/
def FA (w : World) (g : Nat) (l : List FiredS) : Prop := ∀ j e, l[j]? = some e → F5 w g (j * 5) e
theorem FA.blk {w w' : World} {g : Nat} {l : List FiredS} (h : FA w g l) (q : w'.heap[g]? = w.heap[g]?) : FA w' g l := fun j e hj => (h j e hj).blk q
/-- Fired timers listed in memory. -/
def FrAt (w : World) (base : Nat) (v : Value) (l : List FiredS) : Prop :=
  (l = [] ∧ v = .slice none 0 0) ∨ ∃ g cap, v = .slice (some ⟨g, 0, none⟩) l.length cap ∧ base ≤ g ∧ g < w.heap.size ∧ FA w g l
theorem FrAt.shape {w : World} {base : Nat} {v : Value} {l : List FiredS} (h : FrAt w base v l) : ∃ p cap, v = .slice p l.length cap := by
  rcases h with ⟨rfl, rfl⟩ | ⟨g, cap, rfl, _⟩
  · exact ⟨none, 0, rfl⟩
  · exact ⟨_, cap, rfl⟩
theorem FrAt.keep {w w' : World} {base : Nat} {v : Value} {l : List FiredS} (h : FrAt w base v l) (hs : w.heap.size ≤ w'.heap.size) (hk : ∀ k, base ≤ k → k < w.heap.size → w'.heap[k]? = w.heap[k]?) : FrAt w' base v l := by
  rcases h with h | ⟨g, cap, h1, h2, h3, h4⟩
  · exact .inl h
  · exact .inr ⟨g, cap, h1, h2, by omega, h4.blk (hk g h2 h3)⟩
theorem FrAt.below {w w' : World} {base : Nat} {v : Value} {l : List FiredS} (h : FrAt w base v l) (hb : Below w.heap.size w w') : FrAt w' base v l := h.keep hb.size (fun k _ hk => hb.block k hk)
theorem fr_of {w : World} {base : Nat} {v : Value} {l : List FiredS} (h : FiredAt w base v l) : FrAt w base v l := by
  rcases h.2 with ⟨e1, e2⟩ | ⟨g, cap, cur, e, hb, hh, _⟩
  · exact .inl ⟨List.length_eq_zero_iff.1 e2, e1⟩
  · subst e
    refine .inr ⟨g, cap, rfl, hb, (World.ownsRow.lt h g rfl).2, fun j x hj => ?_⟩
    have key : ∀ q u, q < 5 → (f5c x)[q]? = some u → w.cell? ⟨g, j * 5 + q, none⟩ = some u := fun q u hq hu => by
      have := World.ownsRow.cells h (g := g) rfl (j * 5 + q) u (by rw [firedCells_get _ _ _ hq, hj]; exact hu)
      rw [addr_add0] at this
      exact this
    exact ⟨key 0 _ (by omega) rfl, key 1 _ (by omega) rfl, key 2 _ (by omega) rfl, key 3 _ (by omega) rfl, key 4 _ (by omega) rfl⟩
theorem fr_same (e : FiredS) (w : World) : (Op.equalIn 10000 86 (.agg #[.int .u64 e.id, .int .i64 e.core, .int .u64 e.dl, .int .u64 e.ck, .int .u64 e.t]) (.agg #[.int .u64 e.id, .int .i64 e.core, .int .u64 e.dl, .int .u64 e.ck, .int .u64 e.t])).run Tryz.prog w = .ok true w := by
  have hS : Tryz.prog.underlying 86 = some (.struct (Tryz.prog.fieldsOf 86)) := by kernel_rfl
  have hp : Tryz.prog.stoodInHeld 86 = false := by kernel_rfl
  have hS4 : Tryz.prog.underlying 84 = some (.struct (Tryz.prog.fieldsOf 84)) := by kernel_rfl
  have hp4 : Tryz.prog.stoodInHeld 84 = false := by kernel_rfl
  have hq : (Op.equalIn 9999 84 (.agg #[.int .u64 e.id, .int .i64 e.core, .int .u64 e.dl, .int .u64 e.ck]) (.agg #[.int .u64 e.id, .int .i64 e.core, .int .u64 e.dl, .int .u64 e.ck])).run Tryz.prog w = .ok true w := by
    rw [show (9999 : Nat) = 9998 + 1 from rfl, run_equalIn_agg w 9998 84 _ _ hS4 hp4]
    simp only [Program.fieldsOf, Tryz.underlying84]
    clear hS hp hS4 hp4
    go_simp
  rw [show (10000 : Nat) = 9999 + 1 from rfl, run_equalIn_agg w 9999 86 _ _ hS hp]
  simp only [Program.fieldsOf, Tryz.underlying86]
  clear hS hp hS4 hp4
  go_simp
theorem fr_neq (e : FiredS) (w : World) : (binOp .neq 86 (.agg #[.int .u64 e.id, .int .i64 e.core, .int .u64 e.dl, .int .u64 e.ck, .int .u64 e.t]) (.agg #[.int .u64 e.id, .int .i64 e.core, .int .u64 e.dl, .int .u64 e.ck, .int .u64 e.t])).run Tryz.prog w = .ok (.bool false) w := by
  have h := fr_same e w
  rw [run_neq_struct, h]
  rfl
theorem guard86 : Tryz.prog.eqGuardType Tryz.prog.depth 86 = false := by kernel_rfl
set_option maxHeartbeats 4000000 in
theorem eq_fired {w : World} {base base' : Nat} {v v' : Value} {l : List FiredS} (H1 : FrAt w base v l) (H2 : FrAt w base' v' l) (hbig : l.length ≤ 1000000) :
    Calls Tryz.prog 49 #[v, v'] w fun e w' => e = .returned (.bool true) ∧ Below w.heap.size w w' := by
  by_cases hl : l = []
  · obtain ⟨p1, k1, e1⟩ := H1.shape
    obtain ⟨p2, k2, e2⟩ := H2.shape
    rw [e1, e2, hl]
    simp only [List.length_nil]
    clear H1 H2 e1 e2 hl hbig
    go_enter Tryz.func49, Tryz.ntmps49
    go_wp2_with fail
    go_loopg [13] 0 (fun g v wr => v = .int .i64 0 ∧ wr = w)
    case atStart => exact ⟨rfl, rfl⟩
    case round =>
      obtain ⟨rfl, rfl⟩ := hrel
      go_wp2
      go_ret
      exact ⟨rfl, Below.refl _ _⟩
  · obtain ⟨g1, k1, rfl, _, h1, H1⟩ : ∃ g cap, v = .slice (some ⟨g, 0, none⟩) l.length cap ∧ base ≤ g ∧ g < w.heap.size ∧ FA w g l := by
      rcases H1 with ⟨h, _⟩ | h
      · exact absurd h hl
      · exact h
    obtain ⟨g2, k2, rfl, _, h2, H2⟩ : ∃ g cap, v' = .slice (some ⟨g, 0, none⟩) l.length cap ∧ base' ≤ g ∧ g < w.heap.size ∧ FA w g l := by
      rcases H2 with ⟨h, _⟩ | h
      · exact absurd h hl
      · exact h
    obtain ⟨n, HN⟩ : ∃ n, Hid (l.length = n) := ⟨_, hideIt rfl⟩
    rw [HN.out] at hbig ⊢
    have HH1 := hideIt H1
    have HH2 := hideIt H2
    clear H1 H2 hl
    go_enter Tryz.func49, Tryz.ntmps49
    go_wp2_with fail
    go_loopg [13] n (fun g v wr => ∃ i : Nat, i + g = n ∧ v = .int .i64 (i : Int) ∧ Below w.heap.size w wr)
    case atStart => exact ⟨0, by omega, rfl, Below.refl _ _⟩
    case round =>
      obtain ⟨i, hi, rfl, hbr⟩ := hrel
      by_cases hin : i < n
      · have i0 : (0 : Int) ≤ i := by omega
        have i1 : (i : Int) < (n : Int) := by omega
        obtain ⟨m, hm⟩ : ∃ m, l[i]? = some m := ⟨l[i]'(by have := HN.out; omega), List.getElem?_eq_getElem (by have := HN.out; omega)⟩
        obtain ⟨a0, a1, a2, a3, a4⟩ := (HH1.out i m hm).blk (hbr.block g1 h1)
        obtain ⟨b0, b1, b2, b3, b4⟩ := (HH2.out i m hm).blk (hbr.block g2 h2)
        have hnq := fr_neq m
        have hgd := guard86
        clear hm
        go_wp2_with fail
        go_quiet (fail)
        go_wp2
        go_roundg (n - (i + 1))
        case measure => omega
        case rel => exact ⟨i + 1, by omega, by go_num, below_drewN hbr _⟩
      · have e : i = n := by omega
        subst e
        go_wp2
        go_ret
        exact ⟨rfl, hbr⟩
end Go.Proofs.Qxb6500877aGreatDoor
