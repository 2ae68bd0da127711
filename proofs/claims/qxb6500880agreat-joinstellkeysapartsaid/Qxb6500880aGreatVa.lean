import Derived.Deep.CutBlock
import Derived.OwnWalk
import Derived.Maps.AppendAt
import Derived.Maps.OwnSet
import Derived.Maps.OwnOps
import Derived.Laws.ResultCell
import Derived.Test.Qxb6500880aGreatU
set_option linter.unusedVariables false
set_option linter.unusedSimpArgs false
namespace Go.Proofs.Qxb6500880aGreat
open Go.RowKit

/-- n integer constants in memory. -/
def IntsAt (w : World) (v : Value) (n : Nat) (f : Nat → Nat) : Prop := ∃ p c, v = .slice p n c ∧ n ≤ c ∧ (n = 0 ∨ ∃ g, p = some ⟨g, 0, none⟩ ∧ ∀ j, j < n → w.cell? ⟨g, j * 4, none⟩ = some (.int .u8 1) ∧ w.cell? ⟨g, j * 4 + 1, none⟩ = some (.int .i64 0) ∧ w.cell? ⟨g, j * 4 + 2, none⟩ = some (.int .i64 (f j : Int)) ∧ w.cell? ⟨g, j * 4 + 3, none⟩ = some (.string ByteArray.empty))
theorem IntsAt.below {w w' : World} {v : Value} {n : Nat} {f : Nat → Nat} (h : IntsAt w v n f) {k : Nat} (hb : Below k w w') (hk : w.heap.size ≤ k) : IntsAt w' v n f := by
  obtain ⟨p, c, e, hc, h⟩ := h
  refine ⟨p, c, e, hc, ?_⟩
  rcases h with h | ⟨g, e, h⟩
  · exact .inl h
  · refine .inr ⟨g, e, fun j hj => ?_⟩
    obtain ⟨a, b, d, f⟩ := h j hj
    have hl : g < w.heap.size := World.block_lt_of_cell? _ _ a
    have eb := hb.block g (by omega)
    exact ⟨(World.cell?_of_block (a := ⟨g, j * 4, none⟩) eb).trans a, (World.cell?_of_block (a := ⟨g, j * 4 + 1, none⟩) eb).trans b, (World.cell?_of_block (a := ⟨g, j * 4 + 2, none⟩) eb).trans d, (World.cell?_of_block (a := ⟨g, j * 4 + 3, none⟩) eb).trans f⟩
/-- The database: nF facts; fact i names relation fk i and has the constants fv i. -/
structure DbAt (w : World) (gd nF : Nat) (fk : Nat → Fin 4) (nn : Nat → Nat) (fv : Nat → Nat → Nat) (av : Nat → Value) : Prop where
  c : ∀ i, i < nF → w.cell? ⟨gd, i * 2, none⟩ = some (.string (nmS (fk i))) ∧ w.cell? ⟨gd, i * 2 + 1, none⟩ = some (av i) ∧ IntsAt w (av i) (nn i) (fv i)
theorem DbAt.below {w w' : World} {gd nF : Nat} {fk : Nat → Fin 4} {nn : Nat → Nat} {fv : Nat → Nat → Nat} {av : Nat → Value} (h : DbAt w gd nF fk nn fv av) {k : Nat} (hb : Below k w w') (hk : w.heap.size ≤ k) : DbAt w' gd nF fk nn fv av := ⟨fun i hi => by
  obtain ⟨a, b, c⟩ := h.c i hi
  have hl : gd < w.heap.size := World.block_lt_of_cell? _ _ a
  have eb := hb.block gd (by omega)
  exact ⟨(World.cell?_of_block (a := ⟨gd, i * 2, none⟩) eb).trans a, (World.cell?_of_block (a := ⟨gd, i * 2 + 1, none⟩) eb).trans b, c.below hb hk⟩⟩
/-- What is asked of the facts. -/
structure DbOk (nF : Nat) (fk : Nat → Fin 4) (nn : Nat → Nat) (fv : Nat → Nat → Nat) (ar : Nat → Nat) : Prop where
  lo : 64 ≤ nF
  hi : nF ≤ 100
  n0 : ∀ i, i < 64 → fk i = kf 3 ∧ fv i 0 = i
  na : ∀ i, i < nF → nn i = ar (fk i).val
  v : ∀ i t, i < nF → t < nn i → fv i t < 64
  a0 : ∀ j, j < 4 → 0 < ar j
  a1 : ∀ j, j < 4 → ar j ≤ 32
  a3 : ar 3 = 1
/-- No block belongs to two of the n sets. -/
def Disj (FP : Nat → Nat → Prop) (n : Nat) : Prop := ∀ i j q, i < n → j < n → FP i q → FP j q → i = j
theorem Disj.upd {FP FP' : Nat → Nat → Prop} {n i sz : Nat} (h : Disj FP n) (hlt : ∀ k q, k < n → FP k q → q < sz) (hi : ∀ q, FP' i q → FP i q ∨ sz ≤ q) (ho : ∀ k, k ≠ i → ∀ q, FP' k q → FP k q) : Disj FP' n := by
  intro a b q ha hb h1 h2
  by_cases ea : a = i <;> by_cases eb : b = i
  · omega
  · subst ea
    have z := ho b eb q h2
    rcases hi q h1 with y | y
    · exact h a b q ha hb y z
    · have := hlt b q hb z; omega
  · subst eb
    have z := ho a ea q h1
    rcases hi q h2 with y | y
    · exact h a b q ha hb z y
    · have := hlt a q ha z; omega
  · exact h a b q ha hb (ho a ea q h1) (ho b eb q h2)
/-- What changes while the facts are loaded. -/
structure FX where
  vals : Value
  k : Nat
  row : Value
  rn : Nat
  rx : List Value
  s : Nat → RelS
  d : Nat → Nat → Nat
  N : Nat → Nat
  f : Nat → Nat → Nat
  nt : Nat
def fpF (E nb CB SB mi : Nat) (rb : Nat → Nat) (c : Nat → Value) (x : FX) : Nat → Nat → Prop
  | 0 => fun q => q = E
  | 1 => fun q => q = nb
  | 2 => fun q => q = CB
  | 3 => fpS SB mi x.vals
  | 4 => fun q => x.row.ownBlock = some q
  | 5 => fun q => (c 5).ownBlock = some q
  | k + 6 => fpR (rb k) (x.s k)
structure FAt (w : World) (E nb CB SB mi : Nat) (rb ar : Nat → Nat) (c : Nat → Value) (x : FX) : Prop where
  e : EngAt w E (updV c 16 (.int .i64 (x.nt : Int)))
  m : MapN w nb 4 (fnK rb 4)
  cb : w.cell? ⟨CB, 0, none⟩ = some (.pointer (some ⟨E, 0, none⟩))
  sy : SymsAt w SB mi x.vals x.k
  ro : w.ownsRow 0 109 1 x.row x.rn x.rx
  rl : w.ownsRow 0 99 1 (c 5) 4 (ptrL rb 4)
  re : ∀ j, j < 4 → RelO w (rb j) (nmS (kf j)) (x.s j) (x.d j) (x.N j) (x.f j)
  A : ∀ j, j < 4 → (x.s j).A = ar j
  dj : Disj (fpF E nb CB SB mi rb c x) 10
theorem FAt.flt {w : World} {E nb CB SB mi : Nat} {rb ar : Nat → Nat} {c : Nat → Value} {x : FX} (h : FAt w E nb CB SB mi rb ar c x) : ∀ k q, k < 10 → fpF E nb CB SB mi rb c x k q → q < w.heap.size
  | 0, q, _, hq => by have e : q = E := hq; rw [e]; exact h.e.lt
  | 1, q, _, hq => by have e : q = nb := hq; rw [e]; exact h.m.lt
  | 2, q, _, hq => by have e : q = CB := hq; rw [e]; exact World.block_lt_of_cell? _ _ h.cb
  | 3, q, _, hq => h.sy.fp_lt hq
  | 4, q, _, hq => (h.ro.lt q hq).2
  | 5, q, _, hq => (h.rl.lt q hq).2
  | k + 6, q, hk, hq => (h.re k (by omega)).fp_lt hq
/-- One member is written, the others stay. -/
theorem FAt.keep_but {w w' : World} {E nb CB SB mi : Nat} {rb ar : Nat → Nat} {c : Nat → Value} {x : FX} (h : FAt w E nb CB SB mi rb ar c x) {S : Nat → Prop} (W : Ws S w w') (i : Nat) (hi : i < 10) (hS : ∀ q, q < w.heap.size → S q → fpF E nb CB SB mi rb c x i q) :
    ∀ k q, k < 10 → k ≠ i → fpF E nb CB SB mi rb c x k q → w'.heap[q]? = w.heap[q]? := fun k q hk hki hq => W.block q (h.flt k q hk hq) (fun z => hki (h.dj k i q hk hi hq (hS q (h.flt k q hk hq) z)))
theorem FAt.below {w w' : World} {E nb CB SB mi : Nat} {rb ar : Nat → Nat} {c : Nat → Value} {x : FX} (h : FAt w E nb CB SB mi rb ar c x) (hb : Below w.heap.size w w') : FAt w' E nb CB SB mi rb ar c x :=
  ⟨h.e.below hb, h.m.below hb, cell_later hb h.cb, h.sy.below hb, own_keep h.ro (fun q _ hl => hb.block q hl), own_keep h.rl (fun q _ hl => hb.block q hl), fun j hj => (h.re j hj).below hb, h.A, h.dj⟩
/-- Behind 'intern'. -/
theorem FAt.sym {w w' : World} {E nb CB SB mi : Nat} {rb ar : Nat → Nat} {c : Nat → Value} {x : FX} (h : FAt w E nb CB SB mi rb ar c x) {vals : Value} {k : Nat} (HS : SymsAt w' SB mi vals k) (hv : ∀ q, vals.ownBlock = some q → x.vals.ownBlock = some q ∨ w.heap.size ≤ q) (W : Ws (fpS SB mi x.vals) w w') : FAt w' E nb CB SB mi rb ar c { x with vals := vals, k := k } := by
  have kp := h.keep_but W 3 (by omega) (fun q _ hq => hq)
  refine ⟨h.e.blk (kp 0 E (by omega) (by omega) rfl), h.m.blk (kp 1 nb (by omega) (by omega) rfl), (World.cell?_of_block (a := ⟨CB, 0, none⟩) (kp 2 CB (by omega) (by omega) rfl)).trans h.cb, HS, own_keep h.ro (fun q hq _ => kp 4 q (by omega) (by omega) hq), own_keep h.rl (fun q hq _ => kp 5 q (by omega) (by omega) hq), fun j hj => (h.re j hj).keep (fun q hq _ => kp (j + 6) q (by omega) (by omega) hq), h.A, ?_⟩
  refine h.dj.upd (i := 3) h.flt (fun q hq => ?_) (fun k hk q hq => ?_)
  · rcases hq with z | z | z
    · exact .inl (.inl z)
    · exact .inl (.inr (.inl z))
    · rcases hv q z with y | y
      · exact .inl (.inr (.inr y))
      · exact .inr y
  · match k, hk, hq with
    | 0, _, hq => exact hq
    | 1, _, hq => exact hq
    | 2, _, hq => exact hq
    | 3, hk, _ => exact absurd rfl hk
    | 4, _, hq => exact hq
    | 5, _, hq => exact hq
    | k + 6, _, hq => exact hq
/-- Behind a write to the row in hand. -/
theorem FAt.rowp {w w' : World} {E nb CB SB mi : Nat} {rb ar : Nat → Nat} {c : Nat → Value} {x : FX} (h : FAt w E nb CB SB mi rb ar c x) {row : Value} {rn : Nat} {rx : List Value} (HO : w'.ownsRow 0 109 1 row rn rx) (hv : ∀ q, row.ownBlock = some q → x.row.ownBlock = some q ∨ w.heap.size ≤ q) (W : Ws (fun q => x.row.ownBlock = some q) w w') : FAt w' E nb CB SB mi rb ar c { x with row := row, rn := rn, rx := rx } := by
  have kp := h.keep_but W 4 (by omega) (fun q _ hq => hq)
  refine ⟨h.e.blk (kp 0 E (by omega) (by omega) rfl), h.m.blk (kp 1 nb (by omega) (by omega) rfl), (World.cell?_of_block (a := ⟨CB, 0, none⟩) (kp 2 CB (by omega) (by omega) rfl)).trans h.cb, h.sy.keep (fun q hq _ => kp 3 q (by omega) (by omega) hq), HO, own_keep h.rl (fun q hq _ => kp 5 q (by omega) (by omega) hq), fun j hj => (h.re j hj).keep (fun q hq _ => kp (j + 6) q (by omega) (by omega) hq), h.A, ?_⟩
  refine h.dj.upd (i := 4) h.flt (fun q hq => hv q hq) (fun k hk q hq => ?_)
  match k, hk, hq with
  | 0, _, hq => exact hq
  | 1, _, hq => exact hq
  | 2, _, hq => exact hq
  | 3, _, hq => exact hq
  | 4, hk, _ => exact absurd rfl hk
  | 5, _, hq => exact hq
  | k + 6, _, hq => exact hq
def updS (s : Nat → RelS) (i : Nat) (x : RelS) : Nat → RelS := fun j => if j = i then x else s j
theorem updS_same (s : Nat → RelS) (i : Nat) (x : RelS) : updS s i x i = x := if_pos rfl
theorem updS_other (s : Nat → RelS) {i j : Nat} (x : RelS) (h : j ≠ i) : updS s i x j = s j := if_neg h
def updD (d : Nat → Nat → Nat) (i : Nat) (x : Nat → Nat) : Nat → Nat → Nat := fun j => if j = i then x else d j
theorem updD_same (d : Nat → Nat → Nat) (i : Nat) (x : Nat → Nat) : updD d i x i = x := if_pos rfl
theorem updD_other (d : Nat → Nat → Nat) {i j : Nat} (x : Nat → Nat) (h : j ≠ i) : updD d i x j = d j := if_neg h
/-- Behind 'insert' into relation j. -/
theorem FAt.ins {w w' : World} {E nb CB SB mi : Nat} {rb ar : Nat → Nat} {c : Nat → Value} {x : FX} (h : FAt w E nb CB SB mi rb ar c x) {j : Nat} (hj : j < 4) {s' : RelS} {d' f' : Nat → Nat} {N' : Nat} (R : RelO w' (rb j) (nmS (kf j)) s' d' N' f') (hA : s'.A = (x.s j).A) (hv : ∀ q, fpR (rb j) s' q → fpR (rb j) (x.s j) q ∨ w.heap.size ≤ q) (W : Ws (fpR (rb j) (x.s j)) w w') : FAt w' E nb CB SB mi rb ar c { x with s := updS x.s j s', d := updD x.d j d', N := updN x.N j N', f := updD x.f j f' } := by
  have kp := h.keep_but W (j + 6) (by omega) (fun q _ hq => hq)
  refine ⟨h.e.blk (kp 0 E (by omega) (by omega) rfl), h.m.blk (kp 1 nb (by omega) (by omega) rfl), (World.cell?_of_block (a := ⟨CB, 0, none⟩) (kp 2 CB (by omega) (by omega) rfl)).trans h.cb, h.sy.keep (fun q hq _ => kp 3 q (by omega) (by omega) hq), own_keep h.ro (fun q hq _ => kp 4 q (by omega) (by omega) hq), own_keep h.rl (fun q hq _ => kp 5 q (by omega) (by omega) hq), fun i hi => ?_, fun i hi => ?_, ?_⟩
  · by_cases e : i = j
    · subst e
      show RelO w' (rb i) _ (updS x.s i s' i) (updD x.d i d' i) (updN x.N i N' i) (updD x.f i f' i)
      rw [updS_same, updD_same, updN_same, updD_same]
      exact R
    · show RelO w' (rb i) _ (updS x.s j s' i) (updD x.d j d' i) (updN x.N j N' i) (updD x.f j f' i)
      rw [updS_other _ _ e, updD_other _ _ e, updN_other _ _ e, updD_other _ _ e]
      exact (h.re i hi).keep (fun q hq _ => kp (i + 6) q (by omega) (by omega) hq)
  · by_cases e : i = j
    · subst e
      show (updS x.s i s' i).A = _
      rw [updS_same, hA]
      exact h.A i hi
    · show (updS x.s j s' i).A = _
      rw [updS_other _ _ e]
      exact h.A i hi
  · refine h.dj.upd (i := j + 6) h.flt (fun q hq => ?_) (fun k hk q hq => ?_)
    · have hq : fpR (rb j) (updS x.s j s' j) q := hq
      rw [updS_same] at hq
      exact hv q hq
    · match k, hk, hq with
      | 0, _, hq => exact hq
      | 1, _, hq => exact hq
      | 2, _, hq => exact hq
      | 3, _, hq => exact hq
      | 4, _, hq => exact hq
      | 5, _, hq => exact hq
      | k + 6, hk, hq =>
        have hq : fpR (rb k) (updS x.s j s' k) q := hq
        rw [updS_other _ _ (by omega)] at hq
        exact hq
theorem updV_twice (c : Nat → Value) (k : Nat) (a b : Value) : updV (updV c k a) k b = updV c k b := by
  funext j
  unfold updV
  split <;> rfl
/-- Behind the count of a tuple. -/
theorem FAt.tup {w : World} {E nb CB SB mi : Nat} {rb ar : Nat → Nat} {c : Nat → Value} {x : FX} (h : FAt w E nb CB SB mi rb ar c x) (n : Nat) : FAt (w.setCell ⟨E, 16, none⟩ (.int .i64 (n : Int))) E nb CB SB mi rb ar c { x with nt := n } := by
  have W : Ws (fun q => q = E) w (w.setCell ⟨E, 16, none⟩ (.int .i64 (n : Int))) := (Ws.refl _ w).set (.inl rfl)
  have kp := h.keep_but W 0 (by omega) (fun q _ hq => hq)
  have he := h.e.put (k := 16) (by omega) (.int .i64 (n : Int))
  rw [updV_twice] at he
  refine ⟨he, h.m.blk (kp 1 nb (by omega) (by omega) rfl), (World.cell?_of_block (a := ⟨CB, 0, none⟩) (kp 2 CB (by omega) (by omega) rfl)).trans h.cb, h.sy.keep (fun q hq _ => kp 3 q (by omega) (by omega) hq), own_keep h.ro (fun q hq _ => kp 4 q (by omega) (by omega) hq), own_keep h.rl (fun q hq _ => kp 5 q (by omega) (by omega) hq), fun i hi => (h.re i hi).keep (fun q hq _ => kp (i + 6) q (by omega) (by omega) hq), h.A, ?_⟩
  refine h.dj.upd (i := 0) h.flt (fun q hq => .inl hq) (fun k hk q hq => ?_)
  match k, hk, hq with
  | 0, hk, _ => exact absurd rfl hk
  | 1, _, hq => exact hq
  | 2, _, hq => exact hq
  | 3, _, hq => exact hq
  | 4, _, hq => exact hq
  | 5, _, hq => exact hq
  | k + 6, _, hq => exact hq
/-- Is row r there? -/
def hasR (d : Nat → Nat) (A rows : Nat) (r : Nat → Nat) : Prop := ∃ i, i < rows ∧ sameR d A r i
theorem InsOut.has {s s' : RelS} {d d' r : Nat → Nat} {b : Bool} (h : InsOut s s' d d' r b) (r' : Nat → Nat) : hasR d' s.A s'.rows r' ↔ hasR d s.A s.rows r' ∨ ∀ c, c < s.A → r c = r' c := by
  rcases b with _ | _
  · obtain ⟨h1, h2, j, hj, hs⟩ := h.f rfl
    rw [h1, h2]
    refine ⟨.inl, fun z => z.elim id (fun e => ⟨j, hj, fun c hc => by rw [hs c hc, e c hc]⟩)⟩
  · obtain ⟨h1, h2, hn⟩ := h.t rfl
    rw [h1, h2]
    constructor
    · rintro ⟨i, hi, hs⟩
      by_cases q : i < s.rows
      · exact .inl ⟨i, q, (sameR_cat q).1 hs⟩
      · have e : i = s.rows := by omega
        subst e
        exact .inr (sameR_new.1 hs)
    · rintro (⟨i, hi, hs⟩ | e)
      · exact ⟨i, by omega, (sameR_cat hi).2 hs⟩
      · exact ⟨s.rows, by omega, sameR_new.2 e⟩
theorem InsOut.rows {s s' : RelS} {d d' r : Nat → Nat} {b : Bool} (h : InsOut s s' d d' r b) : s'.rows ≤ s.rows + 1 := by
  rcases b with _ | _
  · have := (h.f rfl).1; omega
  · have := (h.t rfl).1; omega
theorem own_cut {w : World} {base e s n : Nat} {v : Value} {xs : List Value} (h : w.ownsRow base e s v n xs) : ∃ p c, v = .slice p n c ∧ w.ownsRow base e s (.slice p 0 c) 0 [] ∧ (p = none → c = 0) := by
  rcases h.2 with ⟨e1, e2⟩ | ⟨g, cap, cur, e1, h1, h2, h3, h4, h5, h6⟩
  · exact ⟨none, 0, by rw [e1, e2], ⟨by simp, .inl ⟨rfl, rfl⟩⟩, fun _ => rfl⟩
  · exact ⟨_, cap, e1, ⟨by simp, .inr ⟨g, cap, cur, rfl, h1, h2, Nat.zero_le _, h4, h5, by simp⟩⟩, fun h => by cases h⟩
theorem slice0 {n c : Nat} {p : Option Addr} (w' : World) : (Instr.slice 83 (.slice p n c) none (some (.int .i64 0)) none).run Tryz.prog w' = .ok (.slice p 0 c) w' := by
  have hu : Tryz.prog.underlying 83 = some (.slice (Tryz.prog.elem 83)) := by kernel_rfl
  have hsz : (sizeOf (Tryz.prog.elem 83)).run Tryz.prog w' = .ok 1 w' := by kernel_rfl
  rw [run_slice_h w' 83 p n c hu .i64 0 (by omega) (by omega), hsz]
  have e : p.map (fun x => x.add (0 * 1)) = p := by
    cases p with
    | none => rfl
    | some a => simp [Addr.add]
  simp only [Result.andThen, sliced, e]
  simp
end Go.Proofs.Qxb6500880aGreat
