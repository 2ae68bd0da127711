import Derived.Deep.CutBlock
import Derived.OwnWalk
import Derived.Maps.AppendAt
import Derived.Maps.OwnSet
import Derived.Maps.OwnOps
import Derived.Laws.ResultCell
import Derived.Test.Qxb6500880aGreatVb
set_option linter.unusedVariables false
set_option linter.unusedSimpArgs false
namespace Go.Proofs.Qxb6500880aGreat
open Go.RowKit

theorem P2.zfree {w w1 wr : World} {E nb CB SB mi : Nat} {rb rb' ar : Nat → Nat} {c c' : Nat → Value} {fk : Nat → Fin 4} {fv : Nat → Nat → Nat} {i kk : Nat} {x : FX} (h : P2 w w1 wr E nb CB SB mi rb rb' ar c c' fk fv i kk x) {base : Nat} (O : Olds w E nb CB SB mi base rb c) : ∀ k, 3 ≤ k → k < 10 → ¬ fpF E nb CB SB mi rb' c' x k w.heap.size := fun k h1 h2 hq => by
  rcases h.fr k _ h1 h2 hq with z | z
  · have := (O.s0 (q := w.heap.size) (by
      rcases z with z | z | z | z
      · exact .inr (.inr (.inl z))
      · exact .inr (.inr (.inr (.inl z)))
      · exact .inr (.inr (.inr (.inr (.inl z))))
      · exact .inr (.inr (.inr (.inr (.inr z)))))).1
    omega
  · omega
theorem P2.frame {w w1 wr : World} {E nb CB SB mi : Nat} {rb rb' ar : Nat → Nat} {c c' : Nat → Value} {fk : Nat → Fin 4} {fv : Nat → Nat → Nat} {i kk : Nat} {x : FX} (h : P2 w w1 wr E nb CB SB mi rb rb' ar c c' fk fv i kk x) {base : Nat} (O : Olds w E nb CB SB mi base rb c) (hw : w.heap.size < wr.heap.size) {wx : World} {x' : FX} (n : Nat) (n0 : 3 ≤ n) (n1 : n < 10) (W' : Ws (fpF E nb CB SB mi rb' c' x n) wr wx) (hn : ∀ q, fpF E nb CB SB mi rb' c' x' n q → fpF E nb CB SB mi rb' c' x n q ∨ wr.heap.size ≤ q) (ho : ∀ k, k ≠ n → ∀ q, fpF E nb CB SB mi rb' c' x' k q → fpF E nb CB SB mi rb' c' x k q) :
    Ws (S0 E nb SB mi rb c) w wx ∧ wx.heap[w.heap.size]? = w1.heap[w.heap.size]? ∧ ∀ k q, 3 ≤ k → k < 10 → fpF E nb CB SB mi rb' c' x' k q → (q = SB ∨ q = mi ∨ (c 5).ownBlock = some q ∨ ∃ j, j < 3 ∧ q = rb j) ∨ w.heap.size < q := by
  refine ⟨h.W.then W' (fun q hq => ?_), (W'.block _ hw (h.zfree O n n0 n1)).trans h.z, fun k q k0 k1 hq => ?_⟩
  · rcases h.fr n q n0 n1 hq with z | z
    · rcases z with z | z | z | z
      · exact .inl (.inr (.inr (.inl z)))
      · exact .inl (.inr (.inr (.inr (.inl z))))
      · exact .inl (.inr (.inr (.inr (.inr (.inl z)))))
      · exact .inl (.inr (.inr (.inr (.inr (.inr z)))))
    · exact .inr (by omega)
  · by_cases e : k = n
    · subst e
      rcases hn q hq with z | z
      · exact h.fr k q k0 k1 z
      · exact .inr (by omega)
    · exact h.fr k q k0 k1 (ho k e q hq)
theorem P2.sym {w w1 wr : World} {E nb CB SB mi : Nat} {rb rb' ar : Nat → Nat} {c c' : Nat → Value} {fk : Nat → Fin 4} {fv : Nat → Nat → Nat} {i kk : Nat} {x : FX} (h : P2 w w1 wr E nb CB SB mi rb rb' ar c c' fk fv i kk x) {base : Nat} (O : Olds w E nb CB SB mi base rb c) (hw : w.heap.size < wr.heap.size) {wx : World} {vals : Value} {k : Nat} (HS : SymsAt wx SB mi vals k) (hv : ∀ q, vals.ownBlock = some q → x.vals.ownBlock = some q ∨ wr.heap.size ≤ q) (W' : Ws (fpS SB mi x.vals) wr wx) : P2 w w1 wx E nb CB SB mi rb rb' ar c c' fk fv i k { x with vals := vals, k := k } := by
  obtain ⟨a, b, d⟩ := h.frame O hw (x' := { x with vals := vals, k := k }) 3 (by omega) (by omega) W' (fun q hq => by
    rcases hq with z | z | z
    · exact .inl (.inl z)
    · exact .inl (.inr (.inl z))
    · rcases hv q z with y | y
      · exact .inl (.inr (.inr y))
      · exact .inr y) (fun k hk q hq => by
    match k, hk, hq with
    | 0, _, hq => exact hq
    | 1, _, hq => exact hq
    | 2, _, hq => exact hq
    | 3, hk, _ => exact absurd rfl hk
    | 4, _, hq => exact hq
    | 5, _, hq => exact hq
    | k + 6, _, hq => exact hq)
  exact ⟨h.F.sym HS hv W', rfl, h.ct, h.rw', h.nt, h.ix, a, b, d⟩
theorem P2.rowp {w w1 wr : World} {E nb CB SB mi : Nat} {rb rb' ar : Nat → Nat} {c c' : Nat → Value} {fk : Nat → Fin 4} {fv : Nat → Nat → Nat} {i kk : Nat} {x : FX} (h : P2 w w1 wr E nb CB SB mi rb rb' ar c c' fk fv i kk x) {base : Nat} (O : Olds w E nb CB SB mi base rb c) (hw : w.heap.size < wr.heap.size) {wx : World} {row : Value} {rn : Nat} {rx : List Value} (HO : wx.ownsRow 0 109 1 row rn rx) (hv : ∀ q, row.ownBlock = some q → x.row.ownBlock = some q ∨ wr.heap.size ≤ q) (W' : Ws (fun q => x.row.ownBlock = some q) wr wx) : P2 w w1 wx E nb CB SB mi rb rb' ar c c' fk fv i kk { x with row := row, rn := rn, rx := rx } := by
  obtain ⟨a, b, d⟩ := h.frame O hw (x' := { x with row := row, rn := rn, rx := rx }) 4 (by omega) (by omega) W' hv (fun k hk q hq => by
    match k, hk, hq with
    | 0, _, hq => exact hq
    | 1, _, hq => exact hq
    | 2, _, hq => exact hq
    | 3, _, hq => exact hq
    | 4, hk, _ => exact absurd rfl hk
    | 5, _, hq => exact hq
    | k + 6, _, hq => exact hq)
  exact ⟨h.F.rowp HO hv W', h.k, h.ct, h.rw', h.nt, h.ix, a, b, d⟩
theorem P2.ins {w w1 wr : World} {E nb CB SB mi : Nat} {rb rb' ar : Nat → Nat} {c c' : Nat → Value} {fk : Nat → Fin 4} {fv : Nat → Nat → Nat} {i kk : Nat} {x : FX} (h : P2 w w1 wr E nb CB SB mi rb rb' ar c c' fk fv i kk x) {base : Nat} (O : Olds w E nb CB SB mi base rb c) (hw : w.heap.size < wr.heap.size) {wx : World} {j : Nat} (hj : j < 4) (hfk : fk i = kf j) {s' : RelS} {d' f' : Nat → Nat} {N' : Nat} {b : Bool} (R : RelO wx (rb' j) (nmS (kf j)) s' d' N' f') (I : InsOut (x.s j) s' (x.d j) d' (fv i) b) (hv : ∀ q, fpR (rb' j) s' q → fpR (rb' j) (x.s j) q ∨ wr.heap.size ≤ q) (W' : Ws (fpR (rb' j) (x.s j)) wr wx) : P2 w w1 wx E nb CB SB mi rb rb' ar c c' fk fv (i + 1) kk { x with s := updS x.s j s', d := updD x.d j d', N := updN x.N j N', f := updD x.f j f' } := by
  obtain ⟨a, b', d⟩ := h.frame O hw (x' := { x with s := updS x.s j s', d := updD x.d j d', N := updN x.N j N', f := updD x.f j f' }) (j + 6) (by omega) (by omega) W' (fun q hq => by
    have hq : fpR (rb' j) (updS x.s j s' j) q := hq
    rw [updS_same] at hq
    exact hv q hq) (fun k hk q hq => by
    match k, hk, hq with
    | 0, _, hq => exact hq
    | 1, _, hq => exact hq
    | 2, _, hq => exact hq
    | 3, _, hq => exact hq
    | 4, _, hq => exact hq
    | 5, _, hq => exact hq
    | k + 6, hk, hq =>
      have hq : fpR (rb' k) (updS x.s j s' k) q := hq
      rw [updS_other _ _ (by omega)] at hq
      exact hq)
  refine ⟨h.F.ins hj R I.A hv W', h.k, fun j2 hj2 r => ?_, fun j2 hj2 => ?_, Nat.le_succ_of_le h.nt, fun j2 hj2 => ?_, a, b', d⟩
  · by_cases e : j2 = j
    · subst e
      show hasR (updD x.d j2 d' j2) (ar j2) (updS x.s j2 s' j2).rows r ↔ _
      rw [updD_same, updS_same]
      have hh := I.has r
      rw [h.F.A j2 hj2] at hh
      rw [hh, h.ct j2 hj2 r]
      constructor
      · rintro (⟨i', h1, h2⟩ | z)
        · exact ⟨i', by omega, h2⟩
        · exact ⟨i, by omega, hfk, z⟩
      · rintro ⟨i', h1, h2, h3⟩
        by_cases q : i' < i
        · exact .inl ⟨i', q, h2, h3⟩
        · have e : i' = i := by omega
          subst e
          exact .inr h3
    · show hasR (updD x.d j d' j2) (ar j2) (updS x.s j s' j2).rows r ↔ _
      rw [updD_other _ _ e, updS_other _ _ e, h.ct j2 hj2 r]
      constructor
      · rintro ⟨i', h1, h2⟩
        exact ⟨i', by omega, h2⟩
      · rintro ⟨i', h1, h2, h3⟩
        by_cases q : i' < i
        · exact ⟨i', q, h2, h3⟩
        · have e2 : i' = i := by omega
          subst e2
          rw [hfk] at h2
          have := congrArg Fin.val h2
          rw [kf_nat hj, kf_nat hj2] at this
          omega
  · by_cases e : j2 = j
    · subst e
      show (updS x.s j2 s' j2).rows ≤ i + 1
      rw [updS_same]
      have := I.rows
      have := h.rw' j2 hj2
      omega
    · show (updS x.s j s' j2).rows ≤ i + 1
      rw [updS_other _ _ e]
      have := h.rw' j2 hj2
      omega
  · by_cases e : j2 = j
    · subst e
      show (updS x.s j2 s' j2).idx = _ ∧ (updS x.s j2 s' j2).old = _ ∧ (updS x.s j2 s' j2).cur = _
      rw [updS_same, I.idx, I.old, I.cur]
      exact h.ix j2 hj2
    · show (updS x.s j s' j2).idx = _ ∧ (updS x.s j s' j2).old = _ ∧ (updS x.s j s' j2).cur = _
      rw [updS_other _ _ e]
      exact h.ix j2 hj2
theorem P2.tup {w w1 wr : World} {E nb CB SB mi : Nat} {rb rb' ar : Nat → Nat} {c c' : Nat → Value} {fk : Nat → Fin 4} {fv : Nat → Nat → Nat} {i kk : Nat} {x : FX} (h : P2 w w1 wr E nb CB SB mi rb rb' ar c c' fk fv i kk x) {base : Nat} (O : Olds w E nb CB SB mi base rb c) (n : Nat) (hn : n ≤ i) : P2 w w1 (wr.setCell ⟨E, 16, none⟩ (.int .i64 (n : Int))) E nb CB SB mi rb rb' ar c c' fk fv i kk { x with nt := n } := by
  have hE : w.heap.size ≠ E := by have := O.b; omega
  refine ⟨h.F.tup n, h.k, h.ct, h.rw', hn, h.ix, h.W.set (.inl (.inl rfl)), (far_set hE).trans h.z, fun k q h1 h2 hq => h.fr k q h1 h2 ?_⟩
  match k, h1, hq with
  | 3, _, hq => exact hq
  | 4, _, hq => exact hq
  | 5, _, hq => exact hq
  | k + 6, _, hq => exact hq
def kI (i t : Nat) : Nat := if t = 0 then min i 64 else min (i + 1) 64
theorem DbOk.step {nF : Nat} {fk : Nat → Fin 4} {nn : Nat → Nat} {fv : Nat → Nat → Nat} {ar : Nat → Nat} (h : DbOk nF fk nn fv ar) {i t : Nat} (hi : i < nF) (ht : t < nn i) : fv i t ≤ kI i t ∧ max (kI i t) (fv i t + 1) = kI i (t + 1) ∧ kI i t ≤ 64 := by
  have hv := h.v i t hi ht
  unfold kI
  rw [if_neg (show ¬ t + 1 = 0 by omega)]
  by_cases q : i < 64
  · obtain ⟨e1, e2⟩ := h.n0 i q
    have e3 := h.na i hi
    rw [e1, kf_nat (by omega), h.a3] at e3
    have e4 : t = 0 := by omega
    subst e4
    rw [if_pos rfl, e2]
    omega
  · split <;> omega
theorem P2.b0 {w w1 wr : World} {E nb CB SB mi : Nat} {rb rb' ar : Nat → Nat} {c c' : Nat → Value} {fk : Nat → Fin 4} {fv : Nat → Nat → Nat} {i kk : Nat} {x : FX} (h : P2 w w1 wr E nb CB SB mi rb rb' ar c c' fk fv i kk x) {w0 : World} {base : Nat} (O : Olds w E nb CB SB mi base rb c) (hb0 : Below w0.heap.size w0 w) (hlo : w0.heap.size ≤ CB ∧ w0.heap.size ≤ E ∧ w0.heap.size ≤ nb ∧ w0.heap.size ≤ SB ∧ w0.heap.size ≤ mi) : Below w0.heap.size w0 wr := by
  obtain ⟨b1, b2, b3, b4, b5, b6⟩ := O.b
  have hs := hb0.size
  refine ⟨h.W.os.trans hb0.os, h.W.tape.trans hb0.tape, h.W.output.trans hb0.output, Nat.le_trans hs h.W.size, fun q hq => (h.W.block q (by omega) (fun z => ?_)).trans (hb0.block q hq)⟩
  rcases z with z | z | z | z | z | ⟨j, hj, z⟩
  · omega
  · omega
  · omega
  · omega
  · have := O.c5 q z; omega
  · have := O.r j hj; omega
theorem FAt.keep {w w' : World} {E nb CB SB mi : Nat} {rb ar : Nat → Nat} {c : Nat → Value} {x : FX} (h : FAt w E nb CB SB mi rb ar c x) (kp : ∀ k q, k < 10 → fpF E nb CB SB mi rb c x k q → w'.heap[q]? = w.heap[q]?) : FAt w' E nb CB SB mi rb ar c x :=
  ⟨h.e.blk (kp 0 E (by omega) rfl), h.m.blk (kp 1 nb (by omega) rfl), (World.cell?_of_block (a := ⟨CB, 0, none⟩) (kp 2 CB (by omega) rfl)).trans h.cb, h.sy.keep (fun q hq _ => kp 3 q (by omega) hq), own_keep h.ro (fun q hq _ => kp 4 q (by omega) hq), own_keep h.rl (fun q hq _ => kp 5 q (by omega) hq), fun j hj => (h.re j hj).keep (fun q hq _ => kp (j + 6) q (by omega) hq), h.A, h.dj⟩
theorem P2.zset {w w1 wr : World} {E nb CB SB mi : Nat} {rb rb' ar : Nat → Nat} {c c' : Nat → Value} {fk : Nat → Fin 4} {fv : Nat → Nat → Nat} {i kk : Nat} {x : FX} (h : P2 w w1 wr E nb CB SB mi rb rb' ar c c' fk fv i kk x) {base : Nat} (O : Olds w E nb CB SB mi base rb c) (o : Nat) (v : Value) : P2 w (wr.setCell ⟨w.heap.size, o, none⟩ v) (wr.setCell ⟨w.heap.size, o, none⟩ v) E nb CB SB mi rb rb' ar c c' fk fv i kk x := by
  obtain ⟨b1, b2, b3, b4, b5, b6⟩ := O.b
  refine ⟨h.F.keep (fun k q hk hq => far_set (fun e => ?_)), h.k, h.ct, h.rw', h.nt, h.ix, h.W.set (.inr (Nat.le_refl _)), rfl, h.fr⟩
  subst e
  match k, hk, hq with
  | 0, _, hq => have e : w.heap.size = E := hq; omega
  | 1, _, hq => have e : w.heap.size = nb := hq; omega
  | 2, _, hq => have e : w.heap.size = CB := hq; omega
  | k + 3, hk, hq => exact h.zfree O (k + 3) (by omega) hk hq
end Go.Proofs.Qxb6500880aGreat
