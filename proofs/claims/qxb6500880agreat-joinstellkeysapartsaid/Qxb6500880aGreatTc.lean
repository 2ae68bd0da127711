import Derived.Deep.CutBlock
import Derived.OwnWalk
import Derived.Maps.AppendAt
import Derived.Maps.OwnSet
import Derived.Maps.OwnOps
import Derived.Laws.ResultCell
import Derived.Test.Qxb6500880aGreatTa
import Derived.Test.Qxb6500880aGreatPk
set_option linter.unusedVariables false
set_option linter.unusedSimpArgs false
namespace Go.Proofs.Qxb6500880aGreat
open Go.RowKit

/-- The engine as New leaves it. -/
def DN (ρ : Rl) (E GR GC RL cr : Nat) (rb : Nat → Nat) (nt fs sn : Nat) : RD := ⟨ρ, E, GR, GC, RL, cr, rb, fun j => nmS (kf j), 4096, nt, fs, sn, 3 - fs - sn⟩
/-- The first i relations are sealed. -/
def XN (x : FX) (i : Nat) : Nat → RS := fun j => if j < i then ⟨{ x.s j with old := (x.s j).rows, cur := (x.s j).rows }, x.d j, x.N j, x.f j⟩ else ⟨x.s j, x.d j, x.N j, x.f j⟩
theorem XN_fp (x : FX) (i : Nat) (rb : Nat → Nat) (k q : Nat) : fpR (rb k) (XN x i k).s q ↔ fpR (rb k) (x.s k) q := by
  unfold XN
  split <;> exact Iff.rfl
theorem XN_next (x : FX) (i : Nat) : updX (XN x i) i ⟨{ (XN x i i).s with idx := (XN x i i).s.idx, old := (XN x i i).s.rows, cur := (XN x i i).s.rows }, (XN x i i).d, (XN x i i).N, (XN x i i).f⟩ = XN x (i + 1) := by
  have e : XN x i i = ⟨x.s i, x.d i, x.N i, x.f i⟩ := by unfold XN; rw [if_neg (by omega)]
  rw [e]
  funext j
  by_cases q : j = i
  · subst q
    rw [updX_same]
    unfold XN
    rw [if_pos (by omega)]
  · rw [updX_other _ _ q]
    unfold XN
    by_cases z : j < i
    · rw [if_pos z, if_pos (by omega)]
    · rw [if_neg z, if_neg (by omega)]
theorem NR.s0 {w9 w10 w1 w13 : World} {E nb CB FB SB mi base LB gl cgl GR GC fs sn np nt : Nat} {rb rb' : Nat → Nat} {c9 c10 c' : Nat → Value} {ρ : Rl} {fv : Nat → Nat → Nat} {x : FX} (R : NR w9 w10 E nb CB FB SB mi base LB rb c9 gl cgl GR GC fs sn c10 ρ) (P : P2 w10 w1 w13 E nb CB SB mi rb rb' arN c10 c' (fkN np) fv (64 + np + nt) 64 x) {q : Nat} (hq : S0 E nb SB mi rb c10 q) : q < LB := by
  have hl := R.N.lt
  rcases hq with z | z | z | z | z | ⟨j, hj, z⟩
  · omega
  · omega
  · omega
  · omega
  · exact R.N.o5 q z
  · rw [z]; exact R.N.r j hj
theorem NR.fr {w9 w10 w1 w13 : World} {E nb CB FB SB mi base LB gl cgl GR GC fs sn np nt : Nat} {rb rb' : Nat → Nat} {c9 c10 c' : Nat → Value} {ρ : Rl} {fv : Nat → Nat → Nat} {x : FX} (R : NR w9 w10 E nb CB FB SB mi base LB rb c9 gl cgl GR GC fs sn c10 ρ) (P : P2 w10 w1 w13 E nb CB SB mi rb rb' arN c10 c' (fkN np) fv (64 + np + nt) 64 x) {k q : Nat} (hk : k < 10) (hq : fpF E nb CB SB mi rb' c' x k q) : q < LB ∨ w10.heap.size < q := by
  have hl := R.N.lt
  by_cases h3 : 3 ≤ k
  · rcases P.fr k q h3 hk hq with z | z
    · refine .inl (R.s0 P ?_)
      rcases z with z | z | z | z
      · exact .inr (.inr (.inl z))
      · exact .inr (.inr (.inr (.inl z)))
      · exact .inr (.inr (.inr (.inr (.inl z))))
      · exact .inr (.inr (.inr (.inr (.inr z))))
    · exact .inr z
  · rcases (by omega : k = 0 ∨ k = 1 ∨ k = 2) with h | h | h
    · subst h; have e : q = E := hq; omega
    · subst h; have e : q = nb := hq; omega
    · subst h; have e : q = CB := hq; omega
theorem NR.k13 {w9 w10 w1 w13 : World} {E nb CB FB SB mi base LB gl cgl GR GC fs sn np nt : Nat} {rb rb' : Nat → Nat} {c9 c10 c' : Nat → Value} {ρ : Rl} {fv : Nat → Nat → Nat} {x : FX} (R : NR w9 w10 E nb CB FB SB mi base LB rb c9 gl cgl GR GC fs sn c10 ρ) (P : P2 w10 w1 w13 E nb CB SB mi rb rb' arN c10 c' (fkN np) fv (64 + np + nt) 64 x) {q : Nat} (h1 : q < w10.heap.size) (h2 : LB ≤ q) : w13.heap[q]? = w10.heap[q]? := P.W.block q h1 (fun z => by have := R.s0 P z; omega)
theorem NR.szs {w9 w10 w1 w13 : World} {E nb CB FB SB mi base LB gl cgl GR GC fs sn np nt : Nat} {rb rb' : Nat → Nat} {c9 c10 c' : Nat → Value} {ρ : Rl} {fv : Nat → Nat → Nat} {x : FX} (R : NR w9 w10 E nb CB FB SB mi base LB rb c9 gl cgl GR GC fs sn c10 ρ) (P : P2 w10 w1 w13 E nb CB SB mi rb rb' arN c10 c' (fkN np) fv (64 + np + nt) 64 x) : GR < w10.heap.size ∧ GC < w10.heap.size ∧ (∀ q, ρ.has q → LB < q ∧ q < w10.heap.size) ∧ LB < GR ∧ LB < GC ∧ w10.heap.size ≤ w13.heap.size := by
  have ho := R.od
  have h1 : GR < w10.heap.size := World.block_lt_of_cell? _ _ (R.G 0 (by omega))
  have h2 : GC < w10.heap.size := World.block_lt_of_cell? _ _ (show w10.cell? ⟨GC, 0 * 6 + 0, none⟩ = some (.int .i64 0) from R.C 0 0 (by omega) (by omega))
  exact ⟨h1, h2, fun q hq => by have := R.h q hq; omega, by omega, by omega, P.W.size⟩
def kmN (k : Nat) : Nat := if k = 0 then 0 else if k = 3 then 5 else k + 1
theorem NR.cls {w9 w10 w1 w13 : World} {E nb CB FB SB mi base LB gl cgl GR GC fs sn np nt : Nat} {rb rb' : Nat → Nat} {c9 c10 c' : Nat → Value} {ρ : Rl} {fv : Nat → Nat → Nat} {x : FX} {RL cr : Nat} (R : NR w9 w10 E nb CB FB SB mi base LB rb c9 gl cgl GR GC fs sn c10 ρ) (P : P2 w10 w1 w13 E nb CB SB mi rb rb' arN c10 c' (fkN np) fv (64 + np + nt) 64 x) (e5 : c' 5 = .slice (some ⟨RL, 0, none⟩) 4 cr) (i : Nat) : ∀ k q, k < 9 → fpE (DN ρ E GR GC RL cr rb' x.nt fs sn) (XN x i) k q → ((k = 1 ∧ q = GR) ∨ (k = 2 ∧ q = GC) ∨ (k = 4 ∧ ρ.has q)) ∨ ((k = 0 ∨ k = 3 ∨ 5 ≤ k) ∧ fpF E nb CB SB mi rb' c' x (kmN k) q)
  | 0, q, _, hq => .inr ⟨.inl rfl, hq⟩
  | 1, q, _, hq => .inl (.inl ⟨rfl, hq⟩)
  | 2, q, _, hq => .inl (.inr (.inl ⟨rfl, hq⟩))
  | 3, q, _, hq => .inr ⟨.inr (.inl rfl), by
      have e : q = RL := hq
      show (c' 5).ownBlock = some q
      rw [e5, e]
      rfl⟩
  | 4, q, _, hq => .inl (.inr (.inr ⟨rfl, hq⟩))
  | k + 5, q, _, hq => .inr ⟨.inr (.inr (by omega)), by
      have e : kmN (k + 5) = k + 6 := by unfold kmN; rw [if_neg (by omega), if_neg (by omega)]
      rw [e]
      exact (XN_fp x i rb' k q).1 hq⟩
theorem NR.dj {w9 w10 w1 w13 : World} {E nb CB FB SB mi base LB gl cgl GR GC fs sn np nt : Nat} {rb rb' : Nat → Nat} {c9 c10 c' : Nat → Value} {ρ : Rl} {fv : Nat → Nat → Nat} {x : FX} {RL cr : Nat} (R : NR w9 w10 E nb CB FB SB mi base LB rb c9 gl cgl GR GC fs sn c10 ρ) (P : P2 w10 w1 w13 E nb CB SB mi rb rb' arN c10 c' (fkN np) fv (64 + np + nt) 64 x) (e5 : c' 5 = .slice (some ⟨RL, 0, none⟩) 4 cr) (i : Nat) : Disj (fpE (DN ρ E GR GC RL cr rb' x.nt fs sn) (XN x i)) 9 := by
  intro a b q ha hb h1 h2
  have hs := R.szs P
  have ho := R.od
  have km : ∀ k, k < 9 → kmN k < 10 := fun k hk => by unfold kmN; split; omega; split <;> omega
  have inj : ∀ k k', k < 9 → k' < 9 → (k = 0 ∨ k = 3 ∨ 5 ≤ k) → (k' = 0 ∨ k' = 3 ∨ 5 ≤ k') → kmN k = kmN k' → k = k' := fun k k' _ _ h h' e => by
    unfold kmN at e
    split at e <;> split at e <;> (try split at e) <;> (try split at e) <;> omega
  rcases R.cls P e5 i a q ha h1 with z1 | ⟨y1, z1⟩ <;> rcases R.cls P e5 i b q hb h2 with z2 | ⟨y2, z2⟩
  · rcases z1 with ⟨u, z1⟩ | ⟨u, z1⟩ | ⟨u, z1⟩ <;> rcases z2 with ⟨v, z2⟩ | ⟨v, z2⟩ | ⟨v, z2⟩ <;> first | omega | (have := R.h q z1; omega) | (have := R.h q z2; omega)
  · have := R.fr P (km b hb) z2
    rcases z1 with ⟨u, z1⟩ | ⟨u, z1⟩ | ⟨u, z1⟩ <;> first | omega | (have := hs.2.2.1 q z1; omega)
  · have := R.fr P (km a ha) z1
    rcases z2 with ⟨u, z2⟩ | ⟨u, z2⟩ | ⟨u, z2⟩ <;> first | omega | (have := hs.2.2.1 q z2; omega)
  · exact inj a b ha hb y1 y2 (P.F.dj _ _ q (km a ha) (km b hb) z1 z2)
theorem NR.es {w9 w10 w1 w13 : World} {E nb CB FB SB mi base LB gl cgl GR GC fs sn np nt : Nat} {rb rb' : Nat → Nat} {c9 c10 c' : Nat → Value} {ρ : Rl} {fv : Nat → Nat → Nat} {x : FX} {RL cr : Nat} (R : NR w9 w10 E nb CB FB SB mi base LB rb c9 gl cgl GR GC fs sn c10 ρ) (P : P2 w10 w1 w13 E nb CB SB mi rb rb' arN c10 c' (fkN np) fv (64 + np + nt) 64 x) (e5 : c' 5 = .slice (some ⟨RL, 0, none⟩) 4 cr) : ES w13 (DN ρ E GR GC RL cr rb' x.nt fs sn) (updV c' 16 (.int .i64 (x.nt : Int))) (XN x 0) := by
  have hs := R.szs P
  have hrl : ∀ j, j < 4 → w13.cell? ⟨RL, j, none⟩ = some (.pointer (some ⟨rb' j, 0, none⟩)) := fun j hj => by
    have o := P.F.rl
    rw [e5] at o
    have e := o.cellAt j (by omega)
    rw [ptrL_get rb' 4 j hj] at e
    exact e
  refine ⟨P.F.e, R.X.keep (fun q hq => R.k13 P (hs.2.2.1 q hq).2 (by have := hs.2.2.1 q hq; omega)), hrl, fun j hj => ?_, by show GR < _; omega, by show GC < _; omega, R.dj P e5 0⟩
  have e : XN x 0 j = ⟨x.s j, x.d j, x.N j, x.f j⟩ := by unfold XN; rw [if_neg (by omega)]
  rw [e]
  exact P.F.re j hj
theorem row_in {d : Nat → Nat} {A rows i : Nat} (hi : i < rows) : hasR d A rows (fun t => d (i * A + t)) := ⟨i, hi, fun c _ => rfl⟩
theorem fkN_c {np i : Nat} (h : fkN np i = kf 0) : 64 + np ≤ i := by
  unfold fkN at h
  split at h
  · cases h
  · split at h
    · cases h
    · omega
theorem fkN_k {np i : Nat} (h : fkN np i = kf 2) : False := by
  unfold fkN at h
  split at h
  · cases h
  · split at h <;> cases h
theorem rows_c {w9 w10 w1 w13 : World} {E nb CB FB SB mi base LB gl cgl GR GC fs sn np nt : Nat} {rb rb' : Nat → Nat} {c9 c10 c' : Nat → Value} {ρ : Rl} {fv : Nat → Nat → Nat} {x : FX} (R : NR w9 w10 E nb CB FB SB mi base LB rb c9 gl cgl GR GC fs sn c10 ρ) (P : P2 w10 w1 w13 E nb CB SB mi rb rb' arN c10 c' (fkN np) fv (64 + np + nt) 64 x) : (x.s 0).rows ≤ nt := by
  have D := (P.F.re 0 (by omega)).dist
  have hA : (x.s 0).A = 3 := P.F.A 0 (by omega)
  rw [hA] at D
  have hx : ∀ i, ∃ k, i < (x.s 0).rows → k < nt ∧ ∀ t, t < 3 → fv (64 + np + k) t = x.d 0 (i * 3 + t) := fun i => by
    by_cases q : i < (x.s 0).rows
    · obtain ⟨i', h1, h2, h3⟩ := (P.ct 0 (by omega) _).1 (row_in (A := 3) q)
      have := fkN_c h2
      exact ⟨i' - (64 + np), fun _ => ⟨by omega, fun t ht => by rw [show 64 + np + (i' - (64 + np)) = i' by omega]; exact h3 t ht⟩⟩
    · exact ⟨0, fun z => absurd z q⟩
  refine pigeonM nt _ (fun i => Classical.choose (hx i)) (fun i hi => (Classical.choose_spec (hx i) hi).1) (fun i j hi hj e => ?_)
  have h1 := (Classical.choose_spec (hx i) hi).2
  have h2 := (Classical.choose_spec (hx j) (by omega)).2
  have e' : Classical.choose (hx i) = Classical.choose (hx j) := e
  rw [e'] at h1
  exact D i j hi hj (fun c hc => (h2 c hc).symm.trans (h1 c hc))
theorem rows_pos {w9 w10 w1 w13 : World} {E nb CB FB SB mi base LB gl cgl GR GC fs sn np nt : Nat} {rb rb' : Nat → Nat} {c9 c10 c' : Nat → Value} {ρ : Rl} {fv : Nat → Nat → Nat} {x : FX} (R : NR w9 w10 E nb CB FB SB mi base LB rb c9 gl cgl GR GC fs sn c10 ρ) (P : P2 w10 w1 w13 E nb CB SB mi rb rb' arN c10 c' (fkN np) fv (64 + np + nt) 64 x) {j i : Nat} (hj : j < 4) (hi : i < 64 + np + nt) (hk : fkN np i = kf j) : 0 < (x.s j).rows := by
  obtain ⟨r, h1, _⟩ := (P.ct j hj (fv i)).2 ⟨i, hi, hk, fun t _ => rfl⟩
  omega
theorem rows_k {w9 w10 w1 w13 : World} {E nb CB FB SB mi base LB gl cgl GR GC fs sn np nt : Nat} {rb rb' : Nat → Nat} {c9 c10 c' : Nat → Value} {ρ : Rl} {fv : Nat → Nat → Nat} {x : FX} (R : NR w9 w10 E nb CB FB SB mi base LB rb c9 gl cgl GR GC fs sn c10 ρ) (P : P2 w10 w1 w13 E nb CB SB mi rb rb' arN c10 c' (fkN np) fv (64 + np + nt) 64 x) : (x.s 2).rows = 0 := by
  rcases Nat.eq_zero_or_pos (x.s 2).rows with z | z
  · exact z
  · obtain ⟨i', h1, h2, h3⟩ := (P.ct 2 (by omega) _).1 (row_in (A := 3) z)
    exact absurd h2 (fun e => fkN_k e)
theorem NR.ok {w9 w10 w1 w13 : World} {E nb CB FB SB mi base LB gl cgl GR GC fs sn np nt : Nat} {rb rb' : Nat → Nat} {c9 c10 c' : Nat → Value} {ρ : Rl} {fv : Nat → Nat → Nat} {x : FX} {RL cr : Nat} {w w' : World} (R : NR w9 w10 E nb CB FB SB mi base LB rb c9 gl cgl GR GC fs sn c10 ρ) (P : P2 w10 w1 w13 E nb CB SB mi rb rb' arN c10 c' (fkN np) fv (64 + np + nt) 64 x) (hc : ∀ k, k ≠ 5 → c' k = c10 k) (hr : ∀ j, j < 3 → rb' j = rb j) (h3 : w10.heap.size < rb' 3) (e5 : c' 5 = .slice (some ⟨RL, 0, none⟩) 4 cr) (ag9 : ∀ k, k ≠ 5 → k ≠ 7 → c9 k = cI SB nb k) (a79 : c9 7 = .slice (some ⟨LB, 0, none⟩) 1 1) (hES : ES w' (DN ρ E GR GC RL cr rb' x.nt fs sn) (updV c' 16 (.int .i64 (x.nt : Int))) (XN x 4)) (hk : ∀ q, q < w13.heap.size → (∀ j, j < 4 → q ≠ rb' j) → q ≠ FB → w'.heap[q]? = w13.heap[q]?) (b : Below w.heap.size w w') (hp : 0 < np ∧ np ≤ 4 ∧ 0 < nt ∧ nt ≤ 8) (o : OrdN fs sn) (hw : w.heap.size ≤ E ∧ w.heap.size ≤ SB ∧ w.heap.size ≤ mi ∧ w.heap.size ≤ base ∧ w.heap.size ≤ nb) : NewOk w w' np nt fs sn fv (DN ρ E GR GC RL cr rb' x.nt fs sn) (updV c' 16 (.int .i64 (x.nt : Int))) (XN x 4) LB 1 gl cgl SB mi nb x.vals := by
  have hs := R.szs P
  have ho := R.od
  have hl := R.N.lt
  have hnf := R.N.nf
  have hge : ∀ j, j < 4 → base ≤ rb' j ∧ (rb' j < LB ∨ w10.heap.size < rb' j) := fun j hj => by
    by_cases q : j < 3
    · rw [hr j q]; exact ⟨(R.N.T.r j q).2.1, .inl (R.N.r j q)⟩
    · have : j = 3 := by omega
      subst this
      exact ⟨by omega, .inr h3⟩
  have kz : ∀ q, q < w10.heap.size → LB ≤ q → w'.heap[q]? = w10.heap[q]? := fun q h1 h2 => (hk q (by omega) (fun j hj => by have := hge j hj; omega) (by omega)).trans (R.k13 P h1 h2)
  have eX : ∀ j, j < 4 → XN x 4 j = ⟨{ x.s j with old := (x.s j).rows, cur := (x.s j).rows }, x.d j, x.N j, x.f j⟩ := fun j hj => by unfold XN; rw [if_pos hj]
  have cc : ∀ k, k ≠ 5 → k ≠ 7 → k ≠ 13 → k ≠ 16 → k ≠ 21 → k ≠ 22 → (updV c' 16 (.int .i64 (x.nt : Int))) k = cI SB nb k := fun k h1 h2 h3 h4 h5 h6 => (updV_other _ _ h4).trans ((hc k h1).trans ((R.ag k h3 h5 h6).trans (ag9 k h1 h2)))
  have eG := kz GR hs.1 (by omega)
  have eC := kz GC hs.2.1 (by omega)
  have uc : ∀ k t, k < 2 → t < 6 → w'.cell? ⟨GC, k * 6 + t, none⟩ = curZ[t]? := fun k t h1 h2 => (World.cell?_of_block (a := ⟨GC, k * 6 + t, none⟩) eC).trans (R.C k t h1 h2)
  have hA : ∀ j, j < 4 → (x.s j).A = arN j := P.F.A
  have hfk1 : fkN np 64 = kf 1 := by unfold fkN; rw [if_neg (by omega), if_pos (by omega)]; rfl
  have hfk0 : fkN np (64 + np) = kf 0 := by unfold fkN; rw [if_neg (by omega), if_neg (by omega)]; rfl
  have hgl : gl < w10.heap.size := World.block_lt_of_cell? _ _ R.g
  have hLl : LB < w10.heap.size := World.block_lt_of_cell? _ _ R.l
  refine ⟨⟨hES, cc 0 (by omega) (by omega) (by omega) (by omega) (by omega) (by omega), cc 1 (by omega) (by omega) (by omega) (by omega) (by omega) (by omega), cc 3 (by omega) (by omega) (by omega) (by omega) (by omega) (by omega), (updV_other _ _ (by omega)).trans e5, cc 12 (by omega) (by omega) (by omega) (by omega) (by omega) (by omega), cc 14 (by omega) (by omega) (by omega) (by omega) (by omega) (by omega), updV_same _ _ _, cc 17 (by omega) (by omega) (by omega) (by omega) (by omega) (by omega), cc 18 (by omega) (by omega) (by omega) (by omega) (by omega) (by omega), cc 19 (by omega) (by omega) (by omega) (by omega) (by omega) (by omega), cc 20 (by omega) (by omega) (by omega) (by omega) (by omega) (by omega), (updV_other _ _ (by omega)).trans ((hc 21 (by omega)).trans R.a21), (updV_other _ _ (by omega)).trans ((hc 22 (by omega)).trans R.a22), cc 23 (by omega) (by omega) (by omega) (by omega) (by omega) (by omega), ?um, ?un, ?uR, ?uf, ?ur, ?uh, ?o, ?A, ?ix, ?r0, ?r1, ?r2, fun j hj => (World.cell?_of_block (a := ⟨GR, j, none⟩) eG).trans (R.G j hj), fun o => (World.frozen?_of_block (a := ⟨GR, o, none⟩) eG).trans (R.Gf o), uc 0 0 (by omega) (by omega), uc 0 1 (by omega) (by omega), uc 0 2 (by omega) (by omega), uc 0 3 (by omega) (by omega), uc 0 4 (by omega) (by omega), uc 0 5 (by omega) (by omega), uc 1 0 (by omega) (by omega), uc 1 1 (by omega) (by omega), uc 1 2 (by omega) (by omega), uc 1 3 (by omega) (by omega), uc 1 4 (by omega) (by omega), uc 1 5 (by omega) (by omega), fun o => (World.frozen?_of_block (a := ⟨GC, o, none⟩) eC).trans (R.Cf o), ?hB⟩, (updV_other _ _ (by omega)).trans ((hc 7 (by omega)).trans ((R.ag 7 (by omega) (by omega) (by omega)).trans a79)), cc 8 (by omega) (by omega) (by omega) (by omega) (by omega) (by omega), cc 9 (by omega) (by omega) (by omega) (by omega) (by omega) (by omega), (World.cell?_of_block (a := ⟨LB, 0, none⟩) (kz LB hLl (by omega))).trans R.l, (World.cell?_of_block (a := ⟨gl, 0, none⟩) (kz gl hgl (by omega))).trans R.g, ⟨rfl, rfl⟩, cc 4 (by omega) (by omega) (by omega) (by omega) (by omega) (by omega), cc 6 (by omega) (by omega) (by omega) (by omega) (by omega) (by omega), ?N, ?S, ?ap, ?ct, ?fr, b⟩
  case um => show ρ.u.m = 2; rw [R.u]; rfl
  case un => show ρ.u.nn 0 = 2 ∧ ρ.u.nn 1 = 3; rw [R.u]; exact ⟨rfl, rfl⟩
  case uR => show ρ.u.R = 3; rw [R.u]; rfl
  case uf => show (ρ.u.F 0 0 = fs ∧ ρ.u.F 0 1 = sn) ∧ ∀ t, t < 3 → ρ.u.F 1 t = t; rw [R.u]; exact ⟨⟨rfl, rfl⟩, fun t _ => rfl⟩
  case ur => show ρ.u.rb 0 = rb' 1 ∧ ρ.u.rb 1 = rb' 0 ∧ ρ.u.hb = rb' 2; rw [R.u, hr 0 (by omega), hr 1 (by omega), hr 2 (by omega)]; exact ⟨rfl, rfl, rfl⟩
  case uh => show ρ.u.nh = 3 ∧ ∀ t, t < 3 → ρ.u.Fh t = t; rw [R.u]; exact ⟨rfl, fun t _ => rfl⟩
  case o =>
    show (fs = 0 ∧ sn = 1 ∧ 3 - fs - sn = 2) ∨ (fs = 0 ∧ sn = 2 ∧ 3 - fs - sn = 1) ∨ (fs = 1 ∧ sn = 2 ∧ 3 - fs - sn = 0)
    rcases o with z | z | z <;> omega
  case A => rw [eX 0 (by omega), eX 1 (by omega), eX 2 (by omega)]; exact ⟨hA 0 (by omega), hA 1 (by omega), hA 2 (by omega)⟩
  case ix => intro j hj; rw [eX j hj]; exact (P.ix j hj).1
  case r0 => rw [eX 0 (by omega)]; exact ⟨rows_pos R P (by omega) (by omega) hfk0, Nat.le_trans (rows_c R P) hp.2.2.2, rfl⟩
  case r1 => rw [eX 1 (by omega)]; exact ⟨rows_pos R P (by omega) (by omega) hfk1, by have := P.rw' 1 (by omega); show (x.s 1).rows ≤ 100; omega, rfl⟩
  case r2 => rw [eX 2 (by omega)]; exact ⟨rows_k R P, rows_k R P⟩
  case hB => have := P.nt; show x.nt + 10 ≤ 4096 ∧ 4096 ≤ 100000; omega
  case N =>
    refine P.F.m.blk (hk nb P.F.m.lt (fun j hj e => ?_) hnf.2.1.symm)
    have := hge j hj
    omega
  case S =>
    have := P.F.sy
    rw [P.k] at this
    refine this.keep (fun q hq hl => hk q hl (fun j hj e => ?_) (fun e => ?_))
    · have := P.F.dj 3 (j + 6) q (by omega) (by omega) hq (show fpR (rb' j) (x.s j) q from .inl e)
      omega
    · rcases P.fr 3 q (by omega) (by omega) hq with z | z
      · rcases z with z | z | z | ⟨j, hj, z⟩
        · omega
        · omega
        · have := (R.N.T.own.lt q z).1; omega
        · have := (R.N.T.r j hj).2.1; omega
      · omega
  case ap =>
    intro q hq hz
    have hz' : q = E ∨ q = GR ∨ q = GC ∨ q = rb' 0 ∨ fpR (rb' 2) (x.s 2) q := by
      rcases hz with z | z | z | z | z
      · exact .inl z
      · exact .inr (.inl z)
      · exact .inr (.inr (.inl z))
      · exact .inr (.inr (.inr (.inl z)))
      · exact .inr (.inr (.inr (.inr ((XN_fp x 4 rb' 2 q).1 z))))
    obtain ⟨k, hk1, hq'⟩ : ∃ k, (k = 1 ∨ k = 3) ∧ fpF E nb CB SB mi rb' c' x k q := by
      rcases hq with z | z
      · exact ⟨1, .inl rfl, z⟩
      · exact ⟨3, .inr rfl, z⟩
    have hf := R.fr P (by omega) hq'
    rcases hz' with z | z | z | z | z
    · have := P.F.dj k 0 q (by omega) (by omega) hq' z; omega
    · omega
    · omega
    · have := P.F.dj k 6 q (by omega) (by omega) hq' (show fpR (rb' 0) (x.s 0) q from .inl z); omega
    · have := P.F.dj k 8 q (by omega) (by omega) hq' z; omega
  case ct => intro j hj r; rw [eX j hj]; exact P.ct j hj r
  case fr =>
    intro q hz
    have hb2 : ∀ k, 3 ≤ k → k < 10 → fpF E nb CB SB mi rb' c' x k q → w.heap.size ≤ q := fun k h1 h2 hq => by
      rcases P.fr k q h1 h2 hq with z | z
      · rcases z with z | z | z | ⟨j, hj, z⟩
        · omega
        · omega
        · have := (R.N.T.own.lt q z).1; omega
        · have := (R.N.T.r j hj).2.1; omega
      · omega
    rcases hz with z | z | z | z | z
    · have z : q = E := z; omega
    · have z : q = GR := z; omega
    · have z : q = GC := z; omega
    · exact hb2 6 (by omega) (by omega) (show fpR (rb' 0) (x.s 0) q from .inl z)
    · exact hb2 8 (by omega) (by omega) ((XN_fp x 4 rb' 2 q).1 z)
end Go.Proofs.Qxb6500880aGreat
