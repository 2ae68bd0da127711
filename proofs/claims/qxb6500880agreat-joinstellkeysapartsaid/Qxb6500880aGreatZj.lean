import Derived.Deep.CutBlock
import Derived.OwnWalk
import Derived.Maps.AppendAt
import Derived.Maps.OwnSet
import Derived.Maps.OwnOps
import Derived.Laws.ResultCell
import Derived.Test.Qxb6500880aGreatZg
set_option linter.unusedVariables false
set_option linter.unusedSimpArgs false
namespace Go.Proofs.Qxb6500880aGreat
open Go.RowKit

/-- What a plan is made for. -/
structure JP where
  ρ : Rl
  E : Nat
  rq : Nat
  nm : ByteArray
  s : RelS
  c : Nat → Value
  fs : Nat
  sn : Nat
  th : Nat
def JP.κ (J : JP) (t : Nat) : Bool := decide (t = J.fs ∨ t = J.sn)
def JP.cf (J : JP) (k : Nat) : Nat := if k = 0 then J.fs else J.sn
structure JOk (J : JP) : Prop where
  m : J.ρ.u.m = 2
  n0 : J.ρ.u.nn 0 = 2
  n1 : J.ρ.u.nn 1 = 3
  R : J.ρ.u.R = 3
  f0 : J.ρ.u.F 0 0 = J.fs ∧ J.ρ.u.F 0 1 = J.sn
  f1 : ∀ t, t < 3 → J.ρ.u.F 1 t = t
  o : (J.fs = 0 ∧ J.sn = 1 ∧ J.th = 2) ∨ (J.fs = 0 ∧ J.sn = 2 ∧ J.th = 1) ∨ (J.fs = 1 ∧ J.sn = 2 ∧ J.th = 0)
  rb : J.ρ.u.rb 1 = J.rq
  c1 : J.c 1 = .int .u8 1
  c3 : J.c 3 = .bool false
  c20 : J.c 20 = .int .i64 0
  ix : J.s.idx = .slice none 0 0
theorem JOk.kc {J : JP} (h : JOk J) : kc J.κ 3 = 2 ∧ kc (fun t => !J.κ t) 3 = 1 ∧ (∀ t, t < 3 → J.κ t = true → J.cf (kc J.κ t) = t) ∧ (∀ k, k < 2 → J.κ (J.cf k) = true) ∧ ∀ t, t < 3 → J.κ t = false → J.th = t := by
  have key : ∀ fs sn th : Nat, (fs = 0 ∧ sn = 1 ∧ th = 2) ∨ (fs = 0 ∧ sn = 2 ∧ th = 1) ∨ (fs = 1 ∧ sn = 2 ∧ th = 0) → Go.Proofs.Qxb6500880aGreat.kc (fun t => decide (t = fs ∨ t = sn)) 3 = 2 ∧ Go.Proofs.Qxb6500880aGreat.kc (fun t => !decide (t = fs ∨ t = sn)) 3 = 1 ∧ (∀ t, t < 3 → decide (t = fs ∨ t = sn) = true → (if Go.Proofs.Qxb6500880aGreat.kc (fun t => decide (t = fs ∨ t = sn)) t = 0 then fs else sn) = t) ∧ (∀ k, k < 2 → decide ((if k = 0 then fs else sn) = fs ∨ (if k = 0 then fs else sn) = sn) = true) ∧ ∀ t, t < 3 → decide (t = fs ∨ t = sn) = false → th = t := by
    rintro fs sn th (⟨rfl, rfl, rfl⟩ | ⟨rfl, rfl, rfl⟩ | ⟨rfl, rfl, rfl⟩)
    · refine ⟨by decide, by decide, fun t ht => ?_, fun k hk => ?_, fun t ht => ?_⟩
      · rcases (by omega : t = 0 ∨ t = 1 ∨ t = 2) with e | e | e <;> (subst e; decide)
      · rcases (by omega : k = 0 ∨ k = 1) with e | e <;> (subst e; decide)
      · rcases (by omega : t = 0 ∨ t = 1 ∨ t = 2) with e | e | e <;> (subst e; decide)
    · refine ⟨by decide, by decide, fun t ht => ?_, fun k hk => ?_, fun t ht => ?_⟩
      · rcases (by omega : t = 0 ∨ t = 1 ∨ t = 2) with e | e | e <;> (subst e; decide)
      · rcases (by omega : k = 0 ∨ k = 1) with e | e <;> (subst e; decide)
      · rcases (by omega : t = 0 ∨ t = 1 ∨ t = 2) with e | e | e <;> (subst e; decide)
    · refine ⟨by decide, by decide, fun t ht => ?_, fun k hk => ?_, fun t ht => ?_⟩
      · rcases (by omega : t = 0 ∨ t = 1 ∨ t = 2) with e | e | e <;> (subst e; decide)
      · rcases (by omega : k = 0 ∨ k = 1) with e | e <;> (subst e; decide)
      · rcases (by omega : t = 0 ∨ t = 1 ∨ t = 2) with e | e | e <;> (subst e; decide)
  exact key J.fs J.sn J.th h.o
/-- The blocks of the index. -/
structure JX where
  IX : Nat
  gc : Nat
  cc : Nat
  gi : Nat
  ci : Nat
/-- What step k has of its own, in the blocks from lo on, below hi. -/
structure KaJ (w : World) (lo hi : Nat) (J : JP) (X : JX) (k : Nat) (h : Int) (ix kv av : Value) : Prop where
  z : k = 0 → h = 0 ∧ ix = .pointer none ∧ kv = .slice none 0 0 ∧ w.ownsRow lo 223 4 av 2 (actL (J.ρ.u.F 0) 2)
  o : k = 1 → h = 1 ∧ ix = .pointer (some ⟨X.IX, 0, none⟩) ∧ w.cell? ⟨X.gi, 0, none⟩ = some (.pointer (some ⟨X.IX, 0, none⟩)) ∧ IxC w X.IX X.gc X.cc 2 J.cf ∧ IxN w X.IX ∧ (X.IX ≠ X.gc ∧ X.gi ≠ X.IX) ∧ w.ownsRow lo 136 2 kv 2 (opL (fun k => J.ρ.u.F 1 (J.cf k)) 2) ∧ w.ownsRow lo 223 4 av 1 (actG (fun _ => J.th) (J.ρ.u.F 1) 1) ∧ (kv.ownBlock ≠ some X.IX ∧ av.ownBlock ≠ some X.IX)
  b : ∀ q, (kv.ownBlock = some q ∨ av.ownBlock = some q ∨ (k = 1 ∧ (q = X.IX ∨ q = X.gc ∨ q = X.gi))) → lo ≤ q ∧ q < hi
  k : k < 2
theorem KaJ.keep {w' : World} {w : World} {lo hi : Nat} {J : JP} {X : JX} {k : Nat} {h' : Int} {ix kv av : Value} (h : KaJ w lo hi J X k h' ix kv av) (hk : ∀ q, lo ≤ q → q < hi → w'.heap[q]? = w.heap[q]?) : KaJ w' lo hi J X k h' ix kv av := by
  have hb : ∀ q, (kv.ownBlock = some q ∨ av.ownBlock = some q ∨ (k = 1 ∧ (q = X.IX ∨ q = X.gc ∨ q = X.gi))) → w'.heap[q]? = w.heap[q]? := fun q hq => hk q (h.b q hq).1 (h.b q hq).2
  refine ⟨fun e => ?_, fun e => ?_, h.b, h.k⟩
  · obtain ⟨a, b, c, d⟩ := h.z e
    exact ⟨a, b, c, own_one d (fun q hq => hb q (.inr (.inl hq)))⟩
  · obtain ⟨a1, a2, a3, a4, a5, a6, a7, a8, a9⟩ := h.o e
    have e1 := hb X.IX (.inr (.inr ⟨e, .inl rfl⟩))
    exact ⟨a1, a2, (World.cell?_of_block (a := ⟨X.gi, 0, none⟩) (hb X.gi (.inr (.inr ⟨e, .inr (.inr rfl)⟩)))).trans a3, a4.keep (World.cell?_of_block (a := ⟨X.IX, 0, none⟩) e1) (hb X.gc (.inr (.inr ⟨e, .inr (.inl rfl)⟩))), a5.blk e1, a6, own_one a7 (fun q hq => hb q (.inl hq)), own_one a8 (fun q hq => hb q (.inr (.inl hq))), a9⟩
theorem KaJ.chX {w : World} {lo hi : Nat} {J : JP} {X : JX} {k : Nat} {h' : Int} {ix kv av : Value} (h : KaJ w lo hi J X k h' ix kv av) (h0 : k = 0) (X' : JX) : KaJ w lo hi J X' k h' ix kv av :=
  ⟨h.z, fun e => by omega, fun q hq => h.b q (by rcases hq with z | z | ⟨z, _⟩; exact .inl z; exact .inr (.inl z); omega), h.k⟩
theorem KaJ.shape {w : World} {lo hi : Nat} {J : JP} {X : JX} {k : Nat} {h' : Int} {ix kv av : Value} (h : KaJ w lo hi J X k h' ix kv av) : (∃ p n c, kv = .slice p n c) ∧ (∃ p n c, av = .slice p n c) ∧ ∃ a, ix = .pointer a := by
  rcases (by have := h.k; omega : k = 0 ∨ k = 1) with e | e
  · obtain ⟨a, b, c, d⟩ := h.z e
    obtain ⟨p, c', z⟩ := own_shape d
    exact ⟨⟨_, _, _, c⟩, ⟨_, _, _, z⟩, ⟨_, b⟩⟩
  · obtain ⟨a1, a2, a3, a4, a5, a6, a7, a8, a9⟩ := h.o e
    obtain ⟨p, c', z⟩ := own_shape a7
    obtain ⟨p2, c2, z2⟩ := own_shape a8
    exact ⟨⟨_, _, _, z⟩, ⟨_, _, _, z2⟩, ⟨_, a2⟩⟩
/-- The registers filled, the engine and the relation c, when k steps are laid out. -/
structure REJ (w : World) (FL : Nat) (J : JP) (X : JX) (k : Nat) : Prop where
  b : ∃ b, BoolAt w FL 3 b ∧ (k = 0 → ∀ x, b x = false) ∧ (k = 1 → ∀ x, b x = J.κ x)
  e : EngAt w J.E (if k = 2 then updV J.c 20 (.int .i64 1) else J.c)
  r : RelAt w J.rq J.nm (if k = 2 then { J.s with idx := .slice (some ⟨X.gi, 0, none⟩) 1 X.ci } else J.s)
theorem REJ.keep {w w' : World} {FL : Nat} {J : JP} {X : JX} {k : Nat} (h : REJ w FL J X k) (e1 : w'.heap[FL]? = w.heap[FL]?) (e2 : w'.heap[J.E]? = w.heap[J.E]?) (e3 : w'.heap[J.rq]? = w.heap[J.rq]?) : REJ w' FL J X k := by
  obtain ⟨b, hb⟩ := h.b
  exact ⟨⟨b, hb.1.blk e1, hb.2⟩, h.e.blk e2, h.r.blk e3⟩
theorem REJ.lt {w : World} {FL : Nat} {J : JP} {X : JX} {k : Nat} (h : REJ w FL J X k) : FL < w.heap.size ∧ J.E < w.heap.size ∧ J.rq < w.heap.size := by
  obtain ⟨b, hb⟩ := h.b
  exact ⟨World.block_lt_of_cell? _ _ (hb.1.c 0 (by omega)), h.e.lt, h.r.lt⟩
theorem StB.congr {w : World} {a : Nat} {v v' : Nat → Value} (h : StB w a v) (e : ∀ i, i < 8 → v i = v' i) : StB w a v' := ⟨fun i hi => by rw [← e i hi]; exact h.c i hi, h.fz⟩
theorem StB.fillI {w : World} {a : Nat} {v : Nat → Value} (h : StB w a v) (p how ix ky ac : Value) : StB ((((((((w.setCell ⟨a, 0, none⟩ (p)).setCell ⟨a, 1, none⟩ (.int .i64 0)).setCell ⟨a, 2, none⟩ (.int .u8 0)).setCell ⟨a, 3, none⟩ (how)).setCell ⟨a, 4, none⟩ (ix)).setCell ⟨a, 5, none⟩ (ky)).setCell ⟨a, 6, none⟩ (ac)).setCell ⟨a, 7, none⟩ (.slice none 0 0)) a (stI p how ix ky ac) := by
  refine (StB.congr ((((((((h.put (k := 0) (by omega) (p)).put (k := 1) (by omega) (.int .i64 0)).put (k := 2) (by omega) (.int .u8 0)).put (k := 3) (by omega) (how)).put (k := 4) (by omega) (ix)).put (k := 5) (by omega) (ky)).put (k := 6) (by omega) (ac)).put (k := 7) (by omega) (.slice none 0 0)) ?_)
  intro i hi
  rcases (by omega : i = 0 ∨ i = 1 ∨ i = 2 ∨ i = 3 ∨ i = 4 ∨ i = 5 ∨ i = 6 ∨ i = 7) with h | h | h | h | h | h | h | h <;> (subst h; rfl)
/-- Step k of the plan. -/
theorem stepJ {w : World} {PL FL k : Nat} {J : JP} {X : JX} (K : JOk J) (hk : k < 2) (h0 : w.cell? ⟨PL, 0, none⟩ = some (.pointer (some ⟨J.E, 0, none⟩))) (HR : RuX w J.ρ) (RE : REJ w FL J X k) (hd : FL ≠ PL ∧ FL ≠ J.E ∧ FL ≠ J.rq ∧ J.E ≠ PL ∧ J.E ≠ J.rq ∧ J.rq ≠ PL) (hρ : ∀ q, J.ρ.has q → q ≠ FL ∧ q ≠ J.E ∧ q ≠ J.rq) :
    Calls Tryz.prog 60 #[.pointer (some ⟨PL, 0, none⟩), .pointer (some ⟨J.ρ.gj, k * 3, none⟩), .int .u8 0, .slice (some ⟨FL, 0, none⟩) 3 3] w fun e w' => ∃ X' h ix kv av, e = .returned (.agg #[.pointer (some ⟨J.ρ.gj, k * 3, none⟩), .int .i64 0, .int .u8 0, .int .u8 h, ix, kv, av, .slice none 0 0]) ∧ KaJ w' w.heap.size w'.heap.size J X' k h ix kv av ∧ REJ w' FL J X' (k + 1) ∧ Ws (fun q => q = FL ∨ q = J.rq ∨ q = J.E) w w' := by
  obtain ⟨hd1, hd2, hd3, hd4, hd5, hd6⟩ := hd
  have hgj := hρ J.ρ.gj (.inr (.inl rfl))
  have hga := hρ (J.ρ.ga k) (.inr (.inr (.inr ⟨k, by rw [K.m]; exact hk, rfl⟩)))
  have HA := HR.atx (j := k) (by rw [K.m]; exact hk)
  obtain ⟨hFl, hEl, hrl⟩ := RE.lt
  obtain ⟨b, HB, hb0, hb1⟩ := RE.b
  have HE := RE.e
  have H := RE.r
  rw [if_neg (by omega)] at HE H
  rcases (by omega : k = 0 ∨ k = 1) with e | e
  · subst e
    rw [K.n0] at HA
    have hfR : ∀ t, t < 2 → J.ρ.u.F 0 t < 3 := fun t ht => by
      have := K.o
      rcases (by omega : t = 0 ∨ t = 1) with e | e
      · subst e; rw [K.f0.1]; omega
      · subst e; rw [K.f0.2]; omega
    refine (step_free h0 (HE.get K.c3 (by omega)) HA HB (fun t _ => hb0 rfl _) (fun t t' ht ht' he => ?_) hfR ⟨hd1, hd2, fun e => hgj.1 e.symm, fun e => hga.1 e.symm⟩ (by omega) (by omega)).mono ?_
    · have ho := K.o
      rcases (by omega : t = 0 ∨ t = 1) with e | e <;> rcases (by omega : t' = 0 ∨ t' = 1) with e' | e' <;> subst e <;> subst e'
      · rfl
      · rw [K.f0.1, K.f0.2] at he; omega
      · rw [K.f0.1, K.f0.2] at he; omega
      · rfl
    · rintro e w' ⟨av, rfl, own, B, W⟩
      refine ⟨X, 0, _, _, av, rfl, ⟨fun _ => ⟨rfl, rfl, rfl, own_base own (by omega)⟩, fun e => by omega, fun q hq => ?_, by omega⟩, ⟨⟨_, B, fun e => by omega, fun _ x => ?_⟩, ?_, ?_⟩, Ws.of_wr W (.inl rfl)⟩
      · rcases hq with z | z | ⟨z, _⟩
        · simp [Value.ownBlock] at z
        · have := own.lt q z; omega
        · omega
      · have h1 : fillF b (J.ρ.u.F 0) 2 x = true ↔ J.κ x = true := by
          rw [fillF_iff, hb0 rfl x]
          unfold JP.κ
          rw [decide_eq_true_eq]
          constructor
          · rintro (z | ⟨t, ht, z⟩)
            · cases z
            · rcases (by omega : t = 0 ∨ t = 1) with e | e
              · subst e; rw [K.f0.1] at z; exact .inl z.symm
              · subst e; rw [K.f0.2] at z; exact .inr z.symm
          · rintro (z | z)
            · exact .inr ⟨0, by omega, by rw [K.f0.1, z]⟩
            · exact .inr ⟨1, by omega, by rw [K.f0.2, z]⟩
        rcases hq : fillF b (J.ρ.u.F 0) 2 x with _ | _
        · rcases hq2 : J.κ x with _ | _
          · rfl
          · rw [h1.2 hq2] at hq; cases hq
        · exact (h1.1 hq).symm
      · rw [if_neg (by omega)]; exact HE.blk (W.block _ hEl (fun e => hd2 e.symm))
      · rw [if_neg (by omega)]; exact H.blk (W.block _ hrl (fun e => hd3 e.symm))
  · subst e
    rw [K.n1, K.rb] at HA
    obtain ⟨k1, k2, k3, k4, k5⟩ := K.kc
    refine (step_probe (K := 2) (U := 1) (cf := J.cf) (uf := fun _ => J.th) (κ := J.κ) h0 HE K.c3 K.c20 HA H K.ix HB (fun t ht => by rw [K.f1 t ht]; exact hb1 rfl t) (fun t t' ht ht' he => by rw [K.f1 t ht, K.f1 t' ht'] at he; exact he) (fun t ht => by rw [K.f1 t ht]; exact ht) k1 (by omega) (by omega) k2 k3 k4 k5 ⟨hd1, hd2, fun e => hgj.1 e.symm, fun e => hga.1 e.symm, hd3, hd4, fun e => hgj.2.1 e.symm, fun e => hga.2.1 e.symm, hd5, hd6, fun e => hgj.2.2 e.symm, fun e => hga.2.2 e.symm⟩ (by omega) (by omega)).mono ?_
    rintro e w' ⟨IX, gc, cc, gi, ci, kv, av, rfl, R', g', C', N', ⟨n1, n2, n3, n4, n5⟩, ok, oa, hne, ⟨b', B'⟩, E', W'⟩
    refine ⟨⟨IX, gc, cc, gi, ci⟩, 1, _, kv, av, rfl, ⟨fun e => by omega, fun _ => ⟨rfl, rfl, g', C', N', ⟨n4, n5⟩, own_base ok (by omega), own_base oa (by omega), hne⟩, fun q hq => ?_, by omega⟩, ⟨⟨b', B', fun e => by omega, fun e => by omega⟩, ?_, ?_⟩, W'⟩
    · rcases hq with z | z | ⟨_, z | z | z⟩
      · have := ok.lt q z; omega
      · have := oa.lt q z; omega
      · have : IX < w'.heap.size := World.block_lt_of_cell? _ _ N'.x1
        have z : q = IX := z
        omega
      · have : gc < w'.heap.size := World.block_lt_of_cell? _ _ (C'.c 0 (by omega))
        have z : q = gc := z
        omega
      · have : gi < w'.heap.size := World.block_lt_of_cell? _ _ g'
        have z : q = gi := z
        omega
    · rw [if_pos rfl]; exact E'
    · rw [if_pos rfl]; exact R'
end Go.Proofs.Qxb6500880aGreat
