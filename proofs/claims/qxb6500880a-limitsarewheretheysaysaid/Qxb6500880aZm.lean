import Derived.Deep.CutBlock
import Derived.OwnWalk
import Derived.Maps.AppendAt
import Derived.Maps.OwnSet
import Derived.Maps.OwnOps
import Derived.Laws.ResultCell
import Derived.Test.Qxb6500880aZl
set_option linter.unusedVariables false
set_option linter.unusedSimpArgs false
namespace Go.Proofs.Qxb6500880a
open Go.RowKit

/-- What a run of a plan is about. -/
structure Rt where
  E : Nat
  GR : Nat
  GC : Nat
  P : Nat
  lo : Nat
  gs : Nat
  cs : Nat
  ky : Nat → Value
  ac : Nat → Value
  kn : Nat → Bool
  nm : ByteArray
  s : RelS
  f : Nat → Int
/-- The blocks that a run only reads. -/
def Rt.fix (τ : Rt) (ρ : Rl) (q : Nat) : Prop := ρ.has q ∨ q = τ.GR ∨ q = τ.P ∨ (q = τ.gs ∨ ∃ j, j < ρ.m ∧ ((τ.ky j).ownBlock = some q ∨ (τ.ac j).ownBlock = some q)) ∨ τ.s.data.ownBlock = some q ∨ τ.s.slots.ownBlock = some q ∨ q = ρ.rb
structure Enw (w : World) (ρ : Rl) (τ : Rt) : Prop where
  ru : RuX w ρ
  pl : PlI w τ.P τ.lo ρ τ.kn ρ.m (.slice (some ⟨τ.gs, 0, none⟩) ρ.m τ.cs) τ.ky τ.ac
  st : ∀ k, k < ρ.m → StX w τ.gs k ρ (τ.kn k) (τ.ky k) (τ.ac k)
  rz : RegZ w τ.GR ρ.R
  rel : RelAt w ρ.rb τ.nm τ.s
  dz : SymZ w τ.s.data ρ.n
  sl : SlotAt w τ.s.slots τ.f
structure EnvC (ρ : Rl) (τ : Rt) : Prop where
  kn : RlK ρ τ.kn
  cu : τ.s.cur = 1
  ro : τ.s.rows = 1
  A : τ.s.A = ρ.n
  f1 : τ.f (slotZ ρ.n) = 1
  hm : ρ.m ≤ 100
  hn : ρ.n ≤ 100
  hR : ρ.R ≤ 1000
  n0 : 0 < ρ.n
  m0 : 0 < ρ.m
  cs : ρ.m ≤ τ.cs
  d1 : τ.GC ≠ τ.E
  d2 : τ.GC ≠ ρ.hb
  d3 : τ.E ≠ ρ.hb
  fx : ∀ q, τ.fix ρ q → q ≠ τ.GC ∧ q ≠ τ.E ∧ q ≠ ρ.hb
theorem SymZ.keep {w w' : World} {v : Value} {n : Nat} (h : SymZ w v n) (hk : ∀ q, v.ownBlock = some q → q < w.heap.size → w'.heap[q]? = w.heap[q]?) : SymZ w' v n := by
  obtain ⟨p, c, rfl, hc, h⟩ := h
  refine ⟨p, c, rfl, hc, ?_⟩
  rcases h with h | ⟨g, off, rfl, h⟩
  · exact .inl h
  · refine .inr ⟨g, off, rfl, fun j hj => ?_⟩
    exact (World.cell?_of_block (a := ⟨g, off + j, none⟩) (hk g rfl (World.block_lt_of_cell? _ _ (h j hj)))).trans (h j hj)
theorem SlotAt.keep {w w' : World} {v : Value} {f : Nat → Int} (h : SlotAt w v f) (hk : ∀ q, v.ownBlock = some q → q < w.heap.size → w'.heap[q]? = w.heap[q]?) : SlotAt w' v f := by
  obtain ⟨g, rfl, h, hf⟩ := h
  have e := hk g rfl (World.block_lt_of_cell? _ _ (h 0 (by omega)))
  exact ⟨g, rfl, fun j hj => (World.cell?_of_block (a := ⟨g, j, none⟩) e).trans (h j hj), fun o => (World.frozen?_of_block (a := ⟨g, o, none⟩) e).trans (hf o)⟩
theorem Enw.keep {w w' : World} {ρ : Rl} {τ : Rt} (h : Enw w ρ τ) (c : EnvC ρ τ) (hk : ∀ q, τ.fix ρ q → q < w.heap.size → w'.heap[q]? = w.heap[q]?) : Enw w' ρ τ := by
  have hg : τ.gs < w.heap.size := World.block_lt_of_cell? _ _ (h.st 0 c.m0).s0
  refine ⟨h.ru.keep (fun q hq => hk q (.inl hq) (h.ru.lt hq)), h.pl.keep (fun q hq => ?_), fun k hk' => (h.st k hk').blk (hk τ.gs (.inr (.inr (.inr (.inl (.inl rfl))))) hg), h.rz.blk (hk _ (.inr (.inl rfl)) ?_), h.rel.blk (hk _ (.inr (.inr (.inr (.inr (.inr (.inr rfl)))))) h.rel.lt), h.dz.keep (fun q hq hl => hk q (.inr (.inr (.inr (.inr (.inl hq))))) hl), h.sl.keep (fun q hq hl => hk q (.inr (.inr (.inr (.inr (.inr (.inl hq)))))) hl)⟩
  · have := (h.pl.lt hq).2
    rcases hq with e | e | e
    · exact hk q (.inr (.inr (.inl e))) this
    · exact hk q (.inr (.inr (.inr (.inl (.inl (own_blk e).symm))))) this
    · exact hk q (.inr (.inr (.inr (.inl (.inr e))))) this
  · exact World.block_lt_of_cell? _ _ (h.rz.c _ (h.ru.r 0 0 c.m0 c.n0))
theorem Enw.ws {w w' : World} {ρ : Rl} {τ : Rt} (h : Enw w ρ τ) (c : EnvC ρ τ) (W : Ws (fun q => q = τ.GC ∨ q = τ.E ∨ q = ρ.hb) w w') : Enw w' ρ τ :=
  h.keep c (fun q hq hl => W.block q hl (fun e => by have := c.fx q hq; rcases e with e | e | e; exact this.1 e; exact this.2.1 e; exact this.2.2 e))
def updC (cu : Nat → Option Int) (k : Nat) (r : Option Int) : Nat → Option Int := fun j => if j = k then r else cu j
/-- The engine while a plan is run. -/
structure Dyn (w : World) (ρ : Rl) (τ : Rt) (c : Nat → Value) (cu : Nat → Option Int) : Prop where
  env : Enw w ρ τ
  eng : EngAt w τ.E c
  r21 : c 21 = .slice (some ⟨τ.GR, 0, none⟩) ρ.R ρ.R
  r22 : c 22 = .slice (some ⟨τ.GC, 0, none⟩) ρ.m ρ.m
  cN : ∀ k, k < ρ.m → cu k = none → CurN w τ.GC k
  cO : ∀ k, k < ρ.m → ∀ r, cu k = some r → CurO w τ.GC k r
  cf : ∀ o, w.frozen? ⟨τ.GC, o, none⟩ = false
theorem Dyn.glt {w : World} {ρ : Rl} {τ : Rt} {c : Nat → Value} {cu : Nat → Option Int} (h : Dyn w ρ τ c cu) (C : EnvC ρ τ) : τ.GC < w.heap.size := by
  cases e : cu 0
  · exact World.block_lt_of_cell? _ _ (h.cN 0 C.m0 e).c0
  · exact World.block_lt_of_cell? _ _ (h.cO 0 C.m0 _ e).c0
/-- A write of cursor k. -/
theorem Dyn.cur {w w' : World} {ρ : Rl} {τ : Rt} {c : Nat → Value} {cu : Nat → Option Int} {k : Nat} {r : Int} (h : Dyn w ρ τ c cu) (C : EnvC ρ τ) (hc : CurO w' τ.GC k r) (hj : ∀ j, j ≠ k → ∀ i, i < 6 → w'.cell? ⟨τ.GC, j * 6 + i, none⟩ = w.cell? ⟨τ.GC, j * 6 + i, none⟩) (cf : ∀ o, w'.frozen? ⟨τ.GC, o, none⟩ = false) (W : Wr τ.GC w w') : Dyn w' ρ τ c (updC cu k (some r)) := by
  refine ⟨h.env.ws C (Ws.of_wr W (.inl rfl)), h.eng.blk (W.block _ h.eng.lt (fun e => C.d1 e.symm)), h.r21, h.r22, fun j hjm e => ?_, fun j hjm r' e => ?_, cf⟩
  · unfold updC at e
    by_cases q : j = k
    · rw [if_pos q] at e; simp at e
    · rw [if_neg q] at e
      have z := h.cN j hjm e
      have y := hj j q
      exact ⟨(y 0 (by omega)).trans z.c0, (y 1 (by omega)).trans z.c1, (y 2 (by omega)).trans z.c2, (y 3 (by omega)).trans z.c3, (y 4 (by omega)).trans z.c4, (y 5 (by omega)).trans z.c5⟩
  · unfold updC at e
    by_cases q : j = k
    · rw [if_pos q] at e
      have : r = r' := by simpa using e
      subst this
      subst q
      exact hc
    · rw [if_neg q] at e
      have z := h.cO j hjm r' e
      have y := hj j q
      exact ⟨(y 0 (by omega)).trans z.c0, (y 1 (by omega)).trans z.c1, (y 2 (by omega)).trans z.c2, (y 4 (by omega)).trans z.c4⟩
theorem Dyn.below {w w' : World} {ρ : Rl} {τ : Rt} {c : Nat → Value} {cu : Nat → Option Int} (h : Dyn w ρ τ c cu) (C : EnvC ρ τ) (b : Below w.heap.size w w') : Dyn w' ρ τ c cu := by
  have e := b.block τ.GC (h.glt C)
  exact ⟨h.env.ws C (Ws.of_below b), h.eng.below b, h.r21, h.r22, fun j hj q => (h.cN j hj q).blk e, fun j hj r q => (h.cO j hj r q).blk e, fun o => (World.frozen?_of_block (a := ⟨τ.GC, o, none⟩) e).trans (h.cf o)⟩
/-- A write of a cell of the engine. -/
theorem Dyn.put {w : World} {ρ : Rl} {τ : Rt} {c : Nat → Value} {cu : Nat → Option Int} (h : Dyn w ρ τ c cu) (C : EnvC ρ τ) {o : Nat} (ho : o < 24) (h1 : o ≠ 21) (h2 : o ≠ 22) (v : Value) : Dyn (w.setCell ⟨τ.E, o, none⟩ v) ρ τ (updV c o v) cu := by
  have e : (w.setCell ⟨τ.E, o, none⟩ v).heap[τ.GC]? = w.heap[τ.GC]? := far_set C.d1
  exact ⟨h.env.ws C ((Ws.refl _ _).set (.inl (.inr (.inl rfl)))), h.eng.put ho v, (updV_other c v (by omega)).trans h.r21, (updV_other c v (by omega)).trans h.r22, fun j hj q => (h.cN j hj q).blk e, fun j hj r q => (h.cO j hj r q).blk e, fun o => (World.frozen?_setCell _ _ _ _).trans (h.cf o)⟩
theorem EnvC.gsne {ρ : Rl} {τ : Rt} (C : EnvC ρ τ) : τ.GC ≠ τ.gs := fun e => (C.fx τ.gs (.inr (.inr (.inr (.inl (.inl rfl)))))).1 e.symm
theorem EnvC.kone {ρ : Rl} {τ : Rt} (C : EnvC ρ τ) {k q : Nat} (hk : k < ρ.m) (h : (τ.ky k).ownBlock = some q) : τ.GC ≠ q := fun e => (C.fx q (.inr (.inr (.inr (.inl (.inr ⟨k, hk, .inl h⟩)))))).1 e.symm
theorem open_any {w : World} {ρ : Rl} {τ : Rt} {c : Nat → Value} {cu : Nat → Option Int} {k : Nat} (h : Dyn w ρ τ c cu) (C : EnvC ρ τ) (hk : k < ρ.m) (hc : cu k = none) :
    Calls Try.prog 60 #[.pointer (some ⟨τ.E, 0, none⟩), .pointer (some ⟨τ.gs, k * 8, none⟩), .pointer (some ⟨τ.GC, k * 6, none⟩)] w fun e w' => e = .returned (.tuple #[]) ∧ Dyn w' ρ τ c (updC cu k (some 0)) ∧ Wr τ.GC w w' := by
  have St := h.env.st k hk
  have KA := h.env.pl.ka k hk
  have j0 := (h.env.ru.j k hk).1
  have hE := h.eng.get h.r21 (by omega)
  have hGR : τ.GC ≠ τ.GR := fun e => (C.fx τ.GR (.inr (.inl rfl))).1 e.symm
  have hm := C.hm
  cases hkn : τ.kn k
  · rw [hkn] at St KA
    obtain ⟨e5, own⟩ := KA.f rfl
    rw [e5] at St
    refine (open_scan St j0 h.env.rel C.cu hE h.env.rz (h.cN k hk hc) h.cf ⟨C.gsne, C.d1, hGR⟩ C.hR (by omega)).mono ?_
    rintro e w' ⟨rfl, c1, c2, c3, W⟩
    exact ⟨rfl, h.cur C c1 c2 c3 W, W⟩
  · rw [hkn] at St KA
    obtain ⟨g, cq, e5, hg, _, HO⟩ := KA.ops
    rw [e5] at St
    have hn1 := C.kn.b k hkn
    have hA := C.A
    have hd := h.env.dz
    have hf := C.f1
    rw [hn1] at hA hd hf
    refine (open_lookup St HO (h.env.ru.r k 0 hk C.n0) C.ro hA hd (fun e => (C.fx τ.GC (.inr (.inr (.inr (.inr (.inl e)))))).1 rfl) h.env.sl (fun e => (C.fx τ.GC (.inr (.inr (.inr (.inr (.inr (.inl e))))))).1 rfl) hf j0 h.env.rel C.cu hE h.env.rz (h.cN k hk hc) h.cf ⟨C.gsne, C.d1, hGR, C.kone hk (by rw [e5]; rfl), fun e => (C.fx ρ.rb (.inr (.inr (.inr (.inr (.inr (.inr rfl))))))).1 e.symm⟩ C.hR (by omega)).mono ?_
    rintro e w' ⟨rfl, c1, c2, c3, W⟩
    exact ⟨rfl, h.cur C c1 c2 c3 W, W⟩
def doneV (kn : Bool) : Int := if kn then -1 else 1
theorem cand_new {w : World} {ρ : Rl} {τ : Rt} {c : Nat → Value} {cu : Nat → Option Int} {k : Nat} (h : Dyn w ρ τ c cu) (C : EnvC ρ τ) (hk : k < ρ.m) (hc : cu k = some 0) :
    Calls Try.prog 75 #[.pointer (some ⟨τ.E, 0, none⟩), .pointer (some ⟨τ.gs, k * 8, none⟩), .pointer (some ⟨τ.GC, k * 6, none⟩)] w fun e w' => e = .returned (.tuple #[.int .i64 0, .bool true]) ∧ Dyn w' ρ τ c (updC cu k (some (doneV (τ.kn k)))) ∧ Wr τ.GC w w' := by
  have St := h.env.st k hk
  have hm := C.hm
  cases hkn : τ.kn k
  · rw [hkn] at St
    refine (cand_scan St (h.cO k hk 0 hc) h.cf C.gsne (by omega)).mono ?_
    rintro e w' ⟨rfl, c1, c2, c3, W⟩
    exact ⟨rfl, h.cur C c1 c2 c3 W, W⟩
  · rw [hkn] at St
    refine (cand_look St (h.cO k hk 0 hc) h.cf C.gsne (by omega)).mono ?_
    rintro e w' ⟨rfl, c1, c2, c3, W⟩
    exact ⟨rfl, h.cur C c1 c2 c3 W, W⟩
theorem updC_same {cu : Nat → Option Int} {k : Nat} {r : Option Int} (h : cu k = r) : updC cu k r = cu := by
  funext j
  unfold updC
  split
  · rename_i e; rw [e, h]
  · rfl
theorem cand_end {w : World} {ρ : Rl} {τ : Rt} {c : Nat → Value} {cu : Nat → Option Int} {k : Nat} (h : Dyn w ρ τ c cu) (C : EnvC ρ τ) (hk : k < ρ.m) (hc : cu k = some (doneV (τ.kn k))) :
    Calls Try.prog 75 #[.pointer (some ⟨τ.E, 0, none⟩), .pointer (some ⟨τ.gs, k * 8, none⟩), .pointer (some ⟨τ.GC, k * 6, none⟩)] w fun e w' => (∃ r, e = .returned (.tuple #[.int .i64 r, .bool false])) ∧ Dyn w' ρ τ c cu ∧ Wr τ.GC w w' := by
  have St := h.env.st k hk
  have hm := C.hm
  cases hkn : τ.kn k
  · rw [hkn] at St hc
    refine (cand_scan_end St (h.cO k hk 1 hc) h.cf C.gsne (by omega)).mono ?_
    rintro e w' ⟨rfl, c1, c2, c3, W⟩
    have := h.cur C c1 c2 c3 W
    rw [updC_same (show cu k = some 1 from hc)] at this
    exact ⟨⟨_, rfl⟩, this, W⟩
  · rw [hkn] at St hc
    refine (cand_look_end St (h.cO k hk (-1) hc) h.cf C.gsne (by omega)).mono ?_
    rintro e w' ⟨rfl, c1, c2, c3, W⟩
    have := h.cur C c1 c2 c3 W
    rw [updC_same (show cu k = some (-1) from hc)] at this
    exact ⟨⟨_, rfl⟩, this, W⟩
theorem fits_any {w : World} {ρ : Rl} {τ : Rt} {c : Nat → Value} {cu : Nat → Option Int} {k : Nat} (h : Dyn w ρ τ c cu) (C : EnvC ρ τ) (hk : k < ρ.m) :
    Calls Try.prog 76 #[.pointer (some ⟨τ.E, 0, none⟩), .pointer (some ⟨τ.gs, k * 8, none⟩), .int .i64 0] w fun e w' => e = .returned (.bool true) ∧ Below w.heap.size w w' := by
  have St := h.env.st k hk
  have KA := h.env.pl.ka k hk
  have j0 := (h.env.ru.j k hk).1
  have hE := h.eng.get h.r21 (by omega)
  have hA := C.A
  have hn := C.hn
  cases hkn : τ.kn k
  · rw [hkn] at St KA
    obtain ⟨g, ca, e6, _, _, _, HA⟩ := KA.acts C.n0
    rw [e6] at St
    exact fits_free St HA j0 h.env.rel C.A h.env.dz hE h.env.rz (fun t ht => h.env.ru.r k t hk ht) C.n0 C.hn C.hR
  · rw [hkn] at St KA
    rw [(KA.t rfl).2] at St
    exact fits_known St j0 h.env.rel (by rw [hA]; exact h.env.dz) (by omega)
set_option maxRecDepth 20000 in
set_option maxHeartbeats 8000000 in
theorem advance_end {w : World} {ρ : Rl} {τ : Rt} {c : Nat → Value} {cu : Nat → Option Int} {k : Nat} (h : Dyn w ρ τ c cu) (C : EnvC ρ τ) (hk : k < ρ.m) (hc : cu k = some (doneV (τ.kn k))) :
    Calls Try.prog 61 #[.pointer (some ⟨τ.E, 0, none⟩), .pointer (some ⟨τ.gs, k * 8, none⟩), .pointer (some ⟨τ.GC, k * 6, none⟩)] w fun e w' => e = .returned (.bool false) ∧ Dyn w' ρ τ c cu ∧ Wr τ.GC w w' := by
  have hcd := cand_end h C hk hc
  clear h C hc
  go_enter Try.func61, Try.ntmps61
  go_wp2_with fail
  go_loopg [] 0 (fun gg wr => wr = w)
  case atStart => exact rfl
  case round =>
    subst hrel
    go_wp2_with fail
    refine hcd.mono ?_
    rintro e w1 ⟨⟨r, rfl⟩, h1⟩
    have H1 := hideIt h1
    clear h1 hcd
    go_wp2
    go_ret
    exact ⟨rfl, H1.out⟩
set_option maxRecDepth 20000 in
set_option maxHeartbeats 8000000 in
theorem advance_new {w : World} {ρ : Rl} {τ : Rt} {c : Nat → Value} {cu : Nat → Option Int} {k v : Nat} (h : Dyn w ρ τ c cu) (C : EnvC ρ τ) (hk : k < ρ.m) (hc : cu k = some 0) (h19 : c 19 = .int .i64 (v : Int)) (hv : v ≤ 1000) :
    Calls Try.prog 61 #[.pointer (some ⟨τ.E, 0, none⟩), .pointer (some ⟨τ.gs, k * 8, none⟩), .pointer (some ⟨τ.GC, k * 6, none⟩)] w fun e w' => e = .returned (.bool true) ∧ Dyn w' ρ τ (updV c 19 (.int .i64 ((v + 1 : Nat) : Int))) (updC cu k (some (doneV (τ.kn k)))) ∧ Ws (fun q => q = τ.GC ∨ q = τ.E) w w' := by
  have hcd := cand_new h C hk hc
  have HC := hideIt C
  clear h hc C
  go_enter Try.func61, Try.ntmps61
  go_wp2_with fail
  go_loopg [] 0 (fun gg wr => wr = w)
  case atStart => exact rfl
  case round =>
    have ew := hrel.symm
    subst ew
    go_wp2_with fail
    refine hcd.mono ?_
    rintro e w1 ⟨rfl, D1, W1⟩
    have C := HC.out
    have e19 := D1.eng.get h19 (by omega)
    have ef := D1.eng.fz
    have H1 := hideIt (And.intro D1 W1)
    clear hcd C D1 W1
    go_upto_region 5 with fail
    obtain ⟨D1, W1⟩ := H1.out
    have C := HC.out
    obtain ⟨v', hv'⟩ : ∃ v' : Int, (v : Int) + 1 = v' := ⟨_, rfl⟩
    rw [hv']
    have HV := hideIt hv'
    clear hv'
    have D2 := D1.put C (o := 19) (by omega) (by omega) (by omega) (.int .i64 v')
    have W2 : Ws (fun q => q = τ.GC ∨ q = τ.E) w (w1.setCell ⟨τ.E, 19, none⟩ (.int .i64 v')) := (Ws.of_wr W1 (.inl rfl)).set (.inl (.inr rfl))
    clear D1 W1 e19 ef H1
    generalize w1.setCell ⟨τ.E, 19, none⟩ (.int .i64 v') = w2 at *
    have hfi := fits_any D2 C hk
    have H2 := hideIt (And.intro D2 W2)
    clear D2 W2 C
    go_wp2_with fail
    refine hfi.mono ?_
    rintro e w3 ⟨rfl, b3⟩
    obtain ⟨D2, W2⟩ := H2.out
    have C := HC.out
    have D3 := D2.below C b3
    have W3 := W2.below b3
    have cO := (D3.cO k hk _ (if_pos rfl)).c4
    have cf := D3.cf
    have H3 := hideIt (And.intro D3 W3)
    clear D2 W2 C D3 W3 b3 hfi H2
    go_wp2
    go_ret
    obtain ⟨D3, W3⟩ := H3.out
    rw [setCell_self cO]
    refine ⟨rfl, ?_, W3⟩
    have e : ((v + 1 : Nat) : Int) = v' := by rw [← HV.out]; rfl
    rw [e]
    exact D3
end Go.Proofs.Qxb6500880a
