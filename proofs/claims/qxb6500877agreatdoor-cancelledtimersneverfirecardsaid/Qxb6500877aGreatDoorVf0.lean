import Derived.Test.Qxb6500877aGreatDoorVe0
set_option linter.unusedVariables false
set_option linter.unusedSimpArgs false
namespace Go.Proofs.Qxb6500877aGreatDoor
open Go.RowKit

/-- The fifteen cells of a result. -/
structure RgAt (w : World) (b : Nat) (c co tk tm : Int) (hm : Bool) (m : MsgV) (p : Option Addr) (a n : Nat) : Prop where
  c0 : w.cell? ⟨b, 0, none⟩ = some (.int .i64 c)
  c1 : w.cell? ⟨b, 1, none⟩ = some (.int .i64 co)
  c2 : w.cell? ⟨b, 2, none⟩ = some (.int .i64 tk)
  c3 : w.cell? ⟨b, 3, none⟩ = some (.int .u64 tm)
  c4 : w.cell? ⟨b, 4, none⟩ = some (.bool hm)
  m0 : w.cell? ⟨b, 5, none⟩ = some (.int .i64 m.mf)
  m1 : w.cell? ⟨b, 6, none⟩ = some (.int .i64 m.mt)
  m2 : w.cell? ⟨b, 7, none⟩ = some (.int .u32 m.md)
  m3 : w.cell? ⟨b, 8, none⟩ = some (.int .u64 m.mq)
  m4 : w.cell? ⟨b, 9, none⟩ = some (.int .u64 m.ma)
  m5 : w.cell? ⟨b, 10, none⟩ = some (.int .u64 m.x0)
  m6 : w.cell? ⟨b, 11, none⟩ = some (.int .u64 m.x1)
  m7 : w.cell? ⟨b, 12, none⟩ = some (.int .u64 m.x2)
  m8 : w.cell? ⟨b, 13, none⟩ = some (.int .u64 m.x3)
  c14 : w.cell? ⟨b, 14, none⟩ = some (.slice p a n)
theorem RgAt.blk {w w' : World} {b : Nat} {c co tk tm : Int} {hm : Bool} {m : MsgV} {p : Option Addr} {a n : Nat} (h : RgAt w b c co tk tm hm m p a n) (e : w'.heap[b]? = w.heap[b]?) : RgAt w' b c co tk tm hm m p a n :=
  ⟨(World.cell?_of_block (a := ⟨b, 0, none⟩) e).trans h.c0, (World.cell?_of_block (a := ⟨b, 1, none⟩) e).trans h.c1, (World.cell?_of_block (a := ⟨b, 2, none⟩) e).trans h.c2, (World.cell?_of_block (a := ⟨b, 3, none⟩) e).trans h.c3, (World.cell?_of_block (a := ⟨b, 4, none⟩) e).trans h.c4, (World.cell?_of_block (a := ⟨b, 5, none⟩) e).trans h.m0, (World.cell?_of_block (a := ⟨b, 6, none⟩) e).trans h.m1, (World.cell?_of_block (a := ⟨b, 7, none⟩) e).trans h.m2, (World.cell?_of_block (a := ⟨b, 8, none⟩) e).trans h.m3, (World.cell?_of_block (a := ⟨b, 9, none⟩) e).trans h.m4, (World.cell?_of_block (a := ⟨b, 10, none⟩) e).trans h.m5, (World.cell?_of_block (a := ⟨b, 11, none⟩) e).trans h.m6, (World.cell?_of_block (a := ⟨b, 12, none⟩) e).trans h.m7, (World.cell?_of_block (a := ⟨b, 13, none⟩) e).trans h.m8, (World.cell?_of_block (a := ⟨b, 14, none⟩) e).trans h.c14⟩
theorem RgAt.lt {w : World} {b : Nat} {c co tk tm : Int} {hm : Bool} {m : MsgV} {p : Option Addr} {a n : Nat} (h : RgAt w b c co tk tm hm m p a n) : b < w.heap.size := World.block_lt_of_cell? _ _ h.c0
theorem rg_new (w : World) (c co tk tm : Int) (hm : Bool) (m : MsgV) (p : Option Addr) (a n : Nat) (t : TypeId) : RgAt (w.alloc (.cells #[.int .i64 c, .int .i64 co, .int .i64 tk, .int .u64 tm, .bool hm, .int .i64 m.mf, .int .i64 m.mt, .int .u32 m.md, .int .u64 m.mq, .int .u64 m.ma, .int .u64 m.x0, .int .u64 m.x1, .int .u64 m.x2, .int .u64 m.x3, .slice p a n] t)) w.heap.size c co tk tm hm m p a n := by
  refine ⟨?_, ?_, ?_, ?_, ?_, ?_, ?_, ?_, ?_, ?_, ?_, ?_, ?_, ?_, ?_⟩ <;> simp
/-- The five cells of a timer that went off. -/
structure F5 (w : World) (b o : Nat) (e : FiredS) : Prop where
  c0 : w.cell? ⟨b, o, none⟩ = some (.int .u64 e.id)
  c1 : w.cell? ⟨b, o + 1, none⟩ = some (.int .i64 e.core)
  c2 : w.cell? ⟨b, o + 2, none⟩ = some (.int .u64 e.dl)
  c3 : w.cell? ⟨b, o + 3, none⟩ = some (.int .u64 e.ck)
  c4 : w.cell? ⟨b, o + 4, none⟩ = some (.int .u64 e.t)
theorem F5.blk {w w' : World} {b o : Nat} {e : FiredS} (h : F5 w b o e) (q : w'.heap[b]? = w.heap[b]?) : F5 w' b o e :=
  ⟨(World.cell?_of_block (a := ⟨b, o, none⟩) q).trans h.c0, (World.cell?_of_block (a := ⟨b, o + 1, none⟩) q).trans h.c1, (World.cell?_of_block (a := ⟨b, o + 2, none⟩) q).trans h.c2, (World.cell?_of_block (a := ⟨b, o + 3, none⟩) q).trans h.c3, (World.cell?_of_block (a := ⟨b, o + 4, none⟩) q).trans h.c4⟩
theorem f5_new (w : World) (e : FiredS) (t : TypeId) : F5 (w.alloc (.cells #[.int .u64 e.id, .int .i64 e.core, .int .u64 e.dl, .int .u64 e.ck, .int .u64 e.t] t)) w.heap.size 0 e := by
  refine ⟨?_, ?_, ?_, ?_, ?_⟩ <;> simp
def f5c (e : FiredS) : List Value := [.int .u64 e.id, .int .i64 e.core, .int .u64 e.dl, .int .u64 e.ck, .int .u64 e.t]
theorem firedCells_get : ∀ (l : List FiredS) (j q : Nat), q < 5 → (firedCells l)[j * 5 + q]? = (l[j]?).bind (fun m => (f5c m)[q]?)
  | [], j, q, _ => by simp [firedCells]
  | m :: l, 0, q, hq => by
    have : q = 0 ∨ q = 1 ∨ q = 2 ∨ q = 3 ∨ q = 4 := by omega
    rcases this with rfl | rfl | rfl | rfl | rfl <;> rfl
  | m :: l, j + 1, q, hq => by
    have h := firedCells_get l j q hq
    have e : firedCells (m :: l) = f5c m ++ firedCells l := by simp [firedCells, f5c]
    have e9 : (f5c m).length = 5 := rfl
    rw [e, List.getElem?_append_right (by rw [e9]; omega), e9, show (j + 1) * 5 + q - 5 = j * 5 + q by omega, h]
    rfl
theorem addr_add0 (g n : Nat) : (⟨g, 0, none⟩ : Addr).add n = ⟨g, n, none⟩ := by
  cases n with
  | zero => rfl
  | succ n => simp [Addr.add]
/-- The timers that went off lie in block g. -/
def FA (w : World) (g : Nat) (l : List FiredS) : Prop := ∀ j e, l[j]? = some e → F5 w g (j * 5) e
theorem FA.blk {w w' : World} {g : Nat} {l : List FiredS} (h : FA w g l) (q : w'.heap[g]? = w.heap[g]?) : FA w' g l := fun j e hj => (h j e hj).blk q
/-- A slice of them. -/
def FS (w : World) (base : Nat) (p : Option Addr) (cap : Nat) (l : List FiredS) : Prop := l = [] ∨ ∃ g, p = some ⟨g, 0, none⟩ ∧ base ≤ g ∧ g < w.heap.size ∧ FA w g l ∧ l.length ≤ cap ∧ cap ≤ maxLen
theorem FS.keep {w w' : World} {base cap : Nat} {p : Option Addr} {l : List FiredS} (h : FS w base p cap l) (hs : w.heap.size ≤ w'.heap.size) (hk : ∀ q, base ≤ q → q < w.heap.size → w'.heap[q]? = w.heap[q]?) : FS w' base p cap l := by
  rcases h with h | ⟨g, h1, h2, h3, h4, h5⟩
  · exact .inl h
  · exact .inr ⟨g, h1, h2, by omega, h4.blk (hk g h2 h3), h5⟩
theorem fired_in {w : World} {base : Nat} {p : Option Addr} {a cap : Nat} {l : List FiredS} (h : FiredAt w base (.slice p a cap) l) : a = l.length ∧ FS w base p cap l := by
  have hlt := World.ownsRow.lt h
  have hc := fun g e => World.ownsRow.cells (g := g) h e
  rcases h.2 with ⟨e1, e2⟩ | ⟨g, cap', cur, e1, e2, e3, e4, e5, _⟩
  · cases e1
    exact ⟨e2.symm, .inl (List.eq_nil_of_length_eq_zero e2)⟩
  · injection e1 with q1 q2 q3
    subst q1 q2 q3
    refine ⟨rfl, .inr ⟨g, rfl, e2, (hlt g rfl).2, fun j e hj => ?_, e4, e5⟩⟩
    have hx : ∀ q u, q < 5 → (f5c e)[q]? = some u → w.cell? ⟨g, j * 5 + q, none⟩ = some u := fun q u hq hu => by
      have := hc g rfl (j * 5 + q) u (by rw [firedCells_get l j q hq, hj]; exact hu)
      rw [addr_add0] at this
      exact this
    exact ⟨hx 0 _ (by omega) rfl, hx 1 _ (by omega) rfl, hx 2 _ (by omega) rfl, hx 3 _ (by omega) rfl, hx 4 _ (by omega) rfl⟩
/-- The pending timers without those of l. -/
def drops (τ : Int → Option TmV) (l : List FiredS) : Int → Option TmV := fun id => if id ∈ l.map (·.id) then none else τ id
theorem drops_nil (τ : Int → Option TmV) : drops τ [] = τ := by funext id; simp [drops]
theorem drops_snoc (τ : Int → Option TmV) (l : List FiredS) (e : FiredS) : updT (drops τ l) e.id none = drops τ (l ++ [e]) := by
  funext id
  unfold updT drops
  by_cases h : id = e.id
  · simp [h]
  · by_cases h2 : id ∈ l.map (·.id)
    · rw [if_neg h, if_pos h2, if_pos (by rw [List.map_append]; exact List.mem_append_left _ h2)]
    · rw [if_neg h, if_neg h2, if_neg (fun q => by
        rw [List.map_append] at q
        rcases List.mem_append.1 q with q | q
        · exact h2 q
        · simp at q; exact h q)]
theorem drops_all {τ τ' : Int → Option TmV} {til ft : Nat} {l : List FiredS} (A : AdvR τ τ' til ft l) : drops τ l = τ' := by
  funext id
  unfold drops
  by_cases h : id ∈ l.map (·.id)
  · rw [if_pos h]
    obtain ⟨e, he, rfl⟩ := List.mem_map.1 h
    cases hq : τ' e.id with
    | none => rfl
    | some v => exact absurd rfl (((A.rest _ _).1 hq).2 e he)
  · rw [if_neg h]
    have hn : ∀ e ∈ l, e.id ≠ id := fun e he q => h (q ▸ List.mem_map_of_mem he)
    cases hq : τ id with
    | none =>
      cases hr : τ' id with
      | none => rfl
      | some v => rw [((A.rest _ _).1 hr).1] at hq; simp at hq
    | some v => exact ((A.rest id v).2 ⟨hq, hn⟩).symm
theorem AdvR.before {τ τ' : Int → Option TmV} {til ft : Nat} {l : List FiredS} (A : AdvR τ τ' til ft l) {i j : Nat} {p e : FiredS} (hij : i < j) (hi : l[i]? = some p) (hj : l[j]? = some e) : p.dl < e.dl ∨ (p.dl = e.dl ∧ p.id < e.id) := by
  obtain ⟨h1, e1⟩ := List.getElem?_eq_some_iff.1 hi
  obtain ⟨h2, e2⟩ := List.getElem?_eq_some_iff.1 hj
  have := List.pairwise_iff_getElem.1 A.fs i j h1 h2 hij
  rw [e1, e2] at this
  exact this
theorem drops_at {τ τ' : Int → Option TmV} {til ft : Nat} {l : List FiredS} (A : AdvR τ τ' til ft l) {j : Nat} {e : FiredS} (hj : l[j]? = some e) : drops τ (l.take j) e.id = some ⟨e.core, e.dl, e.ck⟩ := by
  have he := (A.fin e (List.mem_of_getElem? hj)).1
  unfold drops
  rw [if_neg (fun q => ?_), he]
  obtain ⟨p, hp, hpe⟩ := List.mem_map.1 q
  obtain ⟨i, hi, e1⟩ := List.mem_iff_getElem.1 hp
  have hlt : i < j := by rw [List.length_take] at hi; omega
  have hi' : l[i]? = some p := by
    rw [List.getElem_take] at e1
    rw [← e1]
    exact List.getElem?_eq_getElem (by rw [List.length_take] at hi; omega)
  have hb := A.before hlt hi' hj
  have hp2 := (A.fin p (List.mem_of_getElem? hi')).1
  have hpe' : p.id = e.id := hpe
  rw [hpe', he] at hp2
  have : e.dl = p.dl := congrArg TmV.dl (Option.some.inj hp2)
  omega
theorem Mach.blocks {w w' : World} {B mb t k : Nat} {ν : Net} {τ : TSt} (h : Mach w B mb t k ν τ) (hk : ∀ q, q ≤ 2 ∨ q = B ∨ q = mb → w'.heap[q]? = w.heap[q]?) : Mach w' B mb t k ν τ := by
  have eB := hk B (by omega)
  have em := hk mb (by omega)
  have e0 := hk 0 (by omega)
  have e2 := hk 2 (by omega)
  have cB : ∀ o, w'.cell? ⟨B, o, none⟩ = w.cell? ⟨B, o, none⟩ := fun o => World.cell?_of_block (a := ⟨B, o, none⟩) eB
  have fB : ∀ o, w'.frozen? ⟨B, o, none⟩ = w.frozen? ⟨B, o, none⟩ := fun o => World.frozen?_of_block (a := ⟨B, o, none⟩) eB
  have c0 : ∀ o, w'.cell? ⟨0, o, none⟩ = w.cell? ⟨0, o, none⟩ := fun o => World.cell?_of_block (a := ⟨0, o, none⟩) e0
  have c2 : ∀ o, w'.cell? ⟨2, o, none⟩ = w.cell? ⟨2, o, none⟩ := fun o => World.cell?_of_block (a := ⟨2, o, none⟩) e2
  obtain ⟨s, L, fr, f, T, I, q1, q2, q3⟩ := h.tim
  obtain ⟨N, K⟩ := h.net
  obtain ⟨c, C, O⟩ := h.sch
  have hv := h.vac
  refine ⟨by rw [cB]; exact h.clk, h.tlt, ⟨s, L, fr, f, ⟨T.wh.same eB, T.mp.block (by rw [q2]; exact em), T.ne⟩, I, q1, q2, q3⟩, ⟨⟨fun o ho => by rw [cB]; exact N.cell o ho, fun o => by rw [fB]; exact N.frz o⟩, K⟩, ⟨c, ⟨fun o ho => by rw [cB]; exact C.cell o ho, fun o => by rw [fB]; exact C.frz o⟩, O⟩, fun j hj => by rw [cB]; exact h.sts j hj, by rw [cB]; exact h.snk, ?_, fun k hk => by rw [c2]; exact h.tab k hk, h.hB, h.hm⟩
  exact ⟨by rw [c0]; exact hv.v0, by rw [c0]; exact hv.v1, by rw [c0]; exact hv.v2, by rw [c0]; exact hv.v3, by rw [c0]; exact hv.v4⟩
theorem Mach.nxr {w : World} {B mb t k : Nat} {ν : Net} {τ : TSt} (h : Mach w B mb t k ν τ) : 0 < τ.nx ∧ τ.nx ≤ k + 1 := by
  obtain ⟨s, L, fr, f, T, I, q1, q2, q3⟩ := h.tim
  have := q3.n0
  have := q3.n1
  rw [q3.nx] at *
  omega
theorem Mach.pend {w : World} {B mb t k : Nat} {ν : Net} {τ : TSt} (h : Mach w B mb t k ν τ) : ∃ ks : List Int, ks.Nodup ∧ (∀ id, id ∈ ks ↔ (τ.tm id).isSome = true) ∧ (∀ id ∈ ks, 0 ≤ id ∧ id < 18446744073709551616) ∧ ∃ s : Wheel, WheelAt w B s ∧ s.live = (ks.length : Int) := by
  obtain ⟨s, L, fr, f, T, I, q1, q2, q3⟩ := h.tim
  obtain ⟨ks, h1, h2, h3, h4⟩ := live_card I q3.wo
  rw [q3.tm] at h2
  exact ⟨ks, h1, h2, h3, s, T.wh, h4⟩
theorem Mach.idr {w : World} {B mb t k : Nat} {ν : Net} {τ : TSt} (h : Mach w B mb t k ν τ) {id : Int} {v : TmV} (e : τ.tm id = some v) : 0 ≤ id ∧ id < 18446744073709551616 := by
  obtain ⟨ks, _, h2, h3, _⟩ := h.pend
  exact h3 id ((h2 id).2 (by rw [e]; rfl))
/-- Where the law's things lie. -/
structure LQ (n0 B mb bk pb cb : Nat) : Prop where
  h0 : 2 < n0
  hB : n0 ≤ B
  hm : n0 ≤ mb
  hk : n0 ≤ bk
  hp : n0 ≤ pb
  hc : n0 ≤ cb
  hf : bk ≠ B ∧ bk ≠ mb ∧ pb ≠ B ∧ pb ≠ mb ∧ cb ≠ B ∧ cb ≠ mb
/-- The law at work: the machine, the law's book of timers β, cancelled χ. -/
structure LT (n0 : Nat) (w0 w : World) (B mb t k : Nat) (ν : Net) (τ : TSt) (bk pb cb n : Nat) (β : Int → Option TmV) (χ : Int → Bool) : Prop where
  m : Mach w B mb t k ν τ
  bo : BookAt w bk pb cb n β χ
  b : Below n0 w0 w
  s : n0 ≤ w.heap.size
theorem LT.keep {n0 : Nat} {w0 w w' : World} {B mb t k : Nat} {ν : Net} {τ : TSt} {bk pb cb n : Nat} {β : Int → Option TmV} {χ : Int → Bool} (h : LT n0 w0 w B mb t k ν τ bk pb cb n β χ) (hb : Below w.heap.size w w') : LT n0 w0 w' B mb t k ν τ bk pb cb n β χ :=
  ⟨h.m.below hb, h.bo.below hb, below_to h.b hb h.s, Nat.le_trans h.s hb.size⟩
theorem LT.mono {n0 : Nat} {w0 w : World} {B mb t k k' : Nat} {ν : Net} {τ : TSt} {bk pb cb n n' : Nat} {β : Int → Option TmV} {χ : Int → Bool} (h : LT n0 w0 w B mb t k ν τ bk pb cb n β χ) (hk : k ≤ k') (hn : n ≤ n') : LT n0 w0 w B mb t k' ν τ bk pb cb n' β χ :=
  ⟨h.m.mono hk, h.bo.mono hn, h.b, h.s⟩
theorem LT.step {n0 : Nat} {w0 w w' : World} {B mb t t' k k' : Nat} {ν ν' : Net} {τ τ' : TSt} {bk pb cb n : Nat} {β : Int → Option TmV} {χ : Int → Bool} (h : LT n0 w0 w B mb t k ν τ bk pb cb n β χ) (Q : LQ n0 B mb bk pb cb) (D : Done w w' B mb t' k' ν' τ') : LT n0 w0 w' B mb t' k' ν' τ' bk pb cb n β χ := by
  obtain ⟨h1, h2, h3⟩ := h.bo.lt
  obtain ⟨q0, q1, q2, q3, q4, q5, q6⟩ := Q
  exact ⟨D.m, h.bo.keep (fun k hk => D.f.block k (by omega) (by omega) (by omega)), below_done h.b D h.s q1 q2, Nat.le_trans h.s D.f.size⟩
theorem LT.note {n0 : Nat} {w0 w w' : World} {B mb t k : Nat} {ν : Net} {τ : TSt} {bk pb cb n n' : Nat} {β β' : Int → Option TmV} {χ χ' : Int → Bool} (h : LT n0 w0 w B mb t k ν τ bk pb cb n β χ) (Q : LQ n0 B mb bk pb cb) (M : MutM pb cb w w') (K : BookAt w' bk pb cb n' β' χ') : LT n0 w0 w' B mb t k ν τ bk pb cb n' β' χ' := by
  obtain ⟨q0, q1, q2, q3, q4, q5, q6⟩ := Q
  have hs := h.s
  have h1 := h.m.lt
  have h2 := h.m.mlt
  refine ⟨h.m.blocks (fun q hq => M.block q (by omega) (by omega) (by omega)), K, ?_, Nat.le_trans h.s M.size⟩
  exact ⟨M.os.trans h.b.os, M.tape.trans h.b.tape, M.output.trans h.b.output, Nat.le_trans h.b.size M.size, fun k hk => (M.block k (by omega) (by omega) (by omega)).trans (h.b.block k hk)⟩
theorem LT.drewN {n0 : Nat} {w0 w : World} {B mb t k : Nat} {ν : Net} {τ : TSt} {bk pb cb n : Nat} {β : Int → Option TmV} {χ : Int → Bool} (h : LT n0 w0 w B mb t k ν τ bk pb cb n β χ) (i : Nat) : LT n0 w0 (w.drewN i) B mb t k ν τ bk pb cb n β χ :=
  ⟨h.m.keep ((Mut.refl B 0 0 w).drewN i), h.bo.keep (fun _ _ => rfl), ⟨h.b.os, h.b.tape, h.b.output, h.b.size, h.b.block⟩, h.s⟩
theorem lt_new {w w1 w2 : World} {B mb bk pb cb : Nat} (M : Mach w1 B mb 0 0 net0 τ0) (hB : w.heap.size ≤ B) (hm : w.heap.size ≤ mb) (h2 : 2 < w.heap.size) (hb : Below w.heap.size w w1) (K : BookAt w2 bk pb cb 0 (fun _ => none) (fun _ => false)) (k1 : w1.heap.size ≤ bk) (k2 : w1.heap.size ≤ pb) (k3 : w1.heap.size ≤ cb) (hb2 : Below w1.heap.size w1 w2) :
    LQ w.heap.size B mb bk pb cb ∧ LT w.heap.size w w2 B mb 0 0 net0 τ0 bk pb cb 0 τ0.tm (fun _ => false) := by
  have := M.lt
  have := M.mlt
  have hs := hb.size
  have hs2 := hb2.size
  exact ⟨⟨h2, hB, hm, by omega, by omega, by omega, by omega⟩, M.below hb2, K, below_to hb hb2 hs, by omega⟩
/-- What the note of a step has made of the book. -/
theorem tim_note {o : OpS} {t : Nat} {τ τ' : TSt} {c tm : Int} {l : List FiredS} (h : TimR o t τ c tm l τ') : (tickOf o = 0 ∧ l = [] ∧ noteT o c tm t τ.tm = τ'.tm) ∨ (tickOf o ≠ 0 ∧ noteT o c tm t τ.tm = τ.tm ∧ AdvR τ.tm τ'.tm (afterF t (tickOf o)) (afterF t 1) l) := by
  rcases h with ⟨hk, hx, h | h⟩ | ⟨hk, h1, h2, _⟩
  · obtain ⟨h1, rfl, h3⟩ := h
    exact .inl ⟨h1, h3, noteT_else (by omega)⟩
  · exact .inr ⟨h.1, noteT_else (by omega), h.2⟩
  · refine .inl ⟨?_, h1, h2.symm⟩
    rw [tickOf, if_neg (by omega), if_neg (by omega)]
end Go.Proofs.Qxb6500877aGreatDoor
