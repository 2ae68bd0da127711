import Derived.Deep.CutBlock
import Derived.OwnWalk
import Derived.Maps.AppendAt
import Derived.Maps.OwnSet
import Derived.Maps.OwnOps
import Derived.Laws.ResultCell
import Derived.Test.Qxb6500880aZh
set_option linter.unusedVariables false
set_option linter.unusedSimpArgs false
namespace Go.Proofs.Qxb6500880a
open Go.RowKit

def stC (ρ : Rl) (kn : Nat → Bool) (ky ac : Nat → Value) : Nat → List Value
  | 0 => []
  | k + 1 => stC ρ kn ky ac k ++ [.pointer (some ⟨ρ.gj, k * 3, none⟩), .int .i64 (k : Int), .int .u8 0, howV (kn k), .pointer none, ky k, ac k, .slice none 0 0]
theorem stC_upd (ρ : Rl) (kn : Nat → Bool) (ky ac : Nat → Value) (k : Nat) (kv av : Value) : ∀ i, i ≤ k → stC ρ kn (updV ky k kv) (updV ac k av) i = stC ρ kn ky ac i
  | 0, _ => rfl
  | i + 1, h => by
    unfold stC
    rw [stC_upd ρ kn ky ac k kv av i (by omega), updV_other ky kv (by omega), updV_other ac av (by omega)]
/-- A plan with k steps. -/
structure PlI (w : World) (P lo : Nat) (ρ : Rl) (kn : Nat → Bool) (k : Nat) (sv : Value) (ky ac : Nat → Value) : Prop where
  c0 : w.cell? ⟨P, 0, none⟩ = some (.pointer (some ⟨ρ.RB, 0, none⟩))
  c1 : w.cell? ⟨P, 1, none⟩ = some (.int .i64 (-1))
  c2 : w.cell? ⟨P, 2, none⟩ = some (.slice none 0 0)
  c3 : w.cell? ⟨P, 3, none⟩ = some (sv)
  fz : ∀ o, w.frozen? ⟨P, o, none⟩ = false
  own : w.ownsRow lo 173 8 sv k (stC ρ kn ky ac k)
  ka : ∀ j, j < k → KaAt w lo ρ (kn j) j (ky j) (ac j)
  dj : ∀ j, j < k → ∀ q, (ky j).ownBlock = some q ∨ (ac j).ownBlock = some q → sv.ownBlock ≠ some q
theorem PlI.keep {w' : World} {w : World} {P lo : Nat} {ρ : Rl} {kn : Nat → Bool} {k : Nat} {sv : Value} {ky ac : Nat → Value} (h : PlI w P lo ρ kn k sv ky ac) (hk : ∀ q, q = P ∨ sv.ownBlock = some q ∨ (∃ j, j < k ∧ ((ky j).ownBlock = some q ∨ (ac j).ownBlock = some q)) → w'.heap[q]? = w.heap[q]?) : PlI w' P lo ρ kn k sv ky ac := by
  have e := hk P (.inl rfl)
  exact ⟨(World.cell?_of_block (a := ⟨P, 0, none⟩) e).trans h.c0, (World.cell?_of_block (a := ⟨P, 1, none⟩) e).trans h.c1, (World.cell?_of_block (a := ⟨P, 2, none⟩) e).trans h.c2, (World.cell?_of_block (a := ⟨P, 3, none⟩) e).trans h.c3, fun o => (World.frozen?_of_block (a := ⟨P, o, none⟩) e).trans (h.fz o), own_one h.own (fun q hq => hk q (.inr (.inl hq))), fun j hj => (h.ka j hj).keep (fun q hq => hk q (.inr (.inr ⟨j, hj, hq⟩))), h.dj⟩
theorem PlI.lt {w : World} {P lo : Nat} {ρ : Rl} {kn : Nat → Bool} {k : Nat} {sv : Value} {ky ac : Nat → Value} (h : PlI w P lo ρ kn k sv ky ac) {q : Nat} (hq : q = P ∨ sv.ownBlock = some q ∨ (∃ j, j < k ∧ ((ky j).ownBlock = some q ∨ (ac j).ownBlock = some q))) : (q = P ∨ lo ≤ q) ∧ q < w.heap.size := by
  rcases hq with e | e | ⟨j, hj, e⟩
  · subst e; exact ⟨.inl rfl, World.block_lt_of_cell? _ _ h.c0⟩
  · exact ⟨.inr (h.own.lt q e).1, (h.own.lt q e).2⟩
  · exact ⟨.inr ((h.ka j hj).lt e).1, ((h.ka j hj).lt e).2⟩
theorem PlI.base {lo' : Nat} {w : World} {P lo : Nat} {ρ : Rl} {kn : Nat → Bool} {k : Nat} {sv : Value} {ky ac : Nat → Value} (h : PlI w P lo ρ kn k sv ky ac) (hl : lo' ≤ lo) : PlI w P lo' ρ kn k sv ky ac := ⟨h.c0, h.c1, h.c2, h.c3, h.fz, own_base h.own hl, fun j hj => (h.ka j hj).base hl, h.dj⟩
theorem PlI.push {w wa w3 : World} {P lo : Nat} {ρ : Rl} {kn : Nat → Bool} {k : Nat} {sv sv' kv av : Value} {ky ac : Nat → Value} (h : PlI w P lo ρ kn k sv ky ac) (hP : P < lo) (hka : KaAt w lo ρ (kn k) k kv av) (hkd : ∀ q, kv.ownBlock = some q ∨ av.ownBlock = some q → sv.ownBlock ≠ some q) (ho : w3.ownsRow lo 173 8 sv' (k + 1) (stC ρ kn ky ac k ++ [.pointer (some ⟨ρ.gj, k * 3, none⟩), .int .i64 (k : Int), .int .u8 0, howV (kn k), .pointer none, kv, av, .slice none 0 0])) (hbA : Below w.heap.size w wa) (hg : wa.grownBy w3 sv.ownBlock) (hblk : sv'.ownBlock = sv.ownBlock ∨ sv'.ownBlock = some wa.heap.size) : PlI (w3.setCell ⟨P, 3, none⟩ sv') P lo ρ kn (k + 1) sv' (updV ky k kv) (updV ac k av) := by
  have hl := (h.lt (q := P) (.inl rfl)).2
  have hsz := hbA.size
  have hr : some P ≠ sv.ownBlock := fun e => by have := (h.own.lt P e.symm).1; omega
  have eb : w3.heap[P]? = w.heap[P]? := (hg.block P (by omega) hr).trans (hbA.block P hl)
  have o : ∀ j, j ≠ 3 → (w3.setCell ⟨P, 3, none⟩ sv').cell? ⟨P, j, none⟩ = w.cell? ⟨P, j, none⟩ := fun j hj => (World.cell?_setCell_other _ _ _ _ (by simp <;> omega)).trans (World.cell?_of_block (a := ⟨P, j, none⟩) eb)
  have j3 : w3.cell? ⟨P, 3, none⟩ = some sv := (World.cell?_of_block (a := ⟨P, 3, none⟩) eb).trans h.c3
  have e1 : stC ρ kn (updV ky k kv) (updV ac k av) (k + 1) = stC ρ kn ky ac k ++ [.pointer (some ⟨ρ.gj, k * 3, none⟩), .int .i64 (k : Int), .int .u8 0, howV (kn k), .pointer none, kv, av, .slice none 0 0] := by
    show stC ρ kn (updV ky k kv) (updV ac k av) k ++ _ = _
    rw [stC_upd ρ kn ky ac k kv av k (Nat.le_refl _), updV_same, updV_same]
  have kq : ∀ q, q < w.heap.size → lo ≤ q → sv.ownBlock ≠ some q → (w3.setCell ⟨P, 3, none⟩ sv').heap[q]? = w.heap[q]? := fun q h1 h2 h3 => (far_set (by omega)).trans ((hg.block q (by omega) (fun e => h3 e.symm)).trans (hbA.block q h1))
  have K : ∀ j, j < k + 1 → KaAt w lo ρ (kn j) j (updV ky k kv j) (updV ac k av j) ∧ ∀ q, (updV ky k kv j).ownBlock = some q ∨ (updV ac k av j).ownBlock = some q → sv.ownBlock ≠ some q := fun j hj => by
    by_cases z : j = k
    · subst z
      rw [updV_same, updV_same]
      exact ⟨hka, hkd⟩
    · rw [updV_other ky kv z, updV_other ac av z]
      exact ⟨h.ka j (by omega), h.dj j (by omega)⟩
  refine ⟨(o 0 (by omega)).trans h.c0, (o 1 (by omega)).trans h.c1, (o 2 (by omega)).trans h.c2, World.cell?_setCell_same _ _ _ j3, fun o => (World.frozen?_setCell _ _ _ _).trans ((World.frozen?_of_block (a := ⟨P, o, none⟩) eb).trans (h.fz o)), ?_, fun j hj => (K j hj).1.keep (fun q hq => kq q ((K j hj).1.lt hq).2 ((K j hj).1.lt hq).1 ((K j hj).2 q hq)), fun j hj q hq => ?_⟩
  · rw [e1]
    exact own_one ho (fun q hq => far_set (fun e => by have := (ho.lt q hq).1; omega))
  · have h1 := (K j hj).1.lt hq
    rcases hblk with z | z
    · rw [z]; exact (K j hj).2 q hq
    · rw [z]
      intro e
      have := some_eq e
      omega
set_option maxRecDepth 20000 in
set_option maxHeartbeats 8000000 in
theorem plan_any {S : Nat → Prop} {w : World} {ρ : Rl} {nm : ByteArray} {s : RelS} {kn : Nat → Bool} {PL E : Nat} (h0 : w.cell? ⟨PL, 0, none⟩ = some (.pointer (some ⟨E, 0, none⟩))) (h1 : w.cell? ⟨E, 1, none⟩ = some (.int .u8 0)) (h3 : w.cell? ⟨E, 3, none⟩ = some (.bool false)) (HR : RuX w ρ) (HK : RlK ρ kn) (H : RelAt w ρ.rb nm s) (hr : s.rows = 1) (hA : s.A = ρ.n) (hd : SymZ w s.data ρ.n) (hdr : s.data.ownBlock ≠ some ρ.rb) (hS : SprOk S w s) (hSl : ∀ q, S q → q < w.heap.size) (hSr : S ρ.rb) (hne : ∀ q, ρ.has q → q ≠ ρ.rb) (hPE : PL ≠ ρ.rb ∧ E ≠ ρ.rb) (hm : ρ.m ≤ 100) (hn : ρ.n ≤ 100) (hR : ρ.R ≤ 1000) :
    Calls Try.prog 43 #[.pointer (some ⟨PL, 0, none⟩), .pointer (some ⟨ρ.RB, 0, none⟩), .int .i64 (-1)] w fun e w' => e = .returned (.pointer (some ⟨w.heap.size, 0, none⟩)) ∧ (∃ sv ky ac, PlI w' w.heap.size (w.heap.size + 1) ρ kn ρ.m sv ky ac) ∧ ∃ sp sa, RelAt w' ρ.rb nm { s with spr := sp, sat := sa } ∧ SprOk S w' { s with spr := sp, sat := sa } ∧ Wr ρ.rb w w' := by
  obtain ⟨i9, hi9, hx0, hx1, hx2⟩ := info_parts info173
  obtain ⟨i4, hi4, hy0, hy1, hy2⟩ := info_parts info4
  have hPLl : PL < w.heap.size := World.block_lt_of_cell? _ _ h0
  have hEl : E < w.heap.size := World.block_lt_of_cell? _ _ h1
  have hRBl := HR.lt (q := ρ.RB) (.inl rfl)
  have bP := one_alloc w (.cells #[.pointer (some ⟨ρ.RB, 0, none⟩), .int .i64 (-1), .slice none 0 0, .slice none 0 0] 164)
  have q7 := cell_later bP HR.c7
  have q5 := cell_later bP HR.c5
  have hs1 : (w.alloc (.cells #[.pointer (some ⟨ρ.RB, 0, none⟩), .int .i64 (-1), .slice none 0 0, .slice none 0 0] 164)).heap.size = w.heap.size + 1 := by simp
  have p0 : (w.alloc (.cells #[.pointer (some ⟨ρ.RB, 0, none⟩), .int .i64 (-1), .slice none 0 0, .slice none 0 0] 164)).cell? ⟨w.heap.size, 0, none⟩ = some (.pointer (some ⟨ρ.RB, 0, none⟩)) := by simp
  have p1 : (w.alloc (.cells #[.pointer (some ⟨ρ.RB, 0, none⟩), .int .i64 (-1), .slice none 0 0, .slice none 0 0] 164)).cell? ⟨w.heap.size, 1, none⟩ = some (.int .i64 (-1)) := by simp
  have p2 : (w.alloc (.cells #[.pointer (some ⟨ρ.RB, 0, none⟩), .int .i64 (-1), .slice none 0 0, .slice none 0 0] 164)).cell? ⟨w.heap.size, 2, none⟩ = some (.slice none 0 0) := by simp
  have p3 : (w.alloc (.cells #[.pointer (some ⟨ρ.RB, 0, none⟩), .int .i64 (-1), .slice none 0 0, .slice none 0 0] 164)).cell? ⟨w.heap.size, 3, none⟩ = some (.slice none 0 0) := by simp
  have pf : ∀ o, (w.alloc (.cells #[.pointer (some ⟨ρ.RB, 0, none⟩), .int .i64 (-1), .slice none 0 0, .slice none 0 0] 164)).frozen? ⟨w.heap.size, o, none⟩ = false := fun o => by simp
  have HQ := hideIt (And.intro HR (And.intro HK (And.intro H (And.intro hr (And.intro hA (And.intro hd (And.intro hdr (And.intro hS (And.intro hSl (And.intro hSr (And.intro hne (And.intro h0 (And.intro h1 (And.intro h3 (And.intro bP hs1)))))))))))))))
  clear HR HK H hr hA hd hdr hS hSl hSr hne h0 h1 h3 bP hs1
  go_enter Try.func43, Try.ntmps43
  go_upto_region 2 with fail
  generalize w.alloc (.cells #[.pointer (some ⟨ρ.RB, 0, none⟩), .int .i64 (-1), .slice none 0 0, .slice none 0 0] 164) = w1 at *
  go_wp2_with (first | (at_make; refine wpList_make_full _ rfl _ _ 122 rfl w1.heap.size 4 i4 _ 1 Try.underlying122 hi4 hy0 hy1 .i64 .i64 (ρ.R : Int) (ρ.R : Int) ρ.R rfl rfl rfl rfl (by rw [hy2]; omega) (by unfold maxLen; omega) (by simp <;> omega) ?_) | go_in)
  intro w2 own2 grow2
  have b2 : Below w1.heap.size w1 w2 := ⟨grow2.os, grow2.tape, grow2.output, grow2.size, fun k hk => grow2.block k hk (by simp)⟩
  have hg2 : w1.heap.size < w2.heap.size := (own2.lt w1.heap.size rfl).2
  have B2 : BoolAt w2 w1.heap.size ρ.R (fun _ => false) := by
    refine ⟨fun j hj => ?_, fun o => own2.frozenAt o⟩
    have e := own2.cellAt j (by omega)
    rw [made_one, List.getElem?_replicate, if_pos hj] at e
    exact e
  have r5 := cell_later b2 q5
  have H2 := hideIt (And.intro b2 (And.intro hg2 B2))
  clear own2 grow2 b2 hg2 B2 q7
  go_wp2_with (first | (at_make; refine wpList_make_full _ rfl _ _ 122 rfl w2.heap.size 4 i4 _ 1 Try.underlying122 hi4 hy0 hy1 .i64 .i64 (0 : Int) (0 : Int) 0 rfl rfl rfl rfl (by rw [hy2]; omega) (by unfold maxLen; omega) (by simp <;> omega) ?_) | go_in)
  intro w3 own3 grow3
  have b3 : Below w2.heap.size w2 w3 := ⟨grow3.os, grow3.tape, grow3.output, grow3.size, fun k hk => grow3.block k hk (by simp)⟩
  have s5 := cell_later b3 r5
  obtain ⟨b2, hg2, B2⟩ := H2.out
  have b13 := then_ b2 b3
  have t2 := cell_later b13 p2
  have hPb1 : w.heap.size < w1.heap.size := World.block_lt_of_cell? _ _ p2
  have tf : ∀ o, w3.frozen? ⟨w.heap.size, o, none⟩ = false := fun o => (World.frozen?_of_block (a := ⟨w.heap.size, o, none⟩) (b13.block _ hPb1)).trans (pf o)
  have HC := hideIt (And.intro (cell_later b13 p0) (And.intro (cell_later b13 p1) (And.intro t2 (And.intro (cell_later b13 p3) tf))))
  have H3 := hideIt (And.intro b13 (And.intro (Nat.lt_of_lt_of_le hg2 b3.size) (B2.blk (b3.block _ hg2))))
  clear own3 grow3 b3 b2 hg2 B2 b13 p0 p1 p2 p3 pf q5 r5 H2
  have hrp := fun fv pv => ripe_any (w := w3) fv pv s5
  go_wp2_with fail
  refine (hrp _ _).mono ?_
  rintro e w4 ⟨rfl, ew⟩
  replace ew := ew.symm
  subst ew
  clear hrp
  go_upto_region 5 with fail
  rw [setCell_self t2]
  obtain ⟨HR, HK, H, hr, hA, hd, hdr, hS, hSl, hSr, hne, h0, h1, h3, b1, hs1⟩ := HQ.out
  obtain ⟨b13, hg3, B3⟩ := H3.out
  have bw3 := then_ b1 b13
  have HR3 := HR.below bw3
  have hord := order_any (S := fun q => S q ∨ q = w.heap.size ∨ q = w1.heap.size) (cell_later bw3 h0) (cell_later bw3 h1) HR3 HK (H.below bw3) hr hA (hd.below bw3) hdr ((hS.weak (fun q z1 z2 => by rcases z2 with h | h | h; exact h; omega; omega)).ws (Ws.of_below bw3)) (fun q z => by rcases z with h | h | h; exact Nat.lt_of_lt_of_le (hSl q h) bw3.size; omega; omega) (.inl hSr) hne hm hn hR
  clear HR HK H hr hA hd hdr hS hSl hSr hne h0 h1 h3 b1 hs1 b13 B3 bw3 HR3 s5 t2 tf
  go_wp2_with fail
  refine hord.mono ?_
  rintro e w4 ⟨OR, rfl, hOR, hORc, sp, sa, Hr4, hSp4, W4⟩
  obtain ⟨HR, HK, H, hr, hA, hd, hdr, hS, hSl, hSr, hne, h0, h1, h3, b1, hs1⟩ := HQ.out
  obtain ⟨b13, hg3', B3⟩ := H3.out
  obtain ⟨x0, x1, x2, x3, xf⟩ := HC.out
  have bw3 := then_ b1 b13
  have hrl := H.lt
  have hs3 := b13.size
  have hs4 := W4.size
  have hP4 : w4.heap[w.heap.size]? = w3.heap[w.heap.size]? := W4.block _ (by omega) (by omega)
  have hF4 : w4.heap[w1.heap.size]? = w3.heap[w1.heap.size]? := W4.block _ (by omega) (by omega)
  have I4 : PlI w4 w.heap.size w4.heap.size ρ kn 0 (.slice none 0 0) (fun _ => .slice none 0 0) (fun _ => .slice none 0 0) :=
    ⟨(World.cell?_of_block (a := ⟨w.heap.size, 0, none⟩) hP4).trans x0, (World.cell?_of_block (a := ⟨w.heap.size, 1, none⟩) hP4).trans x1, (World.cell?_of_block (a := ⟨w.heap.size, 2, none⟩) hP4).trans x2, (World.cell?_of_block (a := ⟨w.heap.size, 3, none⟩) hP4).trans x3, fun o => (World.frozen?_of_block (a := ⟨w.heap.size, o, none⟩) hP4).trans (xf o), own_nil _ _ _ _, fun j hj => by omega, fun j hj => by omega⟩
  have B4 : BoolAt w4 w1.heap.size ρ.R (fbs ρ 0) := B3.blk hF4
  have R4 : RuX w4 ρ := (HR.below bw3).keep (fun q hq => W4.block q ((HR.below bw3).lt hq) (hne q hq))
  have c40 := (World.cell?_of_block (a := ⟨PL, 0, none⟩) (W4.block PL (by omega) hPE.1)).trans (cell_later bw3 h0)
  have c43 := (World.cell?_of_block (a := ⟨E, 3, none⟩) (W4.block E (by omega) hPE.2)).trans (cell_later bw3 h3)
  have hw4 : Wr ρ.rb w w4 := (Wr.of_below bw3).trans W4
  have hORl : OR < w4.heap.size := World.block_lt_of_cell? _ _ (hORc 0 R4.m0)
  have hFv : w.heap.size < w1.heap.size ∧ w1.heap.size < w3.heap.size ∧ w3.heap.size ≤ OR := by omega
  have HZ4 := hideIt (And.intro I4 (And.intro B4 (And.intro Hr4 (And.intro hSp4 hw4))))
  have HZR := hideIt (And.intro R4 (And.intro HK (And.intro c40 (And.intro c43 (And.intro hORc hne)))))
  have HFL : ¬ ρ.has w1.heap.size := fun e => by have := HR.lt e; omega
  have hlt4 : ∀ q, ρ.has q → q < w.heap.size := fun q hq => HR.lt hq
  have HL4 := hideIt hlt4
  clear HR HK H hr hA hd hdr hS hSl hSr hne h0 h1 h3 b1 hs1 b13 hg3' B3 x0 x1 x2 x3 xf bw3 hP4 hF4 I4 B4 R4 c40 c43 hw4 Hr4 hSp4 W4 HC H3 hord hORc hOR hlt4
  obtain ⟨FL, hFLe⟩ : ∃ FL, w1.heap.size = FL := ⟨_, rfl⟩
  rw [hFLe] at HZ4 HFL hFv hg3
  rw [hFLe]
  clear hFLe
  obtain ⟨P, hPe⟩ : ∃ P, w.heap.size = P := ⟨_, rfl⟩
  rw [hPe] at HZ4 hFv hRBl hPLl hEl hrl HL4
  rw [hPe]
  have HPE := hideIt hPe
  clear hPe
  go_wp2_with fail
  go_loopg [40] ρ.m (fun gg v wr => ∃ k : Nat, k + gg = ρ.m ∧ v = .int .i64 (k : Int) ∧ ∃ sv ky ac, PlI wr P w4.heap.size ρ kn k sv ky ac ∧ BoolAt wr FL ρ.R (fbs ρ k) ∧ Ws (fun q => q = P ∨ q = FL) w4 wr)
  case atStart =>
    obtain ⟨I4, B4, Hr4, hSp4, hw4⟩ := HZ4.out
    exact ⟨0, by omega, rfl, _, _, _, I4, B4, Ws.refl _ _⟩
  case round =>
    obtain ⟨k, hk, rfl, sv, ky, ac, I, B, W⟩ := hrel
    have hsw := W.size
    by_cases hin : k < ρ.m
    · have k0 : (0 : Int) ≤ k := by omega
      have k1 : (k : Int) < (ρ.m : Int) := by omega
      obtain ⟨R4, HK, c40, c43, hORc, hne⟩ := HZR.out
      have hlt4 := HL4.out
      have kp : ∀ q, q < w4.heap.size → q ≠ P → q ≠ FL → wr.heap[q]? = w4.heap[q]? := fun q z1 z2 z3 => W.block q z1 (fun e => by rcases e with e | e; exact z2 e; exact z3 e)
      have co := (World.cell?_of_block (a := ⟨OR, k, none⟩) (kp OR hORl (by omega) (by omega))).trans (hORc k hin)
      have R : RuX wr ρ := R4.keep (fun q hq => kp q (by have := hlt4 q hq; omega) (by have := hlt4 q hq; omega) (fun e => HFL (e ▸ hq)))
      have y4 := R.c4
      have y5 := R.c5
      have d0 := (World.cell?_of_block (a := ⟨PL, 0, none⟩) (kp PL (by omega) (by omega) (by omega))).trans c40
      have d3 := (World.cell?_of_block (a := ⟨E, 3, none⟩) (kp E (by omega) (by omega) (by omega))).trans c43
      have y4d : wr.drew.cell? ⟨ρ.RB, 4, none⟩ = some (.slice (some ⟨ρ.gj, 0, none⟩) ρ.m ρ.cj) := y4
      have hst : ∀ wq : World, Below wr.heap.size wr wq → Calls Try.prog 54 #[.pointer (some ⟨PL, 0, none⟩), .pointer (some ⟨ρ.gj, k * 3, none⟩), .int .u8 0, .slice (some ⟨FL, 0, none⟩) ρ.R ρ.R] wq fun e w' => ∃ kv av, e = .returned (.agg #[.pointer (some ⟨ρ.gj, k * 3, none⟩), .int .i64 0, .int .u8 0, howV (kn k), .pointer none, kv, av, .slice none 0 0]) ∧ KaAt w' (wq.heap.size + 2) ρ (kn k) k kv av ∧ BoolAt w' FL ρ.R (fbs ρ (k + 1)) ∧ Wr FL wq w' := fun wq bq =>
        step_any (cell_later bq d0) (cell_later bq d3) (R.below bq) hin (B.blk (bq.block FL (by omega))) (fun t ht => HK.a k k t (Nat.le_refl _) hin ht) (HK.b k) (fun t t' => HK.c k t t' hin) ⟨by omega, by omega, HFL⟩ hm hn hR
      have HI := hideIt (And.intro I (And.intro B (And.intro W R)))
      have hPw : P < wr.heap.size := by omega
      have hRBw : ρ.RB < wr.heap.size := by omega
      have hRBF : ρ.RB ≠ FL := by omega
      clear I B W R R4 HK c40 c43 hORc kp d0 d3 hne hlt4
      obtain ⟨hw, hhw⟩ : ∃ hw, howV (kn k) = hw := ⟨_, rfl⟩
      obtain ⟨hi8, rfl⟩ : ∃ hi8 : Int, hw = .int .u8 hi8 := ⟨_, hhw.symm⟩
      rw [hhw] at hst
      have HHW := hideIt hhw
      clear hhw
      have HST := hideIt hst
      clear hst
      go_upto_region 8 with fail
      go_cut [12] (fun v12 wc => ∃ SB kv av, v12 = .pointer (some ⟨SB, 0, none⟩) ∧ Hid (StB wc SB (stV (.pointer (some ⟨ρ.gj, k * 3, none⟩)) (.int .u8 hi8) kv av) ∧ KaAt wc w4.heap.size ρ (kn k) k kv av ∧ (∀ q, kv.ownBlock = some q ∨ av.ownBlock = some q → q ≠ SB ∧ wr.heap.size ≤ q) ∧ BoolAt wc FL ρ.R (fbs ρ (k + 1)) ∧ Wr FL wr wc) ∧ wr.heap.size ≤ SB ∧ SB < wc.heap.size)
      case first =>
        have hst := HST.out
        have y4a : (wr.alloc (.cells #[.pointer none, .int .i64 0, .int .u8 0, .int .u8 0, .pointer none, .slice none 0 0, .slice none 0 0, .slice none 0 0] 173)).cell? ⟨ρ.RB, 4, none⟩ = some (.slice (some ⟨ρ.gj, 0, none⟩) ρ.m ρ.cj) := cell_later (one_alloc wr _) y4
        have hRBa : ρ.RB < (wr.alloc (.cells #[.pointer none, .int .i64 0, .int .u8 0, .int .u8 0, .pointer none, .slice none 0 0, .slice none 0 0, .slice none 0 0] 173)).heap.size := by simp; omega
        have TZ : StB (wr.alloc (.cells #[.pointer none, .int .i64 0, .int .u8 0, .int .u8 0, .pointer none, .slice none 0 0, .slice none 0 0, .slice none 0 0] 173)) wr.heap.size (stV (.pointer none) (.int .u8 0) (.slice none 0 0) (.slice none 0 0)) := by
          refine ⟨fun i hi => ?_, fun o => new_frz rfl _ _ _⟩
          rw [new_cell rfl]
          rcases (by omega : i = 0 ∨ i = 1 ∨ i = 2 ∨ i = 3 ∨ i = 4 ∨ i = 5 ∨ i = 6 ∨ i = 7) with h | h | h | h | h | h | h | h <;> (subst h; rfl)
        have HSTT := hideIt TZ
        refine wp_region_held_drew (S := (fun w' => w'.cell? ⟨ρ.RB, 4, none⟩ = some (.slice (some ⟨ρ.gj, 0, none⟩) ρ.m ρ.cj))) (by kernel_rfl) y4 (fun hHeld => ?_)
        refine wpAnyH_take (i := 0) (oi := { dst := some 44, op := Go.Op.move (Go.Operand.tmp 0), type := 146, pos := _, after := #[], guard := none }) (v := ?vv30009) rfl (by kernel_rfl) (by kernel_rfl) (by kernel_rfl) (fun _ _ _ h => h) (Or.inl ⟨by rfl, ?hy30009⟩) (by assumption) ?tk30009
        case hy30009 => (intro w hSw; (try dsimp only at hSw); go_simp; (try with_reducible rfl))
        try simp only [Act.put, List.setIfInBounds_toArray, List.set_cons_zero, List.set_cons_succ]
        refine wpAnyH_take (i := 1) (oi := { dst := some 45, op := Go.Op.move (Go.Operand.tmp 1), type := 81, pos := _, after := #[], guard := none }) (v := ?vv30010) rfl (by kernel_rfl) (by kernel_rfl) (by kernel_rfl) (fun _ _ _ h => h) (Or.inl ⟨by rfl, ?hy30010⟩) (by assumption) ?tk30010
        case hy30010 => (intro w hSw; (try dsimp only at hSw); go_simp; (try with_reducible rfl))
        try simp only [Act.put, List.setIfInBounds_toArray, List.set_cons_zero, List.set_cons_succ]
        refine wpAnyH_take (i := 2) (oi := { dst := some 46, op := Go.Op.nilCheck (Go.Operand.tmp 45), type := 0, pos := _, after := #[{ on := 1, ground := Go.Ground.data }], guard := none }) (v := ?vv30011) rfl (by kernel_rfl) (by kernel_rfl) (by kernel_rfl) (fun _ _ _ h => h) (Or.inl ⟨by rfl, ?hy30011⟩) (by assumption) ?tk30011
        case hy30011 => (intro w hSw; (try dsimp only at hSw); go_simp; (try with_reducible rfl))
        try simp only [Act.put, List.setIfInBounds_toArray, List.set_cons_zero, List.set_cons_succ]
        refine wpAnyH_take (i := 3) (oi := { dst := some 47, op := Go.Op.fieldAddr 96 (Go.Operand.tmp 46) 2, type := 0, pos := _, after := #[{ on := 2, ground := Go.Ground.data }], guard := none }) (v := ?vv30012) rfl (by kernel_rfl) (by kernel_rfl) (by kernel_rfl) (fun _ _ _ h => h) (Or.inl ⟨by rfl, ?hy30012⟩) (by assumption) ?tk30012
        case hy30012 => (intro w hSw; (try dsimp only at hSw); go_simp; (try with_reducible rfl))
        try simp only [Act.put, List.setIfInBounds_toArray, List.set_cons_zero, List.set_cons_succ]
        refine wpAnyH_take (i := 4) (oi := { dst := some 48, op := Go.Op.load 93 (Go.Operand.tmp 47), type := 93, pos := _, after := #[{ on := 3, ground := Go.Ground.data }], guard := none }) (v := ?vv30013) rfl (by kernel_rfl) (by kernel_rfl) (by kernel_rfl) (fun _ _ _ h => h) (Or.inl ⟨by rfl, ?hy30013⟩) (by assumption) ?tk30013
        case hy30013 => (intro w hSw; (try dsimp only at hSw); go_simp; (try with_reducible rfl))
        try simp only [Act.put, List.setIfInBounds_toArray, List.set_cons_zero, List.set_cons_succ]
        refine wpAnyH_take (i := 5) (oi := { dst := some 49, op := Go.Op.move (Go.Operand.tmp 11), type := 3, pos := _, after := #[], guard := none }) (v := ?vv30014) rfl (by kernel_rfl) (by kernel_rfl) (by kernel_rfl) (fun _ _ _ h => h) (Or.inl ⟨by rfl, ?hy30014⟩) (by assumption) ?tk30014
        case hy30014 => (intro w hSw; (try dsimp only at hSw); go_simp; (try with_reducible rfl))
        try simp only [Act.put, List.setIfInBounds_toArray, List.set_cons_zero, List.set_cons_succ]
        refine wpAnyH_take (i := 6) (oi := { dst := some 50, op := Go.Op.indexAddr 93 (Go.Operand.tmp 48) (Go.Operand.tmp 49), type := 0, pos := _, after := #[{ on := 4, ground := Go.Ground.data }, { on := 5, ground := Go.Ground.data }], guard := none }) (v := ?vv30015) rfl (by kernel_rfl) (by kernel_rfl) (by kernel_rfl) (fun _ _ _ h => h) (Or.inl ⟨by rfl, ?hy30015⟩) (by assumption) ?tk30015
        case hy30015 => (intro w hSw; (try dsimp only at hSw); go_simp; (try with_reducible rfl))
        try simp only [Act.put, List.setIfInBounds_toArray, List.set_cons_zero, List.set_cons_succ]
        refine wpAnyH_take (i := 7) (oi := { dst := some 51, op := Go.Op.move (Go.Operand.tmp 0), type := 146, pos := _, after := #[], guard := none }) (v := ?vv30016) rfl (by kernel_rfl) (by kernel_rfl) (by kernel_rfl) (fun _ _ _ h => h) (Or.inl ⟨by rfl, ?hy30016⟩) (by assumption) ?tk30016
        case hy30016 => (intro w hSw; (try dsimp only at hSw); go_simp; (try with_reducible rfl))
        try simp only [Act.put, List.setIfInBounds_toArray, List.set_cons_zero, List.set_cons_succ]
        refine wpAnyH_take (i := 8) (oi := { dst := some 52, op := Go.Op.move (Go.Operand.tmp 1), type := 81, pos := _, after := #[], guard := none }) (v := ?vv30017) rfl (by kernel_rfl) (by kernel_rfl) (by kernel_rfl) (fun _ _ _ h => h) (Or.inl ⟨by rfl, ?hy30017⟩) (by assumption) ?tk30017
        case hy30017 => (intro w hSw; (try dsimp only at hSw); go_simp; (try with_reducible rfl))
        try simp only [Act.put, List.setIfInBounds_toArray, List.set_cons_zero, List.set_cons_succ]
        refine wpAnyH_take (i := 9) (oi := { dst := some 53, op := Go.Op.move (Go.Operand.tmp 11), type := 3, pos := _, after := #[], guard := none }) (v := ?vv30018) rfl (by kernel_rfl) (by kernel_rfl) (by kernel_rfl) (fun _ _ _ h => h) (Or.inl ⟨by rfl, ?hy30018⟩) (by assumption) ?tk30018
        case hy30018 => (intro w hSw; (try dsimp only at hSw); go_simp; (try with_reducible rfl))
        try simp only [Act.put, List.setIfInBounds_toArray, List.set_cons_zero, List.set_cons_succ]
        refine wpAnyH_take (i := 10) (oi := { dst := some 54, op := Go.Op.move (Go.Operand.tmp 2), type := 3, pos := _, after := #[], guard := none }) (v := ?vv30019) rfl (by kernel_rfl) (by kernel_rfl) (by kernel_rfl) (fun _ _ _ h => h) (Or.inl ⟨by rfl, ?hy30019⟩) (by assumption) ?tk30019
        case hy30019 => (intro w hSw; (try dsimp only at hSw); go_simp; (try with_reducible rfl))
        try simp only [Act.put, List.setIfInBounds_toArray, List.set_cons_zero, List.set_cons_succ]
        refine wpAnyH_take (i := 12) (oi := { dst := some 56, op := Go.Op.move (Go.Operand.tmp 8), type := 122, pos := _, after := #[], guard := none }) (v := ?vv30020) rfl (by kernel_rfl) (by kernel_rfl) (by kernel_rfl) (fun _ _ _ h => h) (Or.inl ⟨by rfl, ?hy30020⟩) (by assumption) ?tk30020
        case hy30020 => (intro w hSw; (try dsimp only at hSw); go_simp; (try with_reducible rfl))
        try simp only [Act.put, List.setIfInBounds_toArray, List.set_cons_zero, List.set_cons_succ]
        refine wpAnyH_ready (rs := [11, 14]) (by kernel_rfl) (by simp) ?_
        refine AllReadyH.cons (o := { dst := some 55, op := Go.Op.call { callee := Go.Callee.value (Go.Operand.func 55), args := #[Go.Operand.tmp 51, Go.Operand.tmp 52, Go.Operand.tmp 53, Go.Operand.tmp 54], argTypes := #[146, 81, 3, 3] }, type := 168, pos := _, after := #[{ on := 7, ground := Go.Ground.data }, { on := 8, ground := Go.Ground.data }, { on := 9, ground := Go.Ground.data }, { on := 10, ground := Go.Ground.data }], guard := none }) rfl (fun K' hK' => ?_) (AllReadyH.cons (o := { dst := some 12, op := Go.Op.alloc 173, type := 0, pos := _, after := #[], guard := none }) rfl (fun K' hK' => ?_) AllReadyH.nil)
        · go_simp
          go_at_call 55
          refine (window_any _ _ _).mono ?_
          rintro e w8 ⟨rfl, rfl⟩
          clear hHeld
          refine hK'.out _ _ y4 (fun hHeld => ?_)
          clear hK' K'
          try simp only [Act.put, List.setIfInBounds_toArray, List.set_cons_zero, List.set_cons_succ]
          refine wpAnyH_ready (rs := [13, 14]) (by kernel_rfl) (by simp) ?_
          refine AllReadyH.cons (o := { dst := some 57, op := Go.Op.call { callee := Go.Callee.value (Go.Operand.func 54), args := #[Go.Operand.tmp 44, Go.Operand.tmp 50, Go.Operand.tmp 55, Go.Operand.tmp 56], argTypes := #[146, 167, 168, 122] }, type := 173, pos := _, after := #[{ on := 0, ground := Go.Ground.data }, { on := 6, ground := Go.Ground.data }, { on := 11, ground := Go.Ground.data }, { on := 12, ground := Go.Ground.data }, { on := 11, ground := Go.Ground.chain }], guard := none }) rfl (fun K' hK' => ?_) (AllReadyH.cons (o := { dst := some 12, op := Go.Op.alloc 173, type := 0, pos := _, after := #[], guard := none }) rfl (fun K' hK' => ?_) AllReadyH.nil)
          · go_simp
            go_at_call 54
            refine (hst wr.drew.drew (below_dr (below_dr (Below.refl _ _)))).mono ?_
            rintro e w5 ⟨kv, av, rfl, KA, B5, W5⟩
            have y5 : w5.cell? ⟨ρ.RB, 4, none⟩ = some (.slice (some ⟨ρ.gj, 0, none⟩) ρ.m ρ.cj) := (World.cell?_of_block (a := ⟨ρ.RB, 4, none⟩) (W5.block ρ.RB hRBw hRBF)).trans y4
            obtain ⟨⟨pk, nk, ck, rfl⟩, ⟨pa, na, ca, rfl⟩⟩ := KA.shape
            have HX5 := hideIt (And.intro KA (And.intro B5 W5))
            clear KA B5 W5
            clear hHeld
            refine hK'.out _ _ y5 (fun hHeld => ?_)
            clear hK' K'
            try simp only [Act.put, List.setIfInBounds_toArray, List.set_cons_zero, List.set_cons_succ]
            refine wpAnyH_ready (rs := [14]) (by kernel_rfl) (by simp) ?_
            refine AllReadyH.cons (o := { dst := some 12, op := Go.Op.alloc 173, type := 0, pos := _, after := #[], guard := none }) rfl (fun K' hK' => ?_) AllReadyH.nil
            go_simp
            clear hHeld
            refine hK'.out _ _ (cell_later (one_alloc _ _) y5) (fun hHeld => ?_)
            clear hK' K'
            try simp only [Act.put, List.setIfInBounds_toArray, List.set_cons_zero, List.set_cons_succ]
            refine wpAnyH_ready (rs := [15]) (by kernel_rfl) (by simp) ?_
            refine AllReadyH.cons (o := { dst := none, op := Go.Op.store 173 (Go.Operand.tmp 12) (Go.Operand.tmp 57), type := 0, pos := _, after := #[{ on := 14, ground := Go.Ground.data }, { on := 13, ground := Go.Ground.data }, { on := 13, ground := Go.Ground.chain }, { on := 0, ground := Go.Ground.phase }, { on := 1, ground := Go.Ground.phase }, { on := 2, ground := Go.Ground.phase }, { on := 3, ground := Go.Ground.phase }, { on := 4, ground := Go.Ground.phase }, { on := 5, ground := Go.Ground.phase }, { on := 6, ground := Go.Ground.phase }, { on := 7, ground := Go.Ground.phase }, { on := 8, ground := Go.Ground.phase }, { on := 9, ground := Go.Ground.phase }, { on := 10, ground := Go.Ground.phase }, { on := 11, ground := Go.Ground.phase }, { on := 12, ground := Go.Ground.phase }, { on := 13, ground := Go.Ground.phase }, { on := 14, ground := Go.Ground.phase }], guard := none }) rfl (fun K' hK' => ?_) AllReadyH.nil
            go_simp
            clear hHeld
            refine hK'.out _ _ (cell_later (one_alloc _ _) y5) (fun hHeld => ?_)
            clear hK' K'
            try simp only [Act.put, List.setIfInBounds_toArray, List.set_cons_zero, List.set_cons_succ]
            refine wpAnyH_done (by kernel_rfl) ?_ _
            go_wp2
            go_meet
            case rel =>
              obtain ⟨KA, B5, W5⟩ := HX5.out
              have bN := one_alloc w5 (.cells #[.pointer (some ⟨ρ.gj, k * 3, none⟩), .int .i64 0, .int .u8 0, .int .u8 hi8, .pointer none, .slice pk nk ck, .slice pa na ca, .slice none 0 0] 173)
              have W5' : Wr FL wr w5 := ⟨W5.os, W5.tape, W5.output, W5.size, W5.block⟩
              have hs5 := W5'.size
              have hFw5 : FL < w5.heap.size := by omega
              refine ⟨w5.heap.size, .slice pk nk ck, .slice pa na ca, rfl, hideIt ⟨?_, (KA.base (show w4.heap.size ≤ wr.heap.size + 2 by omega)).keep (fun q hq => bN.block q (KA.lt hq).2), fun q hq => ?_, B5.blk (bN.block FL hFw5), W5'.below bN⟩, hs5, by simp⟩
              · refine ⟨fun i hi => ?_, fun o => new_frz rfl _ _ _⟩
                rw [new_cell rfl]
                rcases (by omega : i = 0 ∨ i = 1 ∨ i = 2 ∨ i = 3 ∨ i = 4 ∨ i = 5 ∨ i = 6 ∨ i = 7) with h | h | h | h | h | h | h | h <;> (subst h; rfl)
              · have z1 : wr.heap.size + 2 ≤ q := (KA.lt hq).1
                have z2 := (KA.lt hq).2
                omega
          · go_simp
            clear hHeld
            refine hK'.out _ _ y4a (fun hHeld => ?_)
            clear hK' K'
            try simp only [Act.put, List.setIfInBounds_toArray, List.set_cons_zero, List.set_cons_succ]
            refine wpAnyH_ready (rs := [13]) (by kernel_rfl) (by simp) ?_
            refine AllReadyH.cons (o := { dst := some 57, op := Go.Op.call { callee := Go.Callee.value (Go.Operand.func 54), args := #[Go.Operand.tmp 44, Go.Operand.tmp 50, Go.Operand.tmp 55, Go.Operand.tmp 56], argTypes := #[146, 167, 168, 122] }, type := 173, pos := _, after := #[{ on := 0, ground := Go.Ground.data }, { on := 6, ground := Go.Ground.data }, { on := 11, ground := Go.Ground.data }, { on := 12, ground := Go.Ground.data }, { on := 11, ground := Go.Ground.chain }], guard := none }) rfl (fun K' hK' => ?_) AllReadyH.nil
            go_simp
            go_at_call 54
            refine (hst (wr.alloc (.cells #[.pointer none, .int .i64 0, .int .u8 0, .int .u8 0, .pointer none, .slice none 0 0, .slice none 0 0, .slice none 0 0] 173)).drew.drew (below_dr (below_dr (one_alloc _ _)))).mono ?_
            rintro e w5 ⟨kv, av, rfl, KA, B5, W5⟩
            have y5 : w5.cell? ⟨ρ.RB, 4, none⟩ = some (.slice (some ⟨ρ.gj, 0, none⟩) ρ.m ρ.cj) := (World.cell?_of_block (a := ⟨ρ.RB, 4, none⟩) (W5.block ρ.RB hRBa hRBF)).trans y4a
            obtain ⟨⟨pk, nk, ck, rfl⟩, ⟨pa, na, ca, rfl⟩⟩ := KA.shape
            have T5 : StB w5 wr.heap.size (stV (.pointer none) (.int .u8 0) (.slice none 0 0) (.slice none 0 0)) := TZ.blk (W5.block wr.heap.size (show wr.heap.size < (wr.alloc (.cells #[.pointer none, .int .i64 0, .int .u8 0, .int .u8 0, .pointer none, .slice none 0 0, .slice none 0 0, .slice none 0 0] 173)).heap.size by simp) (by omega))
            have z0 : w5.cell? ⟨wr.heap.size, 0, none⟩ = some (.pointer none) := T5.c 0 (by omega)
            have z1 : w5.cell? ⟨wr.heap.size, 1, none⟩ = some (.int .i64 0) := T5.c 1 (by omega)
            have z2 : w5.cell? ⟨wr.heap.size, 2, none⟩ = some (.int .u8 0) := T5.c 2 (by omega)
            have z3 : w5.cell? ⟨wr.heap.size, 3, none⟩ = some (.int .u8 0) := T5.c 3 (by omega)
            have z4 : w5.cell? ⟨wr.heap.size, 4, none⟩ = some (.pointer none) := T5.c 4 (by omega)
            have z5 : w5.cell? ⟨wr.heap.size, 5, none⟩ = some (.slice none 0 0) := T5.c 5 (by omega)
            have z6 : w5.cell? ⟨wr.heap.size, 6, none⟩ = some (.slice none 0 0) := T5.c 6 (by omega)
            have z7 : w5.cell? ⟨wr.heap.size, 7, none⟩ = some (.slice none 0 0) := T5.c 7 (by omega)
            have zf := T5.fz
            have HT5 := hideIt T5
            clear T5
            have HX5 := hideIt (And.intro KA (And.intro B5 W5))
            clear KA B5 W5
            clear hHeld
            refine hK'.out _ _ y5 (fun hHeld => ?_)
            clear hK' K'
            try simp only [Act.put, List.setIfInBounds_toArray, List.set_cons_zero, List.set_cons_succ]
            refine wpAnyH_ready (rs := [15]) (by kernel_rfl) (by simp) ?_
            refine AllReadyH.cons (o := { dst := none, op := Go.Op.store 173 (Go.Operand.tmp 12) (Go.Operand.tmp 57), type := 0, pos := _, after := #[{ on := 14, ground := Go.Ground.data }, { on := 13, ground := Go.Ground.data }, { on := 13, ground := Go.Ground.chain }, { on := 0, ground := Go.Ground.phase }, { on := 1, ground := Go.Ground.phase }, { on := 2, ground := Go.Ground.phase }, { on := 3, ground := Go.Ground.phase }, { on := 4, ground := Go.Ground.phase }, { on := 5, ground := Go.Ground.phase }, { on := 6, ground := Go.Ground.phase }, { on := 7, ground := Go.Ground.phase }, { on := 8, ground := Go.Ground.phase }, { on := 9, ground := Go.Ground.phase }, { on := 10, ground := Go.Ground.phase }, { on := 11, ground := Go.Ground.phase }, { on := 12, ground := Go.Ground.phase }, { on := 13, ground := Go.Ground.phase }, { on := 14, ground := Go.Ground.phase }], guard := none }) rfl (fun K' hK' => ?_) AllReadyH.nil
            go_simp
            clear hHeld
            refine hK'.out _ _ ((World.cell?_of_block (a := ⟨ρ.RB, 4, none⟩) (have HH : ρ.RB ≠ wr.heap.size := (by omega); (far_set HH).trans ((far_set HH).trans ((far_set HH).trans ((far_set HH).trans ((far_set HH).trans ((far_set HH).trans ((far_set HH).trans (far_set HH))))))))).trans y5) (fun hHeld => ?_)
            clear hK' K'
            try simp only [Act.put, List.setIfInBounds_toArray, List.set_cons_zero, List.set_cons_succ]
            refine wpAnyH_done (by kernel_rfl) ?_ _
            go_wp2
            go_meet
            case rel =>
              obtain ⟨KA, B5, W5⟩ := HX5.out
              have bN := one_alloc wr (.cells #[.pointer none, .int .i64 0, .int .u8 0, .int .u8 0, .pointer none, .slice none 0 0, .slice none 0 0, .slice none 0 0] 173)
              have W6 : Wr FL (wr.alloc (.cells #[.pointer none, .int .i64 0, .int .u8 0, .int .u8 0, .pointer none, .slice none 0 0, .slice none 0 0, .slice none 0 0] 173)) w5 := ⟨W5.os, W5.tape, W5.output, W5.size, W5.block⟩
              have W5' : Wr FL wr w5 := (Wr.of_below bN).trans W6
              have hs5 := W5'.size
              have hs6 : wr.heap.size + 1 ≤ w5.heap.size := by have := W6.size; simp at this; omega
              have kl : ∀ q, (Value.slice pk nk ck).ownBlock = some q ∨ (Value.slice pa na ca).ownBlock = some q → wr.heap.size + 1 ≤ q := fun q hq => by have : (wr.alloc (.cells #[.pointer none, .int .i64 0, .int .u8 0, .int .u8 0, .pointer none, .slice none 0 0, .slice none 0 0, .slice none 0 0] 173)).heap.size + 2 ≤ q := (KA.lt hq).1; simp at this; omega
              refine ⟨wr.heap.size, .slice pk nk ck, .slice pa na ca, rfl, hideIt ⟨HT5.out.fill _ _ _ _, (KA.base (show w4.heap.size ≤ (wr.alloc (.cells #[.pointer none, .int .i64 0, .int .u8 0, .int .u8 0, .pointer none, .slice none 0 0, .slice none 0 0, .slice none 0 0] 173)).heap.size + 2 by simp; omega)).keep (fun q hq => have HH : q ≠ wr.heap.size := (by have := kl q hq; omega); (far_set HH).trans ((far_set HH).trans ((far_set HH).trans ((far_set HH).trans ((far_set HH).trans ((far_set HH).trans ((far_set HH).trans (far_set HH)))))))), fun q hq => by have := kl q hq; omega, B5.blk (have HH : FL ≠ wr.heap.size := (by omega); (far_set HH).trans ((far_set HH).trans ((far_set HH).trans ((far_set HH).trans ((far_set HH).trans ((far_set HH).trans ((far_set HH).trans (far_set HH)))))))), ((((((((W5'.other (Nat.le_refl _)).other (Nat.le_refl _)).other (Nat.le_refl _)).other (Nat.le_refl _)).other (Nat.le_refl _)).other (Nat.le_refl _)).other (Nat.le_refl _)).other (Nat.le_refl _))⟩, Nat.le_refl _, by simp; omega⟩
        · go_simp
          clear hHeld
          refine hK'.out _ _ y4a (fun hHeld => ?_)
          clear hK' K'
          try simp only [Act.put, List.setIfInBounds_toArray, List.set_cons_zero, List.set_cons_succ]
          refine wpAnyH_ready (rs := [11]) (by kernel_rfl) (by simp) ?_
          refine AllReadyH.cons (o := { dst := some 55, op := Go.Op.call { callee := Go.Callee.value (Go.Operand.func 55), args := #[Go.Operand.tmp 51, Go.Operand.tmp 52, Go.Operand.tmp 53, Go.Operand.tmp 54], argTypes := #[146, 81, 3, 3] }, type := 168, pos := _, after := #[{ on := 7, ground := Go.Ground.data }, { on := 8, ground := Go.Ground.data }, { on := 9, ground := Go.Ground.data }, { on := 10, ground := Go.Ground.data }], guard := none }) rfl (fun K' hK' => ?_) AllReadyH.nil
          go_simp
          go_at_call 55
          refine (window_any _ _ _).mono ?_
          rintro e w8 ⟨rfl, rfl⟩
          clear hHeld
          refine hK'.out _ _ y4a (fun hHeld => ?_)
          clear hK' K'
          try simp only [Act.put, List.setIfInBounds_toArray, List.set_cons_zero, List.set_cons_succ]
          refine wpAnyH_ready (rs := [13]) (by kernel_rfl) (by simp) ?_
          refine AllReadyH.cons (o := { dst := some 57, op := Go.Op.call { callee := Go.Callee.value (Go.Operand.func 54), args := #[Go.Operand.tmp 44, Go.Operand.tmp 50, Go.Operand.tmp 55, Go.Operand.tmp 56], argTypes := #[146, 167, 168, 122] }, type := 173, pos := _, after := #[{ on := 0, ground := Go.Ground.data }, { on := 6, ground := Go.Ground.data }, { on := 11, ground := Go.Ground.data }, { on := 12, ground := Go.Ground.data }, { on := 11, ground := Go.Ground.chain }], guard := none }) rfl (fun K' hK' => ?_) AllReadyH.nil
          go_simp
          go_at_call 54
          refine (hst (wr.alloc (.cells #[.pointer none, .int .i64 0, .int .u8 0, .int .u8 0, .pointer none, .slice none 0 0, .slice none 0 0, .slice none 0 0] 173)).drew.drew (below_dr (below_dr (one_alloc _ _)))).mono ?_
          rintro e w5 ⟨kv, av, rfl, KA, B5, W5⟩
          have y5 : w5.cell? ⟨ρ.RB, 4, none⟩ = some (.slice (some ⟨ρ.gj, 0, none⟩) ρ.m ρ.cj) := (World.cell?_of_block (a := ⟨ρ.RB, 4, none⟩) (W5.block ρ.RB hRBa hRBF)).trans y4a
          obtain ⟨⟨pk, nk, ck, rfl⟩, ⟨pa, na, ca, rfl⟩⟩ := KA.shape
          have T5 : StB w5 wr.heap.size (stV (.pointer none) (.int .u8 0) (.slice none 0 0) (.slice none 0 0)) := TZ.blk (W5.block wr.heap.size (show wr.heap.size < (wr.alloc (.cells #[.pointer none, .int .i64 0, .int .u8 0, .int .u8 0, .pointer none, .slice none 0 0, .slice none 0 0, .slice none 0 0] 173)).heap.size by simp) (by omega))
          have z0 : w5.cell? ⟨wr.heap.size, 0, none⟩ = some (.pointer none) := T5.c 0 (by omega)
          have z1 : w5.cell? ⟨wr.heap.size, 1, none⟩ = some (.int .i64 0) := T5.c 1 (by omega)
          have z2 : w5.cell? ⟨wr.heap.size, 2, none⟩ = some (.int .u8 0) := T5.c 2 (by omega)
          have z3 : w5.cell? ⟨wr.heap.size, 3, none⟩ = some (.int .u8 0) := T5.c 3 (by omega)
          have z4 : w5.cell? ⟨wr.heap.size, 4, none⟩ = some (.pointer none) := T5.c 4 (by omega)
          have z5 : w5.cell? ⟨wr.heap.size, 5, none⟩ = some (.slice none 0 0) := T5.c 5 (by omega)
          have z6 : w5.cell? ⟨wr.heap.size, 6, none⟩ = some (.slice none 0 0) := T5.c 6 (by omega)
          have z7 : w5.cell? ⟨wr.heap.size, 7, none⟩ = some (.slice none 0 0) := T5.c 7 (by omega)
          have zf := T5.fz
          have HT5 := hideIt T5
          clear T5
          have HX5 := hideIt (And.intro KA (And.intro B5 W5))
          clear KA B5 W5
          clear hHeld
          refine hK'.out _ _ y5 (fun hHeld => ?_)
          clear hK' K'
          try simp only [Act.put, List.setIfInBounds_toArray, List.set_cons_zero, List.set_cons_succ]
          refine wpAnyH_ready (rs := [15]) (by kernel_rfl) (by simp) ?_
          refine AllReadyH.cons (o := { dst := none, op := Go.Op.store 173 (Go.Operand.tmp 12) (Go.Operand.tmp 57), type := 0, pos := _, after := #[{ on := 14, ground := Go.Ground.data }, { on := 13, ground := Go.Ground.data }, { on := 13, ground := Go.Ground.chain }, { on := 0, ground := Go.Ground.phase }, { on := 1, ground := Go.Ground.phase }, { on := 2, ground := Go.Ground.phase }, { on := 3, ground := Go.Ground.phase }, { on := 4, ground := Go.Ground.phase }, { on := 5, ground := Go.Ground.phase }, { on := 6, ground := Go.Ground.phase }, { on := 7, ground := Go.Ground.phase }, { on := 8, ground := Go.Ground.phase }, { on := 9, ground := Go.Ground.phase }, { on := 10, ground := Go.Ground.phase }, { on := 11, ground := Go.Ground.phase }, { on := 12, ground := Go.Ground.phase }, { on := 13, ground := Go.Ground.phase }, { on := 14, ground := Go.Ground.phase }], guard := none }) rfl (fun K' hK' => ?_) AllReadyH.nil
          go_simp
          clear hHeld
          refine hK'.out _ _ ((World.cell?_of_block (a := ⟨ρ.RB, 4, none⟩) (have HH : ρ.RB ≠ wr.heap.size := (by omega); (far_set HH).trans ((far_set HH).trans ((far_set HH).trans ((far_set HH).trans ((far_set HH).trans ((far_set HH).trans ((far_set HH).trans (far_set HH))))))))).trans y5) (fun hHeld => ?_)
          clear hK' K'
          try simp only [Act.put, List.setIfInBounds_toArray, List.set_cons_zero, List.set_cons_succ]
          refine wpAnyH_done (by kernel_rfl) ?_ _
          go_wp2
          go_meet
          case rel =>
            obtain ⟨KA, B5, W5⟩ := HX5.out
            have bN := one_alloc wr (.cells #[.pointer none, .int .i64 0, .int .u8 0, .int .u8 0, .pointer none, .slice none 0 0, .slice none 0 0, .slice none 0 0] 173)
            have W6 : Wr FL (wr.alloc (.cells #[.pointer none, .int .i64 0, .int .u8 0, .int .u8 0, .pointer none, .slice none 0 0, .slice none 0 0, .slice none 0 0] 173)) w5 := ⟨W5.os, W5.tape, W5.output, W5.size, W5.block⟩
            have W5' : Wr FL wr w5 := (Wr.of_below bN).trans W6
            have hs5 := W5'.size
            have hs6 : wr.heap.size + 1 ≤ w5.heap.size := by have := W6.size; simp at this; omega
            have kl : ∀ q, (Value.slice pk nk ck).ownBlock = some q ∨ (Value.slice pa na ca).ownBlock = some q → wr.heap.size + 1 ≤ q := fun q hq => by have : (wr.alloc (.cells #[.pointer none, .int .i64 0, .int .u8 0, .int .u8 0, .pointer none, .slice none 0 0, .slice none 0 0, .slice none 0 0] 173)).heap.size + 2 ≤ q := (KA.lt hq).1; simp at this; omega
            refine ⟨wr.heap.size, .slice pk nk ck, .slice pa na ca, rfl, hideIt ⟨HT5.out.fill _ _ _ _, (KA.base (show w4.heap.size ≤ (wr.alloc (.cells #[.pointer none, .int .i64 0, .int .u8 0, .int .u8 0, .pointer none, .slice none 0 0, .slice none 0 0, .slice none 0 0] 173)).heap.size + 2 by simp; omega)).keep (fun q hq => have HH : q ≠ wr.heap.size := (by have := kl q hq; omega); (far_set HH).trans ((far_set HH).trans ((far_set HH).trans ((far_set HH).trans ((far_set HH).trans ((far_set HH).trans ((far_set HH).trans (far_set HH)))))))), fun q hq => by have := kl q hq; omega, B5.blk (have HH : FL ≠ wr.heap.size := (by omega); (far_set HH).trans ((far_set HH).trans ((far_set HH).trans ((far_set HH).trans ((far_set HH).trans ((far_set HH).trans ((far_set HH).trans (far_set HH)))))))), ((((((((W5'.other (Nat.le_refl _)).other (Nat.le_refl _)).other (Nat.le_refl _)).other (Nat.le_refl _)).other (Nat.le_refl _)).other (Nat.le_refl _)).other (Nat.le_refl _)).other (Nat.le_refl _))⟩, Nat.le_refl _, by simp; omega⟩
      case rest =>
      clear y4 y4d co HST
      obtain ⟨SB, kv, av, rfl, HZ, hSB, hSBl⟩ := hcut
      obtain ⟨T, KA, dis, Bc, Wc⟩ := HZ.out
      have hwc := Wc.size
      obtain ⟨⟨pk, nk, ck, rfl⟩, ⟨pa, na, ca, rfl⟩⟩ := KA.shape
      have s1 : wc.cell? ⟨SB, 1, none⟩ = some (.int .i64 0) := T.c 1 (by omega)
      have s7 : wc.cell? ⟨SB, 7, none⟩ = some (.slice none 0 0) := T.c 7 (by omega)
      have sf := T.fz
      have hRBS : ρ.RB ≠ SB := by omega
      have y5' : (wc.setCell ⟨SB, 1, none⟩ (.int .i64 (k : Int))).cell? ⟨ρ.RB, 5, none⟩ = some (.slice none 0 0) := (World.cell?_of_block (a := ⟨ρ.RB, 5, none⟩) ((far_set hRBS).trans (Wc.block ρ.RB hRBw hRBF))).trans y5
      have hrp := fun fv pv => ripe_any fv pv y5'
      clear T KA dis Bc Wc y5 y5'
      go_wp2_with fail
      refine (hrp _ _).mono ?_
      rintro e wq ⟨rfl, ew⟩
      replace ew := ew.symm
      subst ew
      clear hrp
      go_upto_region 11 with fail
      obtain ⟨T, KA, dis, Bc, Wc⟩ := HZ.out
      obtain ⟨I, B, W, R⟩ := HI.out
      have ff : ∀ q, q ≠ SB → ((wc.setCell ⟨SB, 1, none⟩ (.int .i64 (k : Int))).setCell ⟨SB, 7, none⟩ (.slice none 0 0)).heap[q]? = wc.heap[q]? := fun q z => (far_set z).trans (far_set z)
      have fw : ∀ q, q < wr.heap.size → q ≠ FL → ((wc.setCell ⟨SB, 1, none⟩ (.int .i64 (k : Int))).setCell ⟨SB, 7, none⟩ (.slice none 0 0)).heap[q]? = wr.heap[q]? := fun q z1 z2 => (ff q (by omega)).trans (Wc.block q z1 z2)
      have I6 : PlI ((wc.setCell ⟨SB, 1, none⟩ (.int .i64 (k : Int))).setCell ⟨SB, 7, none⟩ (.slice none 0 0)) P w4.heap.size ρ kn k sv ky ac := I.keep (fun q hq => fw q (I.lt hq).2 (by have := I.lt hq; omega))
      have KA6 : KaAt ((wc.setCell ⟨SB, 1, none⟩ (.int .i64 (k : Int))).setCell ⟨SB, 7, none⟩ (.slice none 0 0)) w4.heap.size ρ (kn k) k (.slice pk nk ck) (.slice pa na ca) := KA.keep (fun q hq => ff q (dis q hq).1)
      have B6 : BoolAt ((wc.setCell ⟨SB, 1, none⟩ (.int .i64 (k : Int))).setCell ⟨SB, 7, none⟩ (.slice none 0 0)) FL ρ.R (fbs ρ (k + 1)) := Bc.blk (ff FL (by omega))
      have T6 := (T.put (k := 1) (by omega) (.int .i64 (k : Int))).put (k := 7) (by omega) (.slice none 0 0)
      have W6 : Ws (fun q => q = P ∨ q = FL) wr ((wc.setCell ⟨SB, 1, none⟩ (.int .i64 (k : Int))).setCell ⟨SB, 7, none⟩ (.slice none 0 0)) := ⟨Wc.os, Wc.tape, Wc.output, by simpa using hwc, fun q z1 z2 => fw q z1 (fun e => z2 (.inr e))⟩
      have hdk : ∀ q, (Value.slice pk nk ck).ownBlock = some q ∨ (Value.slice pa na ca).ownBlock = some q → sv.ownBlock ≠ some q := fun q hq e => by have := (dis q hq).2; have := (I.own.lt q e).2; omega
      have hrS' : sv.ownBlock ≠ some SB := fun e => by have := (I.own.lt SB e).2; omega
      have hs6 : ((wc.setCell ⟨SB, 1, none⟩ (.int .i64 (k : Int))).setCell ⟨SB, 7, none⟩ (.slice none 0 0)).heap.size = wc.heap.size := by simp
      replace hs6 : wc.heap.size ≤ ((wc.setCell ⟨SB, 1, none⟩ (.int .i64 (k : Int))).setCell ⟨SB, 7, none⟩ (.slice none 0 0)).heap.size := by omega
      clear T KA dis Bc Wc I B R ff fw s1 s7 sf HZ HI
      generalize (wc.setCell ⟨SB, 1, none⟩ (.int .i64 (k : Int))).setCell ⟨SB, 7, none⟩ (.slice none 0 0) = wd at *
      obtain ⟨vs, cs, rfl⟩ := own_shape I6.own
      have j3 := I6.c3
      have fzd := I6.fz
      have hPd : P < wd.heap.size := by omega
      have hrP : some P ≠ (Value.slice vs k cs).ownBlock := fun e => by have := (I6.own.lt P e.symm).1; omega
      have hrS : some SB ≠ (Value.slice vs k cs).ownBlock := fun e => hrS' e.symm
      have e0 : wd.cell? ⟨SB, 0, none⟩ = some (.pointer (some ⟨ρ.gj, k * 3, none⟩)) := T6.c 0 (by omega)
      have e1 : wd.cell? ⟨SB, 1, none⟩ = some (.int .i64 (k : Int)) := T6.c 1 (by omega)
      have e2 : wd.cell? ⟨SB, 2, none⟩ = some (.int .u8 0) := T6.c 2 (by omega)
      have e3 : wd.cell? ⟨SB, 3, none⟩ = some (.int .u8 hi8) := T6.c 3 (by omega)
      have e4 : wd.cell? ⟨SB, 4, none⟩ = some (.pointer none) := T6.c 4 (by omega)
      have e5 : wd.cell? ⟨SB, 5, none⟩ = some (.slice pk nk ck) := T6.c 5 (by omega)
      have e6 : wd.cell? ⟨SB, 6, none⟩ = some (.slice pa na ca) := T6.c 6 (by omega)
      have e7 : wd.cell? ⟨SB, 7, none⟩ = some (.slice none 0 0) := T6.c 7 (by omega)
      have HOWN := hideIt I6.own
      have HN := hideIt (And.intro I6 (And.intro KA6 (And.intro B6 (And.intro W6 (And.intro W hdk)))))
      clear I6 KA6 B6 W6 W T6 hdk hrS'
      refine wp_region_l (l := 10) (S := (fun w' => w'.cell? ⟨P, 3, none⟩ = some (.slice vs k cs) ∧ w'.cell? ⟨SB, 0, none⟩ = some (.pointer (some ⟨ρ.gj, k * 3, none⟩)) ∧ w'.cell? ⟨SB, 1, none⟩ = some (.int .i64 (k : Int)) ∧ w'.cell? ⟨SB, 2, none⟩ = some (.int .u8 0) ∧ w'.cell? ⟨SB, 3, none⟩ = some (.int .u8 hi8) ∧ w'.cell? ⟨SB, 4, none⟩ = some (.pointer none) ∧ w'.cell? ⟨SB, 5, none⟩ = some (.slice pk nk ck) ∧ w'.cell? ⟨SB, 6, none⟩ = some (.slice pa na ca) ∧ w'.cell? ⟨SB, 7, none⟩ = some (.slice none 0 0))) (by kernel_rfl) ⟨j3, e0, e1, e2, e3, e4, e5, e6, e7⟩ (fun hHeld => ?_)
      refine AnyL.take2 (i := 0) (oi := { dst := some 65, op := Go.Op.move (Go.Operand.tmp 7), type := 150, pos := _, after := #[], guard := none }) (v := ?vv30001) (by kernel_rfl) (by kernel_rfl) rfl (by kernel_rfl) (by kernel_rfl) (by kernel_rfl) (fun _ _ _ h => h) (Or.inl ⟨by rfl, ?hy30001⟩) (by assumption) ?tk30001
      case hy30001 => (intro w hSw; (try dsimp only at hSw); go_simp; (try with_reducible rfl))
      try simp only [Act.put, List.setIfInBounds_toArray, List.set_cons_zero, List.set_cons_succ]
      refine AnyL.take2 (i := 1) (oi := { dst := some 66, op := Go.Op.move (Go.Operand.tmp 7), type := 150, pos := _, after := #[], guard := none }) (v := ?vv30002) (by kernel_rfl) (by kernel_rfl) rfl (by kernel_rfl) (by kernel_rfl) (by kernel_rfl) (fun _ _ _ h => h) (Or.inl ⟨by rfl, ?hy30002⟩) (by assumption) ?tk30002
      case hy30002 => (intro w hSw; (try dsimp only at hSw); go_simp; (try with_reducible rfl))
      try simp only [Act.put, List.setIfInBounds_toArray, List.set_cons_zero, List.set_cons_succ]
      refine AnyL.take2 (i := 2) (oi := { dst := some 67, op := Go.Op.nilCheck (Go.Operand.tmp 66), type := 0, pos := _, after := #[{ on := 1, ground := Go.Ground.data }], guard := none }) (v := ?vv30003) (by kernel_rfl) (by kernel_rfl) rfl (by kernel_rfl) (by kernel_rfl) (by kernel_rfl) (fun _ _ _ h => h) (Or.inl ⟨by rfl, ?hy30003⟩) (by assumption) ?tk30003
      case hy30003 => (intro w hSw; (try dsimp only at hSw); go_simp; (try with_reducible rfl))
      try simp only [Act.put, List.setIfInBounds_toArray, List.set_cons_zero, List.set_cons_succ]
      refine AnyL.take2 (i := 3) (oi := { dst := some 68, op := Go.Op.fieldAddr 164 (Go.Operand.tmp 67) 3, type := 0, pos := _, after := #[{ on := 2, ground := Go.Ground.data }], guard := none }) (v := ?vv30004) (by kernel_rfl) (by kernel_rfl) rfl (by kernel_rfl) (by kernel_rfl) (by kernel_rfl) (fun _ _ _ h => h) (Or.inl ⟨by rfl, ?hy30004⟩) (by assumption) ?tk30004
      case hy30004 => (intro w hSw; (try dsimp only at hSw); go_simp; (try with_reducible rfl))
      try simp only [Act.put, List.setIfInBounds_toArray, List.set_cons_zero, List.set_cons_succ]
      refine AnyL.take2 (i := 4) (oi := { dst := some 69, op := Go.Op.load 162 (Go.Operand.tmp 68), type := 162, pos := _, after := #[{ on := 3, ground := Go.Ground.data }], guard := none }) (v := ?vv30005) (by kernel_rfl) (by kernel_rfl) rfl (by kernel_rfl) (by kernel_rfl) (by kernel_rfl) (fun _ _ _ h => h) (Or.inl ⟨by rfl, ?hy30005⟩) (by assumption) ?tk30005
      case hy30005 => (intro w hSw; (try dsimp only at hSw); go_simp; (try with_reducible rfl))
      try simp only [Act.put, List.setIfInBounds_toArray, List.set_cons_zero, List.set_cons_succ]
      refine AnyL.take2 (i := 5) (oi := { dst := some 70, op := Go.Op.load 173 (Go.Operand.tmp 12), type := 173, pos := _, after := #[], guard := none }) (v := ?vv30006) (by kernel_rfl) (by kernel_rfl) rfl (by kernel_rfl) (by kernel_rfl) (by kernel_rfl) (fun _ _ _ h => h) (Or.inl ⟨by rfl, ?hy30006⟩) (by assumption) ?tk30006
      case hy30006 => (intro w hSw; (try dsimp only at hSw); go_simp; (try with_reducible rfl))
      try simp only [Act.put, List.setIfInBounds_toArray, List.set_cons_zero, List.set_cons_succ]
      refine AnyL.one (i := 6) (o := { dst := some 71, op := Go.Op.buildSlice 162 1 #[(0, Go.Operand.tmp 70)], type := 162, pos := _, after := #[{ on := 5, ground := Go.Ground.data }], guard := none }) (by kernel_rfl) rfl rfl (fun K' hK' => ?_)
      go_simp
      clear hHeld
      refine hK'.out _ _ ⟨cell_later (below_dr (one_alloc _ _)) j3, cell_later (below_dr (one_alloc _ _)) e0, cell_later (below_dr (one_alloc _ _)) e1, cell_later (below_dr (one_alloc _ _)) e2, cell_later (below_dr (one_alloc _ _)) e3, cell_later (below_dr (one_alloc _ _)) e4, cell_later (below_dr (one_alloc _ _)) e5, cell_later (below_dr (one_alloc _ _)) e6, cell_later (below_dr (one_alloc _ _)) e7⟩ (fun hHeld => ?_)
      clear hK' K'
      try simp only [Act.put, List.setIfInBounds_toArray, List.set_cons_zero, List.set_cons_succ]
      refine AnyL.one (i := 7) (o := { dst := some 72, op := Go.Op.call { callee := Go.Callee.builtin Go.Builtin.append, args := #[Go.Operand.tmp 69, Go.Operand.tmp 71], argTypes := #[162, 162] }, type := 162, pos := _, after := #[{ on := 4, ground := Go.Ground.data }, { on := 6, ground := Go.Ground.data }], guard := none }) (by kernel_rfl) rfl rfl (fun K' hK' => ?_)
      refine ite_take (by rfl) ?_
      refine wp_append_own_at (.tmp 69) (.tmp 71) 162 rfl w4.heap.size 173 i9 ((.agg #[.pointer none, .int .i64 0, .int .u8 0, .int .u8 0, .pointer none, .slice none 0 0, .slice none 0 0, .slice none 0 0])) 8 104 Try.underlying162 hi9 hx0 hx1 hx2 rfl (by decide) (.slice vs k cs) k (stC ρ kn ky ac k) rfl (HOWN.out.alloc _) ⟨wd.heap.size, 0, none⟩ 1 1 [.pointer (some ⟨ρ.gj, k * 3, none⟩), .int .i64 (k : Int), .int .u8 0, .int .u8 hi8, .pointer none, .slice pk nk ck, .slice pa na ca, .slice none 0 0] rfl rfl (cell_new_8 _ _ _ _ _ _ _ _ _ _) (by simp [Value.oneCell']) (by unfold maxLen; omega) (by omega) (by simp <;> omega) ?_
      intro v' w3 hown' hgrow hblk
      obtain ⟨p', c', rfl⟩ := own_shape hown'
      have kk0 := hgrow.cell (a := ⟨P, 3, none⟩) (hHeld.1) hrP
      have kk1 := hgrow.cell (a := ⟨SB, 0, none⟩) (hHeld.2.1) hrS
      have kk2 := hgrow.cell (a := ⟨SB, 1, none⟩) (hHeld.2.2.1) hrS
      have kk3 := hgrow.cell (a := ⟨SB, 2, none⟩) (hHeld.2.2.2.1) hrS
      have kk4 := hgrow.cell (a := ⟨SB, 3, none⟩) (hHeld.2.2.2.2.1) hrS
      have kk5 := hgrow.cell (a := ⟨SB, 4, none⟩) (hHeld.2.2.2.2.2.1) hrS
      have kk6 := hgrow.cell (a := ⟨SB, 5, none⟩) (hHeld.2.2.2.2.2.2.1) hrS
      have kk7 := hgrow.cell (a := ⟨SB, 6, none⟩) (hHeld.2.2.2.2.2.2.2.1) hrS
      have kk8 := hgrow.cell (a := ⟨SB, 7, none⟩) (hHeld.2.2.2.2.2.2.2.2) hrS
      have fz3 : ∀ o, w3.frozen? ⟨P, o, none⟩ = false := fun o => ((World.frozen?_of_block (a := ⟨P, o, none⟩) (hgrow.block P (by simp; omega) hrP)).trans (World.frozen?_of_block (a := ⟨P, o, none⟩) ((one_alloc wd _).block P hPd))).trans (fzd o)
      have HG := hideIt (And.intro hown' (And.intro hgrow hblk))
      clear hown' hgrow hblk
      clear hHeld
      refine hK'.out _ _ ⟨kk0, kk1, kk2, kk3, kk4, kk5, kk6, kk7, kk8⟩ (fun hHeld => ?_)
      clear hK' K'
      try simp only [Act.put, List.setIfInBounds_toArray, List.set_cons_zero, List.set_cons_succ]
      refine AnyL.take2 (i := 8) (oi := { dst := some 73, op := Go.Op.nilCheck (Go.Operand.tmp 65), type := 0, pos := _, after := #[{ on := 0, ground := Go.Ground.data }, { on := 0, ground := Go.Ground.phase }, { on := 1, ground := Go.Ground.phase }, { on := 2, ground := Go.Ground.phase }, { on := 3, ground := Go.Ground.phase }, { on := 4, ground := Go.Ground.phase }, { on := 5, ground := Go.Ground.phase }, { on := 6, ground := Go.Ground.phase }, { on := 7, ground := Go.Ground.phase }], guard := none }) (v := ?vv30007) (by kernel_rfl) (by kernel_rfl) rfl (by kernel_rfl) (by kernel_rfl) (by kernel_rfl) (fun _ _ _ h => h) (Or.inl ⟨by rfl, ?hy30007⟩) (by assumption) ?tk30007
      case hy30007 => (intro w hSw; (try dsimp only at hSw); go_simp; (try with_reducible rfl))
      try simp only [Act.put, List.setIfInBounds_toArray, List.set_cons_zero, List.set_cons_succ]
      refine AnyL.take2 (i := 9) (oi := { dst := some 74, op := Go.Op.fieldAddr 164 (Go.Operand.tmp 73) 3, type := 0, pos := _, after := #[{ on := 8, ground := Go.Ground.data }, { on := 0, ground := Go.Ground.phase }, { on := 1, ground := Go.Ground.phase }, { on := 2, ground := Go.Ground.phase }, { on := 3, ground := Go.Ground.phase }, { on := 4, ground := Go.Ground.phase }, { on := 5, ground := Go.Ground.phase }, { on := 6, ground := Go.Ground.phase }, { on := 7, ground := Go.Ground.phase }], guard := none }) (v := ?vv30008) (by kernel_rfl) (by kernel_rfl) rfl (by kernel_rfl) (by kernel_rfl) (by kernel_rfl) (fun _ _ _ h => h) (Or.inl ⟨by rfl, ?hy30008⟩) (by assumption) ?tk30008
      case hy30008 => (intro w hSw; (try dsimp only at hSw); go_simp; (try with_reducible rfl))
      try simp only [Act.put, List.setIfInBounds_toArray, List.set_cons_zero, List.set_cons_succ]
      refine AnyL.last (o := { dst := none, op := Go.Op.store 162 (Go.Operand.tmp 74) (Go.Operand.tmp 72), type := 0, pos := _, after := #[{ on := 9, ground := Go.Ground.data }, { on := 7, ground := Go.Ground.data }, { on := 7, ground := Go.Ground.chain }, { on := 0, ground := Go.Ground.phase }, { on := 1, ground := Go.Ground.phase }, { on := 2, ground := Go.Ground.phase }, { on := 3, ground := Go.Ground.phase }, { on := 4, ground := Go.Ground.phase }, { on := 5, ground := Go.Ground.phase }, { on := 6, ground := Go.Ground.phase }, { on := 7, ground := Go.Ground.phase }], guard := none }) (by kernel_rfl) rfl (by kernel_rfl) (fun K' hK' => ?_)
      go_simp
      clear hHeld
      refine hK'.out _ _ ?_
      clear hK' K'
      try simp only [Act.put, List.setIfInBounds_toArray, List.set_cons_zero, List.set_cons_succ]
      go_wp2
      go_roundg (ρ.m - (k + 1))
      case measure => omega
      case rel =>
        obtain ⟨I6, KA6, B6, W6, W, hdk⟩ := HN.out
        obtain ⟨hown', hgrow, hblk⟩ := HG.out
        have bDA := below_dr (one_alloc wd (.cells #[.pointer (some ⟨ρ.gj, k * 3, none⟩), .int .i64 (k : Int), .int .u8 0, .int .u8 hi8, .pointer none, .slice pk nk ck, .slice pa na ca, .slice none 0 0] 173))
        have hsz := bDA.size
        have hsz3 := hgrow.size
        have I7 := I6.push (by omega) KA6 hdk (by rw [HHW.out]; exact hown') bDA hgrow hblk
        have kp5 : ∀ q, q < w4.heap.size → q ≠ P → (w3.setCell ⟨P, 3, none⟩ (.slice p' (k + 1) c')).heap[q]? = wd.heap[q]? := fun q z1 z2 => (far_set z2).trans ((hgrow.block q (by omega) (fun e => by have := (I6.own.lt q e.symm).1; omega)).trans (bDA.block q (by omega)))
        refine ⟨k + 1, by omega, by go_num, _, _, _, I7, B6.blk (kp5 FL (by omega) (by omega)), ?_⟩
        have W46 := W.trans W6
        exact ⟨hgrow.os.trans (bDA.os.trans W46.os), hgrow.tape.trans (bDA.tape.trans W46.tape), hgrow.output.trans (bDA.output.trans W46.output), by simp; omega, fun q z1 z2 => (kp5 q z1 (fun e => z2 (.inl e))).trans (W46.block q z1 z2)⟩
    · have hkm : k = ρ.m := by omega
      have k1 : ¬ ((k : Int) < (ρ.m : Int)) := by omega
      have HI := hideIt (And.intro I W)
      have HKM := hideIt hkm
      clear I B W hkm hk hin
      go_wp2
      go_ret
      obtain ⟨I, W⟩ := HI.out
      obtain ⟨I4, B4, Hr4, hSp4, hw4⟩ := HZ4.out
      have hkm := HKM.out
      subst hkm
      have hPe := HPE.out
      obtain ⟨HR, HK, H, hr, hA, hd, hdr, hS, hSl, hSr, hne, h0, h1, h3, b1, hs1⟩ := HQ.out
      rw [hPe]
      refine ⟨rfl, ⟨sv, ky, ac, I.base (by omega)⟩, sp, sa, Hr4.blk (W.block _ (by omega) (by omega)), ?_, ?_⟩
      · exact (hSp4.ws (W.mono (fun q z1 z2 => .inr z2))).weak (fun q z1 z2 => .inl z2)
      · exact ⟨W.os.trans hw4.os, W.tape.trans hw4.tape, W.output.trans hw4.output, Nat.le_trans hw4.size W.size, fun q z1 z2 => (W.block q (by omega) (by omega)).trans (hw4.block q z1 z2)⟩
end Go.Proofs.Qxb6500880a
