import Derived.Deep.CutBlock
import Derived.OwnWalk
import Derived.Maps.AppendAt
import Derived.Maps.OwnSet
import Derived.Maps.OwnOps
import Derived.Laws.ResultCell
import Derived.Test.Qxb6500880aZd
set_option linter.unusedVariables false
set_option linter.unusedSimpArgs false
namespace Go.Proofs.Qxb6500880a
open Go.RowKit

/-- The registers filled when k joins are taken. -/
def fbs (ρ : Rl) : Nat → Nat → Bool
  | 0 => fun _ => false
  | k + 1 => fillF (fbs ρ k) (ρ.F k) ρ.n
def tks (k : Nat) : Nat → Bool := fun j => decide (j < k)
theorem tks_succ (k : Nat) : onB (tks k) k = tks (k + 1) := by
  funext j
  unfold onB tks
  by_cases h : j = k
  · subst h; simp
  · rw [if_neg h]
    by_cases g : j < k
    · simp [g, (by omega : j < k + 1)]
    · have g2 : ¬ j < k + 1 := by omega
      rw [decide_eq_false g, decide_eq_false g2]
theorem fillF_iff (b : Nat → Bool) (f : Nat → Nat) (x : Nat) : ∀ n, fillF b f n x = true ↔ b x = true ∨ ∃ t, t < n ∧ f t = x
  | 0 => by simp [fillF]
  | n + 1 => by
    have ih := fillF_iff b f x n
    unfold fillF onB
    by_cases h : x = f n
    · rw [if_pos h]
      simp only [true_iff]
      exact .inr ⟨n, by omega, h.symm⟩
    · rw [if_neg h, ih]
      constructor
      · rintro (h1 | ⟨t, h1, h2⟩)
        · exact .inl h1
        · exact .inr ⟨t, by omega, h2⟩
      · rintro (h1 | ⟨t, h1, h2⟩)
        · exact .inl h1
        · rcases (by omega : t < n ∨ t = n) with h3 | h3
          · exact .inr ⟨t, h3, h2⟩
          · subst h3; exact absurd h2.symm h
theorem fbs_iff (ρ : Rl) (x : Nat) : ∀ k, fbs ρ k x = true ↔ ∃ j t, j < k ∧ t < ρ.n ∧ ρ.F j t = x
  | 0 => by simp [fbs]
  | k + 1 => by
    show fillF (fbs ρ k) (ρ.F k) ρ.n x = true ↔ _
    rw [fillF_iff, fbs_iff ρ x k]
    constructor
    · rintro (⟨j, t, h1, h2, h3⟩ | ⟨t, h2, h3⟩)
      · exact ⟨j, t, by omega, h2, h3⟩
      · exact ⟨k, t, by omega, h2, h3⟩
    · rintro ⟨j, t, h1, h2, h3⟩
      rcases (by omega : j < k ∨ j = k) with h | h
      · exact .inl ⟨j, t, h, h2, h3⟩
      · subst h; exact .inr ⟨t, h2, h3⟩
/-- When k joins are taken, all the registers of the others are filled, or none. -/
structure RlK (ρ : Rl) (kn : Nat → Bool) : Prop where
  a : ∀ k j t, k ≤ j → j < ρ.m → t < ρ.n → fbs ρ k (ρ.F j t) = kn k
  b : ∀ k, kn k = true → ρ.n = 1
  c : ∀ j t t', j < ρ.m → t < ρ.n → t' < ρ.n → ρ.F j t = ρ.F j t' → t = t'
theorem RlK_one {ρ : Rl} (h1 : ρ.n = 1) (hF : ∀ j, ρ.F j 0 = 0) : RlK ρ (fun k => decide (0 < k)) := by
  refine ⟨fun k j t h2 h3 h4 => ?_, fun k _ => h1, fun j t t' _ h2 h3 _ => by omega⟩
  have ht : t = 0 := by omega
  subst ht
  by_cases hk : 0 < k
  · simp only [hk, decide_true]
    rw [fbs_iff]
    exact ⟨0, 0, hk, h4, by rw [hF, hF]⟩
  · have : k = 0 := by omega
    subst this
    rfl
theorem RlK_all {ρ : Rl} (hF : ∀ j t, j < ρ.m → t < ρ.n → ρ.F j t = j * ρ.n + t) : RlK ρ (fun _ => false) := by
  have inj : ∀ j t j' t', j < ρ.m → t < ρ.n → j' < ρ.m → t' < ρ.n → ρ.F j t = ρ.F j' t' → j = j' ∧ t = t' := by
    intro j t j' t' h1 h2 h3 h4 e
    rw [hF j t h1 h2, hF j' t' h3 h4] at e
    have hjj : j = j' := by
      have a1 : (j * ρ.n + t) / ρ.n = j := by rw [Nat.mul_comm, Nat.mul_add_div (by omega), Nat.div_eq_of_lt h2]; rfl
      have a2 : (j' * ρ.n + t') / ρ.n = j' := by rw [Nat.mul_comm, Nat.mul_add_div (by omega), Nat.div_eq_of_lt h4]; rfl
      rw [← a1, e, a2]
    subst hjj
    exact ⟨rfl, by omega⟩
  refine ⟨fun k j t h2 h3 h4 => ?_, fun k h => by simp at h, fun j t t' h1 h2 h3 e => (inj j t j t' h1 h2 h1 h3 e).2⟩
  cases hb : fbs ρ k (ρ.F j t)
  · rfl
  · rw [fbs_iff] at hb
    obtain ⟨j', t', h5, h6, h7⟩ := hb
    have := (inj j' t' j t (by omega) h6 h3 h4 h7).1
    omega
theorem SprOk.weak {S S' : Nat → Prop} {w : World} {s : RelS} (h : SprOk S w s) (hs : ∀ q, q < w.heap.size → S' q → S q) : SprOk S' w s := by
  rcases h with h | ⟨g, h1, h2, h3, h4⟩
  · exact .inl h
  · exact .inr ⟨g, h1, h2, h3, fun e => h4 (hs g (World.block_lt_of_cell? _ _ h2) e)⟩
def costV (kn : Bool) : Value := .float .f64 (if kn then 13830554455654793216 else 4607182418800017408)
theorem lss_cost (kn : Bool) (w : World) : (binOp .lss 209 (costV kn) (costV kn)).run Try.prog w = .ok (.bool false) w := by cases kn <;> kernel_rfl
set_option maxRecDepth 20000 in
set_option maxHeartbeats 8000000 in
theorem greedy_any {S : Nat → Prop} {w : World} {ρ : Rl} {nm : ByteArray} {s : RelS} {kn : Nat → Bool} (pv : Value) (HR : RuX w ρ) (HK : RlK ρ kn) (H : RelAt w ρ.rb nm s) (hr : s.rows = 1) (hA : s.A = ρ.n) (hd : SymZ w s.data ρ.n) (hdr : s.data.ownBlock ≠ some ρ.rb) (hS : SprOk S w s) (hSl : ∀ q, S q → q < w.heap.size) (hSr : S ρ.rb) (hne : ∀ q, ρ.has q → q ≠ ρ.rb) (hm : ρ.m ≤ 100) (hn : ρ.n ≤ 100) (hR : ρ.R ≤ 1000) :
    Calls Try.prog 68 #[pv, .pointer (some ⟨ρ.RB, 0, none⟩), .int .i64 (-1)] w fun e w' => ∃ OR, e = .returned (.slice (some ⟨OR, 0, none⟩) ρ.m ρ.m) ∧ w.heap.size ≤ OR ∧ (∀ i, i < ρ.m → w'.cell? ⟨OR, i, none⟩ = some (.int .i64 (i : Int))) ∧ ∃ sp sa, RelAt w' ρ.rb nm { s with spr := sp, sat := sa } ∧ SprOk S w' { s with spr := sp, sat := sa } ∧ Wr ρ.rb w w' := by
  obtain ⟨i3, hi3, hz0, hz1, hz2⟩ := info_parts info3
  obtain ⟨i4, hi4, hy0, hy1, hy2⟩ := info_parts info4
  have bP := one_alloc w (.cells #[.pointer (some ⟨ρ.RB, 0, none⟩)] 81)
  have p1 : (w.alloc (.cells #[.pointer (some ⟨ρ.RB, 0, none⟩)] 81)).cell? ⟨w.heap.size, 0, none⟩ = some (.pointer (some ⟨ρ.RB, 0, none⟩)) := by simp
  have q4 := cell_later bP HR.c4
  have q7 := cell_later bP HR.c7
  have hw1 : (w.alloc (.cells #[.pointer (some ⟨ρ.RB, 0, none⟩)] 81)).heap.size = w.heap.size + 1 := by simp
  have hRl := HR.lt (q := ρ.RB) (.inl rfl)
  have HQ := hideIt (And.intro HR (And.intro HK (And.intro H (And.intro hr (And.intro hA (And.intro hd (And.intro hdr (And.intro hS (And.intro hSl (And.intro hSr (And.intro hne bP)))))))))))
  clear HR HK H hr hA hd hdr hS hSl hSr hne bP
  go_enter Try.func68, Try.ntmps68
  have HW1 := hideIt hw1
  clear hw1
  go_upto_region 1 with fail
  generalize (w.alloc (.cells #[.pointer (some ⟨ρ.RB, 0, none⟩)] 81)) = w1 at *
  go_wp2_with (first | (at_make; refine wpList_make_own _ rfl _ _ 86 rfl 0 3 i3 _ 1 Try.underlying86 hi3 hz0 hz1 .i64 .i64 (ρ.m : Int) ρ.m rfl rfl rfl (by rw [hz2]; omega) (by unfold maxLen; omega) (Nat.zero_le _) ?_) | go_in)
  intro w2 own2 grow2
  have hb2 : Below w1.heap.size w1 w2 := ⟨grow2.os, grow2.tape, grow2.output, grow2.size, fun k hk => grow2.block k hk (by simp)⟩
  have hg2 : w1.heap.size < w2.heap.size := (own2.lt w1.heap.size rfl).2
  have p2 := cell_later hb2 p1
  have r4 := cell_later hb2 q4
  have r7 := cell_later hb2 q7
  have H2 := hideIt (And.intro own2 hb2)
  clear own2 grow2 hb2 p1 q4 q7
  go_upto_region 2 with fail
  have b3 := one_alloc w2 (.cells #[.slice (some ⟨w1.heap.size, 0, none⟩) 0 ρ.m] 86)
  have o3 : (w2.alloc (.cells #[.slice (some ⟨w1.heap.size, 0, none⟩) 0 ρ.m] 86)).cell? ⟨w2.heap.size, 0, none⟩ = some (.slice (some ⟨w1.heap.size, 0, none⟩) 0 ρ.m) := by simp
  have of3 : ∀ o, (w2.alloc (.cells #[.slice (some ⟨w1.heap.size, 0, none⟩) 0 ρ.m] 86)).frozen? ⟨w2.heap.size, o, none⟩ = false := fun o => by simp
  have hs3 : (w2.alloc (.cells #[.slice (some ⟨w1.heap.size, 0, none⟩) 0 ρ.m] 86)).heap.size = w2.heap.size + 1 := by simp
  have p3 := cell_later b3 p2
  have s4 := cell_later b3 r4
  have s7 := cell_later b3 r7
  have H3 := hideIt (And.intro b3 (And.intro o3 (And.intro of3 hs3)))
  clear b3 o3 of3 hs3 p2 r4 r7
  generalize (w2.alloc (.cells #[.slice (some ⟨w1.heap.size, 0, none⟩) 0 ρ.m] 86)) = w3 at *
  go_wp2_with (first | (at_make; refine wpList_make_full _ rfl _ _ 122 rfl w3.heap.size 4 i4 _ 1 Try.underlying122 hi4 hy0 hy1 .i64 .i64 (ρ.m : Int) (ρ.m : Int) ρ.m rfl rfl rfl rfl (by rw [hy2]; omega) (by unfold maxLen; omega) (by simp <;> omega) ?_) | go_in)
  intro w4 own4 grow4
  have b4 : Below w3.heap.size w3 w4 := ⟨grow4.os, grow4.tape, grow4.output, grow4.size, fun k hk => grow4.block k hk (by simp)⟩
  have hg4 : w3.heap.size < w4.heap.size := (own4.lt w3.heap.size rfl).2
  have B4 : BoolAt w4 w3.heap.size ρ.m (fun _ => false) := by
    refine ⟨fun j hj => ?_, fun o => own4.frozenAt o⟩
    have e := own4.cellAt j (by omega)
    rw [made_one, List.getElem?_replicate, if_pos hj] at e
    exact e
  have p4 := cell_later b4 p3
  have u4 := cell_later b4 s4
  have u7 := cell_later b4 s7
  have H4 := hideIt (And.intro b4 (And.intro hg4 B4))
  clear own4 grow4 b4 B4 hg4 p3 s4 s7
  go_upto_region 3 with fail
  have b5 := one_alloc w4 (.cells #[.slice (some ⟨w3.heap.size, 0, none⟩) ρ.m ρ.m] 122)
  have t5 : (w4.alloc (.cells #[.slice (some ⟨w3.heap.size, 0, none⟩) ρ.m ρ.m] 122)).cell? ⟨w4.heap.size, 0, none⟩ = some (.slice (some ⟨w3.heap.size, 0, none⟩) ρ.m ρ.m) := by simp
  have hs5 : (w4.alloc (.cells #[.slice (some ⟨w3.heap.size, 0, none⟩) ρ.m ρ.m] 122)).heap.size = w4.heap.size + 1 := by simp
  have p5 := cell_later b5 p4
  have v4 := cell_later b5 u4
  have v7 := cell_later b5 u7
  have H5 := hideIt (And.intro b5 (And.intro t5 hs5))
  clear b5 t5 hs5 p4 u4 u7
  generalize (w4.alloc (.cells #[.slice (some ⟨w3.heap.size, 0, none⟩) ρ.m ρ.m] 122)) = w5 at *
  go_wp2_with (first | (at_make; refine wpList_make_full _ rfl _ _ 122 rfl w5.heap.size 4 i4 _ 1 Try.underlying122 hi4 hy0 hy1 .i64 .i64 (ρ.R : Int) (ρ.R : Int) ρ.R rfl rfl rfl rfl (by rw [hy2]; omega) (by unfold maxLen; omega) (by simp <;> omega) ?_) | go_in)
  intro w6 own6 grow6
  have b6 : Below w5.heap.size w5 w6 := ⟨grow6.os, grow6.tape, grow6.output, grow6.size, fun k hk => grow6.block k hk (by simp)⟩
  have hg6 : w5.heap.size < w6.heap.size := (own6.lt w5.heap.size rfl).2
  have B6 : BoolAt w6 w5.heap.size ρ.R (fun _ => false) := by
    refine ⟨fun j hj => ?_, fun o => own6.frozenAt o⟩
    have e := own6.cellAt j (by omega)
    rw [made_one, List.getElem?_replicate, if_pos hj] at e
    exact e
  have p6 := cell_later b6 p5
  have H6 := hideIt (And.intro b6 (And.intro hg6 B6))
  clear own6 grow6 b6 B6 hg6 p5 v4 v7
  go_upto_region 5 with fail
  have b7 := one_alloc w6 (.cells #[.slice (some ⟨w5.heap.size, 0, none⟩) ρ.R ρ.R] 122)
  have t7 : (w6.alloc (.cells #[.slice (some ⟨w5.heap.size, 0, none⟩) ρ.R ρ.R] 122)).cell? ⟨w6.heap.size, 0, none⟩ = some (.slice (some ⟨w5.heap.size, 0, none⟩) ρ.R ρ.R) := by simp
  have hs7 : (w6.alloc (.cells #[.slice (some ⟨w5.heap.size, 0, none⟩) ρ.R ρ.R] 122)).heap.size = w6.heap.size + 1 := by simp
  have p7 := cell_later b7 p6
  have H7 := hideIt (And.intro b7 (And.intro t7 (And.intro hs7 p7)))
  clear b7 t7 hs7 p6 p7
  generalize (w6.alloc (.cells #[.slice (some ⟨w5.heap.size, 0, none⟩) ρ.R ρ.R] 122)) = w7 at *
  obtain ⟨HR, HK, H, hr, hA, hd, hdr, hS, hSl, hSr, hne, b1⟩ := HQ.out
  have e1 := HW1.out
  obtain ⟨own2, b2⟩ := H2.out
  obtain ⟨b3, o3, of3, e3⟩ := H3.out
  obtain ⟨b4, g4, B4⟩ := H4.out
  obtain ⟨b5, t5, e5⟩ := H5.out
  obtain ⟨b6, g6, B6⟩ := H6.out
  obtain ⟨b7, t7, e7, p7⟩ := H7.out
  have s2 := b2.size
  have bb : Below w.heap.size w w7 := then_ (then_ (then_ (then_ (then_ (then_ b1 b2) b3) b4) b5) b6) b7
  have k3 : ∀ q, q < w3.heap.size → w7.heap[q]? = w3.heap[q]? := fun q hq => (then_ (then_ (then_ b4 b5) b6) b7).block q hq
  have k4 : ∀ q, q < w4.heap.size → w7.heap[q]? = w4.heap[q]? := fun q hq => (then_ (then_ b5 b6) b7).block q hq
  have k5 : ∀ q, q < w5.heap.size → w7.heap[q]? = w5.heap[q]? := fun q hq => (then_ b6 b7).block q hq
  have k6 : ∀ q, q < w6.heap.size → w7.heap[q]? = w6.heap[q]? := fun q hq => b7.block q hq
  have G0 : GrAt w7 w4.heap.size w3.heap.size w2.heap.size w1.heap.size w6.heap.size w5.heap.size w.heap.size ρ 0 (tks 0) (fbs ρ 0) :=
    ⟨(World.cell?_of_block (a := ⟨w4.heap.size, 0, none⟩) (k5 w4.heap.size (by omega))).trans t5, by rw [show tks 0 = fun _ => false from by funext j; simp [tks]]; exact B4.blk (k4 _ g4), (World.cell?_of_block (a := ⟨w2.heap.size, 0, none⟩) (k3 w2.heap.size (by omega))).trans o3, fun o => (World.frozen?_of_block (a := ⟨w2.heap.size, o, none⟩) (k3 w2.heap.size (by omega))).trans (of3 o), own_one own2 (fun q hq => by rw [← own_blk hq]; exact (k3 _ (by omega)).trans (b3.block _ (by omega))), t7, B6.blk (k6 _ g6), p7, HR.below bb⟩
  have GO : GrO w4.heap.size w3.heap.size w2.heap.size w1.heap.size w6.heap.size w5.heap.size w.heap.size ρ := ⟨by omega, fun q hq => HR.lt hq⟩
  have HG := hideIt (And.intro G0 GO)
  have HBB := hideIt bb
  have hrl := H.lt
  have szs : w.heap.size < w1.heap.size ∧ w1.heap.size < w2.heap.size ∧ w2.heap.size < w3.heap.size ∧ w3.heap.size < w4.heap.size ∧ w4.heap.size < w5.heap.size ∧ w5.heap.size < w6.heap.size := by omega
  clear HW1 H2 H3 H4 H5 H6 H7 HR HK H hr hA hd hdr hS hSl hSr hne b1 e1 own2 b2 b3 o3 of3 e3 b4 g4 B4 b5 t5 e5 b6 g6 B6 b7 t7 e7 p7 s2 bb k3 k4 k5 k6 G0 GO hg2
  generalize w6.heap.size = FB at *
  generalize w5.heap.size = FL at *
  generalize w4.heap.size = TB at *
  generalize w3.heap.size = TK at *
  generalize w2.heap.size = OB at *
  generalize w1.heap.size = OR at *
  obtain ⟨PB, hPB⟩ : ∃ PB, w.heap.size = PB := ⟨_, rfl⟩
  rw [hPB] at HG szs
  rw [hPB]
  have HPB := hideIt hPB
  clear hPB
  obtain ⟨S', hS'⟩ : ∃ S' : Nat → Prop, S' = fun q => S q ∨ (PB ≤ q ∧ q ≤ FB) := ⟨_, rfl⟩
  have HS' := hideIt hS'
  clear hS'
  go_wp2_with fail
  go_loopg [] ρ.m (fun gg wr => ∃ k : Nat, k + gg = ρ.m ∧ GrAt wr TB TK OB OR FB FL PB ρ k (tks k) (fbs ρ k) ∧ ∃ sp sa, RelAt wr ρ.rb nm { s with spr := sp, sat := sa } ∧ SprOk S' wr { s with spr := sp, sat := sa } ∧ Wr ρ.rb w wr)
  case atStart =>
    obtain ⟨HR, HK, H, hr, hA, hd, hdr, hS, hSl, hSr, hne, b1⟩ := HQ.out
    obtain ⟨G0, GO⟩ := HG.out
    have bb := HBB.out
    have hPB := HPB.out
    exact ⟨0, by omega, G0, s.spr, s.sat, H.below bb, (hS.weak (fun q h1 h2 => by rw [HS'.out] at h2; rcases h2 with h | h; exact h; omega)).ws (Ws.of_below bb), Wr.of_below bb⟩
  case round =>
    obtain ⟨k, hk, G, sp, sa, Hr, hSp, W⟩ := hrel
    have y1 := G.o
    have y2 := G.p
    have y3 := G.ru.c4
    by_cases hin : k < ρ.m
    · have k1 : (k : Int) < (ρ.m : Int) := by omega
      have HX := hideIt (And.intro (show GrAt wr.drew TB TK OB OR FB FL PB ρ k (tks k) (fbs ρ k) from G.keep (fun _ _ => rfl)) (And.intro (show RelAt wr.drew ρ.rb nm { s with spr := sp, sat := sa } from Hr.drew) (And.intro (show SprOk S' wr.drew { s with spr := sp, sat := sa } from hSp.ws (Ws.refl _ _).drew) (show Wr ρ.rb w wr.drew from W.drew))))
      clear G Hr hSp W
      go_upto_region 7 with fail
      refine wp_region_held_drew (S := (fun w' => w'.cell? ⟨OB, 0, none⟩ = some (.slice (some ⟨OR, 0, none⟩) k ρ.m) ∧ w'.cell? ⟨PB, 0, none⟩ = some (.pointer (some ⟨ρ.RB, 0, none⟩)) ∧ w'.cell? ⟨ρ.RB, 4, none⟩ = some (.slice (some ⟨ρ.gj, 0, none⟩) ρ.m ρ.cj))) (by kernel_rfl) ⟨y1, y2, y3⟩ (fun hHeld => ?_)
      refine wpAnyH_take (i := 0) (oi := { dst := some 38, op := Go.Op.load 86 (Go.Operand.tmp 7), type := 86, pos := _, after := #[], guard := none }) (v := ?vv26001) rfl (by kernel_rfl) (by kernel_rfl) (by kernel_rfl) (fun _ _ _ h => h) (Or.inl ⟨by rfl, ?hy26001⟩) (by assumption) ?tk26001
      case hy26001 => (intro w hSw; (try dsimp only at hSw); go_simp; (try with_reducible rfl))
      try simp only [Act.put, List.setIfInBounds_toArray, List.set_cons_zero, List.set_cons_succ]
      refine wpAnyH_take (i := 1) (oi := { dst := some 39, op := Go.Op.call { callee := Go.Callee.builtin Go.Builtin.len, args := #[Go.Operand.tmp 38], argTypes := #[86] }, type := 3, pos := _, after := #[{ on := 0, ground := Go.Ground.data }], guard := none }) (v := ?vv26002) rfl (by kernel_rfl) (by kernel_rfl) (by kernel_rfl) (fun _ _ _ h => h) (Or.inl ⟨by rfl, ?hy26002⟩) (by assumption) ?tk26002
      case hy26002 => (intro w hSw; (try dsimp only at hSw); go_simp; (try with_reducible rfl))
      try simp only [Act.put, List.setIfInBounds_toArray, List.set_cons_zero, List.set_cons_succ]
      refine wpAnyH_take (i := 2) (oi := { dst := some 40, op := Go.Op.load 81 (Go.Operand.tmp 4), type := 81, pos := _, after := #[], guard := none }) (v := ?vv26003) rfl (by kernel_rfl) (by kernel_rfl) (by kernel_rfl) (fun _ _ _ h => h) (Or.inl ⟨by rfl, ?hy26003⟩) (by assumption) ?tk26003
      case hy26003 => (intro w hSw; (try dsimp only at hSw); go_simp; (try with_reducible rfl))
      try simp only [Act.put, List.setIfInBounds_toArray, List.set_cons_zero, List.set_cons_succ]
      refine wpAnyH_take (i := 3) (oi := { dst := some 41, op := Go.Op.nilCheck (Go.Operand.tmp 40), type := 0, pos := _, after := #[{ on := 2, ground := Go.Ground.data }], guard := none }) (v := ?vv26004) rfl (by kernel_rfl) (by kernel_rfl) (by kernel_rfl) (fun _ _ _ h => h) (Or.inl ⟨by rfl, ?hy26004⟩) (by assumption) ?tk26004
      case hy26004 => (intro w hSw; (try dsimp only at hSw); go_simp; (try with_reducible rfl))
      try simp only [Act.put, List.setIfInBounds_toArray, List.set_cons_zero, List.set_cons_succ]
      refine wpAnyH_take (i := 4) (oi := { dst := some 42, op := Go.Op.fieldAddr 96 (Go.Operand.tmp 41) 2, type := 0, pos := _, after := #[{ on := 3, ground := Go.Ground.data }], guard := none }) (v := ?vv26005) rfl (by kernel_rfl) (by kernel_rfl) (by kernel_rfl) (fun _ _ _ h => h) (Or.inl ⟨by rfl, ?hy26005⟩) (by assumption) ?tk26005
      case hy26005 => (intro w hSw; (try dsimp only at hSw); go_simp; (try with_reducible rfl))
      try simp only [Act.put, List.setIfInBounds_toArray, List.set_cons_zero, List.set_cons_succ]
      refine wpAnyH_take (i := 5) (oi := { dst := some 43, op := Go.Op.load 93 (Go.Operand.tmp 42), type := 93, pos := _, after := #[{ on := 4, ground := Go.Ground.data }], guard := none }) (v := ?vv26006) rfl (by kernel_rfl) (by kernel_rfl) (by kernel_rfl) (fun _ _ _ h => h) (Or.inl ⟨by rfl, ?hy26006⟩) (by assumption) ?tk26006
      case hy26006 => (intro w hSw; (try dsimp only at hSw); go_simp; (try with_reducible rfl))
      try simp only [Act.put, List.setIfInBounds_toArray, List.set_cons_zero, List.set_cons_succ]
      refine wpAnyH_take (i := 6) (oi := { dst := some 44, op := Go.Op.call { callee := Go.Callee.builtin Go.Builtin.len, args := #[Go.Operand.tmp 43], argTypes := #[93] }, type := 3, pos := _, after := #[{ on := 5, ground := Go.Ground.data }], guard := none }) (v := ?vv26007) rfl (by kernel_rfl) (by kernel_rfl) (by kernel_rfl) (fun _ _ _ h => h) (Or.inl ⟨by rfl, ?hy26007⟩) (by assumption) ?tk26007
      case hy26007 => (intro w hSw; (try dsimp only at hSw); go_simp; (try with_reducible rfl))
      try simp only [Act.put, List.setIfInBounds_toArray, List.set_cons_zero, List.set_cons_succ]
      refine wpAnyH_take (i := 7) (oi := { dst := some 45, op := Go.Op.binOp Go.BinOp.lss 3 (Go.Operand.tmp 39) (Go.Operand.tmp 44) 3, type := 4, pos := _, after := #[{ on := 1, ground := Go.Ground.data }, { on := 6, ground := Go.Ground.data }], guard := none }) (v := ?vv26008) rfl (by kernel_rfl) (by kernel_rfl) (by kernel_rfl) (fun _ _ _ h => h) (Or.inl ⟨by rfl, ?hy26008⟩) (by assumption) ?tk26008
      case hy26008 => (intro w hSw; (try dsimp only at hSw); go_simp; (try with_reducible rfl))
      try simp only [Act.put, List.setIfInBounds_toArray, List.set_cons_zero, List.set_cons_succ]
      refine wpAnyH_done (by kernel_rfl) ?_ _
      clear hHeld y1 y2 y3
      generalize wr.drew = wd at *
      obtain ⟨y2, y3⟩ : wd.cell? ⟨PB, 0, none⟩ = some (.pointer (some ⟨ρ.RB, 0, none⟩)) ∧ wd.cell? ⟨ρ.RB, 4, none⟩ = some (.slice (some ⟨ρ.gj, 0, none⟩) ρ.m ρ.cj) := ⟨HX.out.1.p, HX.out.1.ru.c4⟩
      go_wp2_with fail
      go_loopg [51, 11, 12] ρ.m (fun gg v51 v11 v12 wx => ∃ j : Nat, j + gg = ρ.m ∧ v51 = .int .i64 (j : Int) ∧ (j ≤ k → v11 = .int .i64 (-1) ∧ v12 = .float .f64 0) ∧ (k < j → v11 = .int .i64 (k : Int) ∧ v12 = costV (kn k)) ∧ GrAt wx TB TK OB OR FB FL PB ρ k (tks k) (fbs ρ k) ∧ ∃ sp sa, RelAt wx ρ.rb nm { s with spr := sp, sat := sa } ∧ SprOk S' wx { s with spr := sp, sat := sa } ∧ Wr ρ.rb w wx)
      case atStart =>
        obtain ⟨G, Hr, hSp, W⟩ := HX.out
        exact ⟨0, by omega, rfl, fun _ => ⟨rfl, rfl⟩, fun h => by omega, G, sp, sa, Hr, hSp, W⟩
      case round =>
        clear y2 y3 HX k1
        obtain ⟨j, hj, rfl, hj1, hj2, G, sp, sa, Hr, hSp, W⟩ := hrel
        by_cases hjn : j < ρ.m
        · have j0 : (0 : Int) ≤ j := by omega
          have j1 : (j : Int) < (ρ.m : Int) := by omega
          have c1 := G.t
          have c2 := G.tb.c j hjn
          by_cases hjk : j < k
          · obtain ⟨rfl, rfl⟩ := hj1 (by omega)
            have e2 : tks k j = true := by simp [tks, hjk]
            rw [e2] at c2
            have HY := hideIt (And.intro G (And.intro Hr (And.intro hSp W)))
            clear G Hr hSp W hj1 hj2 e2
            go_wp2
            go_roundg (ρ.m - (j + 1))
            case measure => omega
            case rel =>
              obtain ⟨G, Hr, hSp, W⟩ := HY.out
              exact ⟨j + 1, by omega, by go_num, fun _ => ⟨rfl, rfl⟩, fun h => by omega, G, sp, sa, Hr, hSp, W⟩
          · have e2 : tks k j = false := by simp [tks]; omega
            rw [e2] at c2
            obtain ⟨HR, HK, H, hr, hA, hd, hdr, hS, hSl, hSr, hne, b1⟩ := HQ.out
            have hPB := HPB.out
            have hsz := W.size
            have hFBl : FB < wr.heap.size := World.block_lt_of_cell? _ _ G.f
            have y2 := G.p
            have y3 := G.ru.c4
            have y4 := G.f
            have hRr := hne ρ.RB (.inl rfl)
            replace G : GrAt wr.drew TB TK OB OR FB FL PB ρ k (tks k) (fbs ρ k) := G.keep (fun _ _ => rfl)
            replace Hr : RelAt wr.drew ρ.rb nm { s with spr := sp, sat := sa } := Hr.drew
            replace hSp : SprOk S' wr.drew { s with spr := sp, sat := sa } := hSp.ws (Ws.refl _ _).drew
            replace W : Wr ρ.rb w wr.drew := W.drew
            have hFBd : FB < wr.drew.heap.size := hFBl
            have hszd := W.size
            have hest := estimate_any (S := S') (kn := kn k) (o := j * 3) Hr (show ({ s with spr := sp, sat := sa } : RelS).rows = 1 from hr) (fun e => by
              have h1 := HK.b k e
              refine ⟨h1, by rw [← h1]; exact hA, ?_, hdr⟩
              rw [← h1]
              exact hd.wr hdr W) hSp (fun q hq => by rw [HS'.out] at hq; rcases hq with h | h; exact Nat.lt_of_lt_of_le (hSl q h) hszd; omega) (by rw [HS'.out]; exact .inl hSr) (G.ru.j j hjn).1 (G.ru.j j hjn).2.1 (G.ru.ops hjn) G.fb (fun t ht => ⟨G.ru.r j t hjn ht, HK.a k j t (by omega) hjn ht⟩) ⟨hne ρ.gj (.inr (.inl rfl)), by omega, fun e => hne (ρ.ga j) (.inr (.inr ⟨j, hjn, rfl⟩)) (own_blk e)⟩ G.ru.n0 hn hR
            change Calls _ _ _ _ (fun e w' => e = .returned (costV (kn k)) ∧ _) at hest
            have hlss := lss_cost (kn k)
            obtain ⟨cv, hcv⟩ : ∃ cv, costV (kn k) = cv := ⟨_, rfl⟩
            rw [hcv] at hest hlss
            have HCV := hideIt hcv
            clear hcv
            have HY := hideIt (And.intro G W)
            clear G Hr hSp W HR HK H hr hA hd hdr hS hSl hne b1
            go_upto_region 13 with fail
            refine wp_region_held_drew (S := (fun w' => w'.cell? ⟨PB, 0, none⟩ = some (.pointer (some ⟨ρ.RB, 0, none⟩)) ∧ w'.cell? ⟨ρ.RB, 4, none⟩ = some (.slice (some ⟨ρ.gj, 0, none⟩) ρ.m ρ.cj) ∧ w'.cell? ⟨FB, 0, none⟩ = some (.slice (some ⟨FL, 0, none⟩) ρ.R ρ.R))) (by kernel_rfl) ⟨y2, y3, y4⟩ (fun hHeld => ?_)
            refine wpAnyH_take (i := 0) (oi := { dst := some 58, op := Go.Op.load 81 (Go.Operand.tmp 4), type := 81, pos := _, after := #[], guard := none }) (v := ?vv26009) rfl (by kernel_rfl) (by kernel_rfl) (by kernel_rfl) (fun _ _ _ h => h) (Or.inl ⟨by rfl, ?hy26009⟩) (by assumption) ?tk26009
            case hy26009 => (intro w hSw; (try dsimp only at hSw); go_simp; (try with_reducible rfl))
            try simp only [Act.put, List.setIfInBounds_toArray, List.set_cons_zero, List.set_cons_succ]
            refine wpAnyH_take (i := 1) (oi := { dst := some 59, op := Go.Op.nilCheck (Go.Operand.tmp 58), type := 0, pos := _, after := #[{ on := 0, ground := Go.Ground.data }], guard := none }) (v := ?vv26010) rfl (by kernel_rfl) (by kernel_rfl) (by kernel_rfl) (fun _ _ _ h => h) (Or.inl ⟨by rfl, ?hy26010⟩) (by assumption) ?tk26010
            case hy26010 => (intro w hSw; (try dsimp only at hSw); go_simp; (try with_reducible rfl))
            try simp only [Act.put, List.setIfInBounds_toArray, List.set_cons_zero, List.set_cons_succ]
            refine wpAnyH_take (i := 2) (oi := { dst := some 60, op := Go.Op.fieldAddr 96 (Go.Operand.tmp 59) 2, type := 0, pos := _, after := #[{ on := 1, ground := Go.Ground.data }], guard := none }) (v := ?vv26011) rfl (by kernel_rfl) (by kernel_rfl) (by kernel_rfl) (fun _ _ _ h => h) (Or.inl ⟨by rfl, ?hy26011⟩) (by assumption) ?tk26011
            case hy26011 => (intro w hSw; (try dsimp only at hSw); go_simp; (try with_reducible rfl))
            try simp only [Act.put, List.setIfInBounds_toArray, List.set_cons_zero, List.set_cons_succ]
            refine wpAnyH_take (i := 3) (oi := { dst := some 61, op := Go.Op.load 93 (Go.Operand.tmp 60), type := 93, pos := _, after := #[{ on := 2, ground := Go.Ground.data }], guard := none }) (v := ?vv26012) rfl (by kernel_rfl) (by kernel_rfl) (by kernel_rfl) (fun _ _ _ h => h) (Or.inl ⟨by rfl, ?hy26012⟩) (by assumption) ?tk26012
            case hy26012 => (intro w hSw; (try dsimp only at hSw); go_simp; (try with_reducible rfl))
            try simp only [Act.put, List.setIfInBounds_toArray, List.set_cons_zero, List.set_cons_succ]
            refine wpAnyH_take (i := 4) (oi := { dst := some 62, op := Go.Op.move (Go.Operand.tmp 13), type := 3, pos := _, after := #[], guard := none }) (v := ?vv26013) rfl (by kernel_rfl) (by kernel_rfl) (by kernel_rfl) (fun _ _ _ h => h) (Or.inl ⟨by rfl, ?hy26013⟩) (by assumption) ?tk26013
            case hy26013 => (intro w hSw; (try dsimp only at hSw); go_simp; (try with_reducible rfl))
            try simp only [Act.put, List.setIfInBounds_toArray, List.set_cons_zero, List.set_cons_succ]
            refine wpAnyH_take (i := 5) (oi := { dst := some 63, op := Go.Op.indexAddr 93 (Go.Operand.tmp 61) (Go.Operand.tmp 62), type := 0, pos := _, after := #[{ on := 3, ground := Go.Ground.data }, { on := 4, ground := Go.Ground.data }], guard := none }) (v := ?vv26014) rfl (by kernel_rfl) (by kernel_rfl) (by kernel_rfl) (fun _ _ _ h => h) (Or.inl ⟨by rfl, ?hy26014⟩) (by assumption) ?tk26014
            case hy26014 => (intro w hSw; (try dsimp only at hSw); go_simp; (try with_reducible rfl))
            try simp only [Act.put, List.setIfInBounds_toArray, List.set_cons_zero, List.set_cons_succ]
            refine wpAnyH_take (i := 6) (oi := { dst := some 64, op := Go.Op.load 122 (Go.Operand.tmp 9), type := 122, pos := _, after := #[], guard := none }) (v := ?vv26015) rfl (by kernel_rfl) (by kernel_rfl) (by kernel_rfl) (fun _ _ _ h => h) (Or.inl ⟨by rfl, ?hy26015⟩) (by assumption) ?tk26015
            case hy26015 => (intro w hSw; (try dsimp only at hSw); go_simp; (try with_reducible rfl))
            try simp only [Act.put, List.setIfInBounds_toArray, List.set_cons_zero, List.set_cons_succ]
            refine wpAnyH_ready (rs := [7]) (by kernel_rfl) (by simp) ?_
            refine AllReadyH.cons (o := { dst := some 65, op := Go.Op.call { callee := Go.Callee.value (Go.Operand.func 82), args := #[Go.Operand.tmp 63, Go.Operand.tmp 64], argTypes := #[167, 122] }, type := 209, pos := _, after := #[{ on := 5, ground := Go.Ground.data }, { on := 6, ground := Go.Ground.data }], guard := none }) rfl (fun K' hK' => ?_) AllReadyH.nil
            go_simp
            go_at_call 82
            refine hest.mono ?_
            rintro e w5 ⟨rfl, sp5, sa5, H5, S5, W5⟩
            have e5 : ∀ q, q < wr.heap.size → q ≠ ρ.rb → w5.heap[q]? = wr.heap[q]? := fun q h1 h2 => W5.block q h1 h2
            have x2 := (World.cell?_of_block (a := ⟨PB, 0, none⟩) (e5 PB (by omega) (by omega))).trans y2
            have x3 := (World.cell?_of_block (a := ⟨ρ.RB, 4, none⟩) (e5 ρ.RB (by omega) hRr)).trans y3
            have x4 := (World.cell?_of_block (a := ⟨FB, 0, none⟩) (e5 FB (by omega) (by omega))).trans y4
            have HX5 := hideIt (And.intro H5 (And.intro S5 (And.intro W5 e5)))
            clear H5 S5 W5 e5 hest
            clear hHeld
            refine hK'.out _ _ ⟨x2, x3, x4⟩ (fun hHeld => ?_)
            clear hK' K'
            try simp only [Act.put, List.setIfInBounds_toArray, List.set_cons_zero, List.set_cons_succ]
            refine wpAnyH_take (i := 8) (oi := { dst := some 14, op := Go.Op.assign (Go.Operand.tmp 65), type := 209, pos := _, after := #[{ on := 7, ground := Go.Ground.data }, { on := 7, ground := Go.Ground.chain }, { on := 0, ground := Go.Ground.phase }, { on := 1, ground := Go.Ground.phase }, { on := 2, ground := Go.Ground.phase }, { on := 3, ground := Go.Ground.phase }, { on := 4, ground := Go.Ground.phase }, { on := 5, ground := Go.Ground.phase }, { on := 6, ground := Go.Ground.phase }, { on := 7, ground := Go.Ground.phase }], guard := none }) (v := ?vv26016) rfl (by kernel_rfl) (by kernel_rfl) (by kernel_rfl) (fun _ _ _ h => h) (Or.inl ⟨by rfl, ?hy26016⟩) (by assumption) ?tk26016
            case hy26016 => (intro w hSw; (try dsimp only at hSw); go_simp; (try with_reducible rfl))
            try simp only [Act.put, List.setIfInBounds_toArray, List.set_cons_zero, List.set_cons_succ]
            refine wpAnyH_done (by kernel_rfl) ?_ _
            have FIN : Hid (GrAt w5 TB TK OB OR FB FL PB ρ k (tks k) (fbs ρ k) ∧ RelAt w5 ρ.rb nm { s with spr := sp5, sat := sa5 } ∧ SprOk S' w5 { s with spr := sp5, sat := sa5 } ∧ Wr ρ.rb w w5) := by
              obtain ⟨G, W⟩ := HY.out
              obtain ⟨H5, S5, W5, e5⟩ := HX5.out
              obtain ⟨_, GO⟩ := HG.out
              obtain ⟨HR, HK, H, hr, hA, hd, hdr, hS, hSl, hSr, hne, b1⟩ := HQ.out
              exact hideIt ⟨G.keep (fun q hq => W5.block q (by rcases hq with h | h | h | h | h | h | h | h; all_goals first | omega | exact Nat.lt_of_lt_of_le (HR.lt h) W.size) (by rcases hq with h | h | h | h | h | h | h | h; all_goals first | omega | exact hne q h)), H5, S5, W.trans W5⟩
            clear HX5 HY hHeld x2 x3 x4 y2 y3 y4
            by_cases hjj : j = k
            · obtain ⟨rfl, rfl⟩ := hj1 (by omega)
              clear hj1 hj2
              go_wp2
              go_roundg (ρ.m - (j + 1))
              case measure => omega
              case rel =>
                obtain ⟨G, Hr, hSp, W⟩ := FIN.out
                exact ⟨j + 1, by omega, by go_num, fun h => by omega, fun h => ⟨by rw [hjj], HCV.out.symm⟩, G, sp5, sa5, Hr, hSp, W⟩
            · obtain ⟨rfl, hv2⟩ := hj2 (by omega)
              rw [HCV.out] at hv2
              subst hv2
              have k0 : ¬ ((k : Int) < 0) := by omega
              clear hj1 hj2
              go_wp2
              go_roundg (ρ.m - (j + 1))
              case measure => omega
              case rel =>
                obtain ⟨G, Hr, hSp, W⟩ := FIN.out
                exact ⟨j + 1, by omega, by go_num, fun h => by omega, fun h => ⟨rfl, HCV.out.symm⟩, G, sp5, sa5, Hr, hSp, W⟩
        · have hjm : j = ρ.m := by omega
          obtain ⟨rfl, rfl⟩ := hj2 (by omega)
          obtain ⟨_, GO⟩ := HG.out
          have hFBl : FB < wr.heap.size := World.block_lt_of_cell? _ _ G.f
          have htk := take_any G GO hin hm hn hR
          have j1 : ¬ ((j : Int) < (ρ.m : Int)) := by omega
          have HY := hideIt (And.intro Hr (And.intro hSp W))
          have HJM := hideIt hjm
          clear hjm hj hjn
          clear G Hr hSp W hj1 hj2 GO
          go_wp2_with fail
          refine htk.mono ?_
          rintro e w5 ⟨rfl, G5, W5⟩
          have HX5 := hideIt (And.intro G5 W5)
          clear G5 W5 htk
          go_wp2
          go_roundg (ρ.m - (k + 1))
          case measure => omega
          case rel =>
            obtain ⟨G5, W5⟩ := HX5.out
            obtain ⟨Hr, hSp, W⟩ := HY.out
            have hPB := HPB.out
            have hsz := W.size
            refine ⟨k + 1, by omega, by rw [← tks_succ]; exact G5, sp, sa, Hr.blk (W5.block _ Hr.lt (by omega)), hSp.ws (W5.mono (fun q h1 h2 => by rw [HS'.out]; refine .inr ?_; omega)), ?_⟩
            exact ⟨W5.os.trans W.os, W5.tape.trans W.tape, W5.output.trans W.output, Nat.le_trans W.size W5.size, fun q h1 h2 => (W5.block q (by omega) (by omega)).trans (W.block q h1 h2)⟩
    · have hkm : k = ρ.m := by omega
      have k1 : ¬ ((k : Int) < (ρ.m : Int)) := by omega
      have HX := hideIt (And.intro (show GrAt wr.drew TB TK OB OR FB FL PB ρ k (tks k) (fbs ρ k) from G.keep (fun _ _ => rfl)) (And.intro (show RelAt wr.drew ρ.rb nm { s with spr := sp, sat := sa } from Hr.drew) (And.intro (show SprOk S' wr.drew { s with spr := sp, sat := sa } from hSp.ws (Ws.refl _ _).drew) (show Wr ρ.rb w wr.drew from W.drew))))
      clear G Hr hSp W
      have HKM := hideIt hkm
      clear hkm hk hin
      go_upto_region 7 with fail
      refine wp_region_held_drew (S := (fun w' => w'.cell? ⟨OB, 0, none⟩ = some (.slice (some ⟨OR, 0, none⟩) k ρ.m) ∧ w'.cell? ⟨PB, 0, none⟩ = some (.pointer (some ⟨ρ.RB, 0, none⟩)) ∧ w'.cell? ⟨ρ.RB, 4, none⟩ = some (.slice (some ⟨ρ.gj, 0, none⟩) ρ.m ρ.cj))) (by kernel_rfl) ⟨y1, y2, y3⟩ (fun hHeld => ?_)
      refine wpAnyH_take (i := 0) (oi := { dst := some 38, op := Go.Op.load 86 (Go.Operand.tmp 7), type := 86, pos := _, after := #[], guard := none }) (v := ?vv26017) rfl (by kernel_rfl) (by kernel_rfl) (by kernel_rfl) (fun _ _ _ h => h) (Or.inl ⟨by rfl, ?hy26017⟩) (by assumption) ?tk26017
      case hy26017 => (intro w hSw; (try dsimp only at hSw); go_simp; (try with_reducible rfl))
      try simp only [Act.put, List.setIfInBounds_toArray, List.set_cons_zero, List.set_cons_succ]
      refine wpAnyH_take (i := 1) (oi := { dst := some 39, op := Go.Op.call { callee := Go.Callee.builtin Go.Builtin.len, args := #[Go.Operand.tmp 38], argTypes := #[86] }, type := 3, pos := _, after := #[{ on := 0, ground := Go.Ground.data }], guard := none }) (v := ?vv26018) rfl (by kernel_rfl) (by kernel_rfl) (by kernel_rfl) (fun _ _ _ h => h) (Or.inl ⟨by rfl, ?hy26018⟩) (by assumption) ?tk26018
      case hy26018 => (intro w hSw; (try dsimp only at hSw); go_simp; (try with_reducible rfl))
      try simp only [Act.put, List.setIfInBounds_toArray, List.set_cons_zero, List.set_cons_succ]
      refine wpAnyH_take (i := 2) (oi := { dst := some 40, op := Go.Op.load 81 (Go.Operand.tmp 4), type := 81, pos := _, after := #[], guard := none }) (v := ?vv26019) rfl (by kernel_rfl) (by kernel_rfl) (by kernel_rfl) (fun _ _ _ h => h) (Or.inl ⟨by rfl, ?hy26019⟩) (by assumption) ?tk26019
      case hy26019 => (intro w hSw; (try dsimp only at hSw); go_simp; (try with_reducible rfl))
      try simp only [Act.put, List.setIfInBounds_toArray, List.set_cons_zero, List.set_cons_succ]
      refine wpAnyH_take (i := 3) (oi := { dst := some 41, op := Go.Op.nilCheck (Go.Operand.tmp 40), type := 0, pos := _, after := #[{ on := 2, ground := Go.Ground.data }], guard := none }) (v := ?vv26020) rfl (by kernel_rfl) (by kernel_rfl) (by kernel_rfl) (fun _ _ _ h => h) (Or.inl ⟨by rfl, ?hy26020⟩) (by assumption) ?tk26020
      case hy26020 => (intro w hSw; (try dsimp only at hSw); go_simp; (try with_reducible rfl))
      try simp only [Act.put, List.setIfInBounds_toArray, List.set_cons_zero, List.set_cons_succ]
      refine wpAnyH_take (i := 4) (oi := { dst := some 42, op := Go.Op.fieldAddr 96 (Go.Operand.tmp 41) 2, type := 0, pos := _, after := #[{ on := 3, ground := Go.Ground.data }], guard := none }) (v := ?vv26021) rfl (by kernel_rfl) (by kernel_rfl) (by kernel_rfl) (fun _ _ _ h => h) (Or.inl ⟨by rfl, ?hy26021⟩) (by assumption) ?tk26021
      case hy26021 => (intro w hSw; (try dsimp only at hSw); go_simp; (try with_reducible rfl))
      try simp only [Act.put, List.setIfInBounds_toArray, List.set_cons_zero, List.set_cons_succ]
      refine wpAnyH_take (i := 5) (oi := { dst := some 43, op := Go.Op.load 93 (Go.Operand.tmp 42), type := 93, pos := _, after := #[{ on := 4, ground := Go.Ground.data }], guard := none }) (v := ?vv26022) rfl (by kernel_rfl) (by kernel_rfl) (by kernel_rfl) (fun _ _ _ h => h) (Or.inl ⟨by rfl, ?hy26022⟩) (by assumption) ?tk26022
      case hy26022 => (intro w hSw; (try dsimp only at hSw); go_simp; (try with_reducible rfl))
      try simp only [Act.put, List.setIfInBounds_toArray, List.set_cons_zero, List.set_cons_succ]
      refine wpAnyH_take (i := 6) (oi := { dst := some 44, op := Go.Op.call { callee := Go.Callee.builtin Go.Builtin.len, args := #[Go.Operand.tmp 43], argTypes := #[93] }, type := 3, pos := _, after := #[{ on := 5, ground := Go.Ground.data }], guard := none }) (v := ?vv26023) rfl (by kernel_rfl) (by kernel_rfl) (by kernel_rfl) (fun _ _ _ h => h) (Or.inl ⟨by rfl, ?hy26023⟩) (by assumption) ?tk26023
      case hy26023 => (intro w hSw; (try dsimp only at hSw); go_simp; (try with_reducible rfl))
      try simp only [Act.put, List.setIfInBounds_toArray, List.set_cons_zero, List.set_cons_succ]
      refine wpAnyH_take (i := 7) (oi := { dst := some 45, op := Go.Op.binOp Go.BinOp.lss 3 (Go.Operand.tmp 39) (Go.Operand.tmp 44) 3, type := 4, pos := _, after := #[{ on := 1, ground := Go.Ground.data }, { on := 6, ground := Go.Ground.data }], guard := none }) (v := ?vv26024) rfl (by kernel_rfl) (by kernel_rfl) (by kernel_rfl) (fun _ _ _ h => h) (Or.inl ⟨by rfl, ?hy26024⟩) (by assumption) ?tk26024
      case hy26024 => (intro w hSw; (try dsimp only at hSw); go_simp; (try with_reducible rfl))
      try simp only [Act.put, List.setIfInBounds_toArray, List.set_cons_zero, List.set_cons_succ]
      refine wpAnyH_done (by kernel_rfl) ?_ _
      clear hHeld y1 y2 y3
      generalize wr.drew = wd at *
      have y1 := HX.out.1.o
      go_wp2
      go_ret
      obtain ⟨G, Hr, hSp, W⟩ := HX.out
      have hkm := HKM.out
      subst hkm
      have hPB := HPB.out
      refine ⟨OR, rfl, by omega, fun i hi => ?_, sp, sa, Hr, hSp.weak (fun q h1 h2 => by rw [HS'.out]; exact .inl h2), W⟩
      have e := G.ow.cellAt i (by simpa using hi)
      unfold ordL at e
      rw [List.getElem?_map, List.getElem?_range hi] at e
      simpa using e
end Go.Proofs.Qxb6500880a
