import Derived.Deep.CutBlock
import Derived.OwnWalk
import Derived.Maps.AppendAt
import Derived.Maps.OwnSet
import Derived.Maps.OwnOps
import Derived.Laws.ResultCell
import Derived.Test.Qxb6500880aGreatN
set_option linter.unusedVariables false
set_option linter.unusedSimpArgs false
namespace Go.Proofs.Qxb6500880aGreat
open Go.RowKit

theorem jC_len (rb : Nat → Nat) (l : Nat → Value) : ∀ m, (jC rb l m).length = m * 3
  | 0 => rfl
  | m + 1 => by
    unfold jC
    rw [List.length_append, jC_len rb l m]
    simp
    omega
theorem jC_get (rb : Nat → Nat) (l : Nat → Value) : ∀ m j, j < m → (jC rb l m)[j * 3]? = some (.pointer (some ⟨rb j, 0, none⟩)) ∧ (jC rb l m)[j * 3 + 1]? = some (l j) ∧ (jC rb l m)[j * 3 + 2]? = some (.int .i64 (j : Int))
  | 0, j, h => by omega
  | m + 1, j, h => by
    have hl := jC_len rb l m
    unfold jC
    by_cases q : j < m
    · obtain ⟨a, b, c⟩ := jC_get rb l m j q
      rw [List.getElem?_append_left (by omega), List.getElem?_append_left (by omega), List.getElem?_append_left (by omega)]
      exact ⟨a, b, c⟩
    · have e : j = m := by omega
      subst e
      rw [List.getElem?_append_right (by omega), List.getElem?_append_right (by omega), List.getElem?_append_right (by omega), hl, show j * 3 - j * 3 = 0 by omega, show j * 3 + 1 - j * 3 = 1 by omega, show j * 3 + 2 - j * 3 = 2 by omega]
      exact ⟨rfl, rfl, rfl⟩
/-- The joins of a rule in memory. -/
def JnAt (w : World) (J : Value) (rb : Nat → Nat) (l : Nat → Value) (m : Nat) : Prop := ∃ p c, J = .slice p m c ∧ m ≤ c ∧ (m = 0 ∨ ∃ g, p = some ⟨g, 0, none⟩ ∧ ∀ j, j < m → w.cell? ⟨g, j * 3, none⟩ = some (.pointer (some ⟨rb j, 0, none⟩)) ∧ w.cell? ⟨g, j * 3 + 1, none⟩ = some (l j) ∧ w.cell? ⟨g, j * 3 + 2, none⟩ = some (.int .i64 (j : Int)))
theorem add0 (g n : Nat) : (⟨g, 0, none⟩ : Addr).add n = ⟨g, n, none⟩ := by
  by_cases q : n = 0
  · subst q; simp [Addr.add]
  · simp [Addr.add, q]
theorem JnAt.of_own {w : World} {base m : Nat} {rb : Nat → Nat} {J : Value} {l : Nat → Value} (h : w.ownsRow base 102 3 J m (jC rb l m)) : JnAt w J rb l m := by
  have hc := fun g e => World.ownsRow.cells (g := g) h e
  rcases h.2 with ⟨e1, e2⟩ | ⟨g, cap, cur, e1, _, _, r⟩
  · exact ⟨none, 0, by rw [e1, e2], by omega, .inl e2⟩
  · refine ⟨_, cap, e1, r.1, .inr ⟨g, rfl, fun j hj => ?_⟩⟩
    obtain ⟨a, b, c⟩ := jC_get rb l m j hj
    have a' := hc g (by rw [e1]; rfl) _ _ a
    have b' := hc g (by rw [e1]; rfl) _ _ b
    have c' := hc g (by rw [e1]; rfl) _ _ c
    rw [add0] at a' b' c'
    exact ⟨a', b', c'⟩
theorem JnAt.keep {w w' : World} {J : Value} {m : Nat} {rb : Nat → Nat} {l : Nat → Value} (h : JnAt w J rb l m) (hk : ∀ q, J.ownBlock = some q → q < w.heap.size → w'.heap[q]? = w.heap[q]?) : JnAt w' J rb l m := by
  obtain ⟨p, c, rfl, hc, h⟩ := h
  refine ⟨p, c, rfl, hc, ?_⟩
  rcases h with h | ⟨g, rfl, h⟩
  · exact .inl h
  · refine .inr ⟨g, rfl, fun j hj => ?_⟩
    obtain ⟨a, b, d⟩ := h j hj
    have e := hk g rfl (World.block_lt_of_cell? _ _ a)
    exact ⟨(World.cell?_of_block (a := ⟨g, j * 3, none⟩) e).trans a, (World.cell?_of_block (a := ⟨g, j * 3 + 1, none⟩) e).trans b, (World.cell?_of_block (a := ⟨g, j * 3 + 2, none⟩) e).trans d⟩
theorem JnAt.below {w w' : World} {J : Value} {m : Nat} {rb : Nat → Nat} {l : Nat → Value} (h : JnAt w J rb l m) (hb : Below w.heap.size w w') : JnAt w' J rb l m := h.keep (fun q _ hq => hb.block q hq)
/-- A compiled rule: its head has nh arguments, join j of its m joins has nn j. -/
structure RuS where
  hb : Nat
  rb : Nat → Nat
  nn : Nat → Nat
  m : Nat
  F : Nat → Nat → Nat
  nh : Nat
  Fh : Nat → Nat
  R : Nat
structure RuAt (w : World) (RB : Nat) (u : RuS) : Prop where
  c : ∃ hv J l, (w.cell? ⟨RB, 0, none⟩ = some (.int .i64 0) ∧ w.cell? ⟨RB, 1, none⟩ = some (.pointer (some ⟨u.hb, 0, none⟩)) ∧ w.cell? ⟨RB, 2, none⟩ = some hv ∧ w.cell? ⟨RB, 3, none⟩ = some (.int .i64 (-1)) ∧ w.cell? ⟨RB, 4, none⟩ = some J ∧ w.cell? ⟨RB, 5, none⟩ = some (.slice none 0 0) ∧ w.cell? ⟨RB, 6, none⟩ = some (.slice none 0 0) ∧ w.cell? ⟨RB, 7, none⟩ = some (.int .i64 (u.R : Int))) ∧ JnAt w J u.rb l u.m ∧ (∀ j, j < u.m → OpsAt w (l j) (u.nn j) (u.F j)) ∧ OpsAt w hv u.nh u.Fh
  fz : ∀ o, w.frozen? ⟨RB, o, none⟩ = false
/-- What is asked of the numbers of a rule. -/
structure RuN (u : RuS) : Prop where
  m : u.m ≤ 64
  n0 : ∀ j, j < u.m → 0 < u.nn j
  n1 : ∀ j, j < u.m → u.nn j ≤ 32
  h0 : 0 < u.nh
  h1 : u.nh ≤ 32
  R0 : 0 < u.R
  R : u.R ≤ 256
  f : ∀ j t, j < u.m → t < u.nn j → u.F j t < u.R
  fh : ∀ t, t < u.nh → u.Fh t < u.R
theorem RuAt.below {w w' : World} {RB : Nat} {u : RuS} (h : RuAt w RB u) (hb' : Below w.heap.size w w') : RuAt w' RB u := by
  obtain ⟨⟨hv, J, l, ⟨a0, a1, a2, a3, a4, a5, a6, a7⟩, j, o, oh⟩, fz⟩ := h
  have hl : RB < w.heap.size := World.block_lt_of_cell? _ _ a0
  exact ⟨⟨hv, J, l, ⟨cell_later hb' a0, cell_later hb' a1, cell_later hb' a2, cell_later hb' a3, cell_later hb' a4, cell_later hb' a5, cell_later hb' a6, cell_later hb' a7⟩, j.below hb', fun k hk => (o k hk).below hb', oh.below hb'⟩, fun o => (World.frozen?_of_block (a := ⟨RB, o, none⟩) (hb'.block RB hl)).trans (fz o)⟩
/-- What the first k joins have filled. -/
def fbs (u : RuS) : Nat → Nat → Bool
  | 0 => fun _ => false
  | k + 1 => fillF (fbs u k) (u.F k) (u.nn k)
theorem fillF_iff (b : Nat → Bool) (f : Nat → Nat) (x : Nat) : ∀ n, fillF b f n x = true ↔ b x = true ∨ ∃ t, t < n ∧ f t = x
  | 0 => by simp [fillF]
  | n + 1 => by
    have ih := fillF_iff b f x n
    unfold fillF onB
    by_cases h : x = f n
    · rw [if_pos h]
      simp only [true_iff]
      exact .inr ⟨n, by omega, h.symm⟩
    · rw [if_neg h, ih]
      constructor
      · rintro (h1 | ⟨t, h1, h2⟩)
        · exact .inl h1
        · exact .inr ⟨t, by omega, h2⟩
      · rintro (h1 | ⟨t, h1, h2⟩)
        · exact .inl h1
        · rcases (by omega : t < n ∨ t = n) with h3 | h3
          · exact .inr ⟨t, h3, h2⟩
          · subst h3; exact absurd h2.symm h
theorem info4 : (Tryz.prog.info? 4).map (fun i => (i.zero, i.size, i.bytes)) = some (some (.bool false), 1, 1) := by kernel_rfl
theorem Wr.below_of {g : Nat} {w w1 : World} (h : Wr g w w1) (hg : w.heap.size ≤ g) : Below w.heap.size w w1 := ⟨h.os, h.tape, h.output, h.size, fun q hq => h.block q hq (by omega)⟩
set_option maxRecDepth 20000 in
set_option maxHeartbeats 8000000 in
theorem allFilled_any {w : World} {g n m : Nat} {b : Nat → Bool} {v : Value} {f : Nat → Nat} (H : BoolAt w g n b) (HO : OpsAt w v m f) (hf : ∀ j, j < m → f j < n ∧ b (f j) = true) (hn : n ≤ 1000) (hm : m ≤ 1000) :
    Calls Tryz.prog 43 #[.slice (some ⟨g, 0, none⟩) n n, v] w fun e w' => e = .returned (.bool true) ∧ Below w.heap.size w w' := by
  obtain ⟨p, c, rfl, hc, HO⟩ := HO
  have HH := hideIt HO
  have HF := hideIt hf
  have HB := hideIt H
  clear HO hf H
  go_enter Tryz.func43, Tryz.ntmps43
  go_wp2_with fail
  go_loopg [9] m (fun gg v wr => ∃ i : Nat, i + gg = m ∧ v = .int .i64 (i : Int) ∧ Below w.heap.size w wr)
  case atStart => exact ⟨0, by omega, rfl, Below.refl _ _⟩
  case round =>
    obtain ⟨i, hi, rfl, hb⟩ := hrel
    by_cases hin : i < m
    · have i0 : (0 : Int) ≤ i := by omega
      have i1 : (i : Int) < (m : Int) := by omega
      obtain ⟨q, rfl, a0, a1⟩ : ∃ q, p = some ⟨q, 0, none⟩ ∧ w.cell? ⟨q, i * 2, none⟩ = some (.int .i64 (f i : Int)) ∧ w.cell? ⟨q, i * 2 + 1, none⟩ = some (.int .u32 0) := by
        rcases HH.out with h | ⟨q, e, h⟩
        · omega
        · exact ⟨q, e, (h i hin).1, (h i hin).2.1⟩
      have b0 := cell_later hb a0
      have b1 := cell_later hb a1
      have hfi := (HF.out i hin).1
      have hcx := HB.out.c (f i) hfi
      rw [(HF.out i hin).2] at hcx
      obtain ⟨x, HX⟩ : ∃ x, Hid (f i = x) := ⟨_, hideIt rfl⟩
      rw [HX.out] at b0 hfi hcx
      have x0 : (0 : Int) ≤ x := by omega
      have x1 : (x : Int) < (n : Int) := by omega
      have x2 : ((x : Int) != -1) = true := by simp
      have hgw : g < w.heap.size := World.block_lt_of_cell? _ _ hcx
      have hcy := cell_later (then_ hb (one_alloc wr (.cells #[.int .i64 (x : Int), .int .u32 0] 136))) hcx
      have HBB := hideIt hb
      clear a0 a1 hcx hb
      go_wp2
      go_roundg (m - (i + 1))
      case measure => omega
      case rel => exact ⟨i + 1, by omega, by go_num, then_ HBB.out (one_alloc _ _)⟩
    · have e : i = m := by omega
      subst e
      go_wp2
      go_ret
      exact ⟨rfl, hb⟩
set_option maxRecDepth 20000 in
set_option maxHeartbeats 8000000 in
theorem safe_any {w : World} {RB : Nat} {u : RuS} (U : RuAt w RB u) (hN : RuN u) (hsf : ∀ t, t < u.nh → fbs u u.m (u.Fh t) = true) :
    Calls Tryz.prog 27 #[.pointer (some ⟨RB, 0, none⟩)] w fun e w' => e = .returned (.tuple #[.int .i64 0, .bool true]) ∧ Below w.heap.size w w' := by
  obtain ⟨i0_, hi_, hz0, hz1, hz2⟩ := info_parts info4
  obtain ⟨⟨hv, J, l, ⟨a0, a1, a2, a3, a4, a5, a6, a7⟩, HJ, HO, HOH⟩, fz⟩ := U
  have hr := hN.f
  have hm := hN.m
  have hR := hN.R
  obtain ⟨hpv, hcv, ehv, _⟩ := (show OpsAt w hv u.nh u.Fh from HOH)
  subst ehv
  have hHN := hideIt hN
  have HSF := hideIt hsf
  clear hN hsf
  obtain ⟨m, HMm⟩ : ∃ m, Hid (u.m = m) := ⟨_, hideIt rfl⟩
  obtain ⟨R, HRR⟩ : ∃ R, Hid (u.R = R) := ⟨_, hideIt rfl⟩
  rw [HMm.out] at HJ HO hr hm
  rw [HRR.out] at a7 hr hR
  have hl : RB < w.heap.size := World.block_lt_of_cell? _ _ a0
  obtain ⟨pj, cj, ej, hcj, HJ'⟩ := HJ
  have HJ : JnAt w J u.rb l m := ⟨pj, cj, ej, hcj, HJ'⟩
  clear HJ'
  subst ej
  have HQ := hideIt (And.intro HJ (And.intro HO (And.intro hr HOH)))
  clear HJ HO hr HOH a0 a1 a3 a6 fz
  go_enter Tryz.func27, Tryz.ntmps27
  go_wp2_with (first | (at_make; refine wpList_make_full _ rfl _ _ 138 rfl w.heap.size 4 i0_ _ 1 Tryz.underlying138 hi_ hz0 hz1 .i64 .i64 (R : Int) (R : Int) R rfl rfl rfl rfl (by rw [hz2]; omega) (by unfold maxLen; omega) (Nat.le_refl _) ?_) | go_in)
  intro w3 hown3 hgrow3
  have hb3 : Below w.heap.size w w3 := ⟨hgrow3.os, hgrow3.tape, hgrow3.output, hgrow3.size, fun k hk => hgrow3.block k hk (by simp)⟩
  have hg3 : w.heap.size < w3.heap.size := (hown3.lt w.heap.size rfl).2
  have B3 : BoolAt w3 w.heap.size R (fun _ => false) := by
    refine ⟨fun j hj => ?_, fun o => hown3.frozenAt o⟩
    have e := hown3.cellAt j (by omega)
    rw [made_one, List.getElem?_replicate, if_pos hj] at e
    exact e
  have k4 := cell_later hb3 a4
  have HB3 := hideIt (And.intro hb3 (And.intro hg3 B3))
  have HA := hideIt (And.intro a2 (And.intro a5 a7))
  clear hown3 hgrow3 hb3 hg3 B3 a2 a4 a5 a7
  go_wp2_with fail
  go_loopg [19] m (fun gg v wr => ∃ i : Nat, i + gg = m ∧ v = .int .i64 (i : Int) ∧ BoolAt wr w.heap.size R (fbs u i) ∧ Below w.heap.size w wr ∧ w.heap.size < wr.heap.size)
  case atStart =>
    obtain ⟨hb3, hg3, B3⟩ := HB3.out
    exact ⟨0, by omega, rfl, B3, hb3, hg3⟩
  case round =>
    clear HB3 k4
    obtain ⟨i, hi, rfl, HB, hbw, hgr⟩ := hrel
    by_cases him : i < m
    · have i0 : (0 : Int) ≤ i := by omega
      have i1 : (i : Int) < (m : Int) := by omega
      obtain ⟨g, rfl, c0, c1, c2⟩ : ∃ g, pj = some ⟨g, 0, none⟩ ∧ w.cell? ⟨g, i * 3, none⟩ = some (.pointer (some ⟨u.rb i, 0, none⟩)) ∧ w.cell? ⟨g, i * 3 + 1, none⟩ = some (l i) ∧ w.cell? ⟨g, i * 3 + 2, none⟩ = some (.int .i64 (i : Int)) := by
        obtain ⟨p, c, e, _, h⟩ := HQ.out.1
        simp only [Value.slice.injEq] at e
        obtain ⟨rfl, _, rfl⟩ := e
        rcases h with h | ⟨g, e, h⟩
        · omega
        · exact ⟨g, e, h i him⟩
      have HOi := HQ.out.2.1 i him
      have hn0 := hHN.out.n0 i (by rw [HMm.out]; exact him)
      have hn := hHN.out.n1 i (by rw [HMm.out]; exact him)
      obtain ⟨pa, ca, ea, hca, HO'⟩ := HOi
      have HOi : OpsAt w (l i) (u.nn i) (u.F i) := ⟨pa, ca, ea, hca, HO'⟩
      clear HO'
      rw [ea] at c1 HOi
      have d0 := cell_later hbw c0
      have d1 := cell_later hbw c1
      have d2 := cell_later hbw c2
      have hne : (Value.slice pa (u.nn i) ca).ownBlock ≠ some w.heap.size := fun hq => by
        obtain ⟨p, c, e, _, h⟩ := HOi
        simp only [Value.slice.injEq] at e
        obtain ⟨rfl, _, rfl⟩ := e
        rcases h with h | ⟨g, e, h⟩
        · omega
        · rw [e] at hq
          have e2 : g = w.heap.size := Option.some.inj hq
          have e3 : g < w.heap.size := World.block_lt_of_cell? _ _ (h 0 (by omega)).1
          omega
      have bA := one_alloc wr (.cells #[.pointer (some ⟨u.rb i, 0, none⟩), .slice pa (u.nn i) ca, .int .i64 (i : Int)] 102)
      have hfl := fill_any (HB.blk (bA.block _ hgr)) ((HOi.below hbw).below bA) (fun j hj => HQ.out.2.2.1 i j him hj) hne (Nat.lt_of_lt_of_le hgr bA.size) (by omega) (by omega)
      have HBW := hideIt (And.intro hbw bA)
      clear HB HOi hne c0 c1 c2 hbw bA
      go_wp2_with fail
      refine hfl.mono ?_
      rintro e w4 ⟨rfl, HB4, W4⟩
      have HQ4 := hideIt (And.intro HB4 W4)
      clear HB4 W4 hfl
      go_wp2
      go_roundg (m - (i + 1))
      case measure => omega
      case rel =>
        obtain ⟨HB4, W4⟩ := HQ4.out
        obtain ⟨hbw, bA⟩ := HBW.out
        have h1 := then_ hbw bA
        have hs4 := W4.size
        have hsA := bA.size
        refine ⟨i + 1, by omega, by go_num, HB4, ?_, by omega⟩
        exact ⟨W4.os.trans h1.os, W4.tape.trans h1.tape, W4.output.trans h1.output, Nat.le_trans h1.size hs4, fun q hq => (W4.block q (by have := h1.size; omega) (by omega)).trans (h1.block q hq)⟩
    · have e : i = m := by omega
      subst e
      obtain ⟨a2, a5, a7⟩ := HA.out
      have b2 := cell_later hbw a2
      have b5 := cell_later hbw a5
      have haf := allFilled_any HB (HQ.out.2.2.2.below hbw) (fun t ht => ⟨by rw [← HRR.out]; exact hHN.out.fh t ht, by rw [← HMm.out]; exact HSF.out t ht⟩) (by omega) (by have := hHN.out.h1; omega)
      clear a2 a5 a7
      go_wp2_with fail
      refine haf.mono ?_
      rintro e w5 ⟨rfl, hw5⟩
      have b5 := cell_later hw5 b5
      have HW5 := hideIt (then_ hbw hw5)
      clear hw5 haf hbw HB
      go_wp2_with fail
      go_loopg [41] 0 (fun g v wx => v = .int .i64 0 ∧ wx = w5)
      case atStart => exact ⟨rfl, rfl⟩
      case round =>
        obtain ⟨rfl, rfl⟩ := hrel
        go_wp2
        go_ret2
        exact ⟨rfl, HW5.out⟩
end Go.Proofs.Qxb6500880aGreat
