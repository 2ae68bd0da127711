import Derived.Test.Qxb6500872aDoorWd
import Derived.Test.Qxb6500872aDoorShelf
import Derived.Lib.ItoaNum
import Derived.OpenShut
namespace Go.Proofs.Qxb6500872aDoor
open Go.RowKit

/-- A row of two limbs that has just been laid. -/
theorem lit2_limbs (W : World) (x y : Int) (hx : 0 ≤ x ∧ x < 4294967296) (hy : 0 ≤ y ∧ y < 4294967296) : Limbs (W.alloc (.cells #[.int .u32 x, .int .u32 y] 61)) (some ⟨W.heap.size, 0, none⟩) 2 2 [x, y] := by
  refine ⟨rfl, Nat.le_refl _, by omega, fun j => ?_, .inr ⟨_, _, rfl, fun j hj => ?_⟩⟩
  · match j with
    | 0 => simpa using hx
    | 1 => simpa using hy
    | j + 2 => simp
  · match j, hj with
    | 0, _ => simp
    | 1, _ => simp
theorem lit1_limbs (W : World) (x : Int) (hx : 0 ≤ x ∧ x < 4294967296) : Limbs (W.alloc (.cells #[.int .u32 x] 61)) (some ⟨W.heap.size, 0, none⟩) 1 1 [x] := by
  refine ⟨rfl, Nat.le_refl _, by omega, fun j => ?_, .inr ⟨_, _, rfl, fun j hj => ?_⟩⟩
  · match j with
    | 0 => simpa using hx
    | j + 1 => simp
  · match j, hj with
    | 0, _ => simp

theorem bits_rng (op : BinOp) (x y : Int) : 0 ≤ bits op .u64 x y ∧ bits op .u64 x y < 18446744073709551616 := by
  have := bounds_u64 (wf_bits op .u64 x y)
  omega

set_option maxHeartbeats 400000 in
theorem fromU64_any (v : Int) (h0 : 0 ≤ v) (h1 : v < 18446744073709551616) (w : World) :
    Calls Tryd.prog 40 #[.int .u64 v] w fun e w' => (∃ p m zs, e = .returned (.slice p m m) ∧ Limbs w' p m m zs ∧ m ≤ 2 ∧ nl zs m = m) ∧ Below w.heap.size w w' := by
  have hL := lit2_limbs w (v % 4294967296) (v / 4294967296) (by omega) (by omega)
  go_enter Tryd.func40, Tryd.ntmps40
  go_wp2_with (go_at_call 32; refine (norm_any hL).mono ?_; rintro e wq ⟨rfl, hwq⟩; subst hwq)
  have hl := nl_le [v % 4294967296, v / 4294967296] 2
  go_ret
  exact ⟨⟨_, _, _, rfl, hL.norm, hl, nl_norm hL.len⟩, (Below.refl _ _).alloc (Nat.le_refl _) _⟩

def RetU64 (e : Ending) : Prop := ∃ v ok, e = .returned (.tuple #[.int .u64 v, .bool ok]) ∧ 0 ≤ v ∧ v < 18446744073709551616

set_option maxHeartbeats 400000 in
theorem toU64_any {a : Option Addr} {n c : Nat} {xs : List Int} {w : World} (h : Limbs w a n c xs) :
    Calls Tryd.prog 41 #[.slice a n c] w fun e w' => RetU64 e ∧ w' = w := by
  have hb := h.big
  have hc := h.cap
  have hnl := nl_le xs n
  have hU := h.norm
  go_enter Tryd.func41, Tryd.ntmps41
  go_wp2_with (go_at_call 32; refine (norm_any h).mono ?_; rintro e w ⟨rfl, rfl⟩)
  · go_ret2
    exact ⟨⟨_, _, rfl, by omega, by omega⟩, rfl⟩
  · have h2 : nl xs n ≤ 2 := by omega
    go_loop [2, 13] (fun s i => ∃ (j : Nat) (v : Int), j ≤ nl xs n ∧ i = .int .i64 j ∧ s = .int .u64 v ∧ 0 ≤ v ∧ v < 18446744073709551616) (fun _ i => nl xs n - (intOf i).toNat)
    case atStart => exact ⟨0, 0, Nat.zero_le _, rfl, rfl, by omega, by omega⟩
    case round =>
      obtain ⟨j, v, hj, rfl, rfl, hv0, hv1⟩ := hrel
      by_cases hlt : j < nl xs n
      · obtain ⟨b1, o1, rfl, hc1⟩ := hU.at hlt
        have hx := hc1 j hlt
        have rx := hU.rng j
        clear hc1
        have hj2 : j = 0 ∨ j = 1 := by omega
        rcases hj2 with rfl | rfl
        · rw [Nat.add_zero] at hx
          go_wp2
          go_round
          case rel => exact ⟨1, _, by omega, by go_num, rfl, (bits_rng _ _ _).1, (bits_rng _ _ _).2⟩
          case measure => simp [intOf]; omega
        · go_wp2
          go_round
          case rel => exact ⟨2, _, by omega, by go_num, rfl, (bits_rng _ _ _).1, (bits_rng _ _ _).2⟩
          case measure => simp [intOf]; omega
      · go_wp2
        go_ret2
        exact ⟨⟨_, _, rfl, by omega, by omega⟩, rfl⟩

set_option maxHeartbeats 400000 in
theorem bitLen_any {a : Option Addr} {n c : Nat} {xs : List Int} {w : World} (h : Limbs w a n c xs) :
    Calls Tryd.prog 26 #[.slice a n c] w fun e w' => (∃ v, e = .returned (.int .i64 v)) ∧ w' = w := by
  have hb := h.big
  have hc := h.cap
  have hnl := nl_le xs n
  have hU := h.norm
  by_cases h0 : nl xs n = 0
  · have hd : (((nl xs n : Nat) : Int) == 0) = true := by simp [h0]
    have HX : Hid (nl xs n = 0) := h0
    clear h0
    go_enter Tryd.func26, Tryd.ntmps26
    go_wp2_with (go_at_call 32; refine (norm_any h).mono ?_; rintro e w ⟨rfl, rfl⟩)
    go_ret
    exact ⟨⟨_, rfl⟩, rfl⟩
  · obtain ⟨b1, o1, rfl, hc1⟩ := hU.at (k := nl xs n - 1) (by omega)
    have hx := hc1 (nl xs n - 1) (by omega)
    have rx := hU.rng (nl xs n - 1)
    clear hc1
    go_enter Tryd.func26, Tryd.ntmps26
    go_wp2_with (first | (go_at_call 32; refine (norm_any h).mono ?_; rintro e w ⟨rfl, rfl⟩) | (go_at_call 42; refine (Tryd.bits_Len32 _ _ rx.1 (by omega)).mono ?_; rintro e w ⟨rfl, rfl⟩))
    go_ret
    exact ⟨⟨_, rfl⟩, rfl⟩

def RetI64 (e : Ending) : Prop := ∃ v ok, e = .returned (.tuple #[.int .i64 v, .bool ok])

set_option maxHeartbeats 400000 in
theorem int64_any {m : Bool} {a : Option Addr} {n c : Nat} {xs : List Int} {w : World} (h : Limbs w a n c xs) :
    Calls Tryd.prog 25 #[.agg #[.bool m, .slice a n c]] w fun e w' => RetI64 e ∧ Below w.heap.size w w' := by
  have H := h.below ((Below.refl w.heap.size w).alloc (Nat.le_refl _) (.cells #[.bool m, .slice a n c] 28))
  have hB : Below w.heap.size w (w.alloc (.cells #[.bool m, .slice a n c] 28)) := (Below.refl w.heap.size w).alloc (Nat.le_refl _) _
  cases m
  all_goals
    go_enter Tryd.func25, Tryd.ntmps25
    go_wp2_with (go_at_call 41; refine (toU64_any H).mono ?_; rintro e w1 ⟨⟨v, ok, rfl, hv0, hv1⟩, rfl⟩; cases ok)
    all_goals
      go_ret2
      exact ⟨⟨_, _, rfl⟩, hB⟩

def RetInt (K : Nat) (e : Ending) (w : World) : Prop := ∃ m p k zs, e = .returned (.agg #[.bool m, .slice p k k]) ∧ Limbs w p k k zs ∧ k ≤ K

/-- A store into a cell that holds no limb. -/
theorem Limbs.store {w : World} {a : Option Addr} {n c : Nat} {zs : List Int} (h : Limbs w a n c zs) {q : Addr} {v : Value} (hq : w.cell? q = some v) (hv : ∀ z, v ≠ .int .u32 z) (u : Value) : Limbs (w.setCell q u) a n c zs := by
  refine ⟨h.len, h.cap, h.big, h.rng, ?_⟩
  rcases h.mem with h0 | ⟨b, off, ha, hcell⟩
  · exact .inl h0
  · refine .inr ⟨b, off, ha, fun j hj => ?_⟩
    rw [World.cell?_setCell_other]
    · exact hcell j hj
    · intro e
      subst e
      rw [hcell j hj] at hq
      exact hv _ (Option.some.inj hq).symm

/-- The two cells of a struct result, stored. -/
theorem Limbs.store2 {w : World} {a : Option Addr} {n c : Nat} {zs : List Int} (h : Limbs w a n c zs) {b : Nat} {x : Bool} {p : Option Addr} {k l : Nat} (h0 : w.cell? ⟨b, 0, none⟩ = some (.bool x)) (h1 : w.cell? ⟨b, 1, none⟩ = some (.slice p k l)) (u v : Value) :
    Limbs ((w.setCell ⟨b, 0, none⟩ u).setCell ⟨b, 1, none⟩ v) a n c zs :=
  (h.store h0 (fun _ e => by cases e) u).store (by rw [World.cell?_setCell_other _ _ _ _ (by simp)]; exact h1) (fun _ e => by cases e) v

theorem wrap_rng (n : Int) : 0 ≤ IntKind.u64.wrap n ∧ IntKind.u64.wrap n < 18446744073709551616 := by rw [IntKind.wrap_u64]; omega

set_option maxHeartbeats 400000 in
theorem fromI64_any (v : Int) (h0 : -9223372036854775808 ≤ v) (h1 : v < 9223372036854775808) (w : World) :
    Calls Tryd.prog 24 #[.int .i64 v] w fun e w' => RetInt 2 e w' ∧ Below w.heap.size w w' := by
  have hB0 := one_alloc w (.cells #[.bool false, .slice none 0 0] 28)
  by_cases hn : v < 0
  · have r := wrap_rng (-IntKind.u64.wrap v)
    go_enter Tryd.func24, Tryd.ntmps24
    go_wp2_with (first
      | (go_at_call 40; refine (fromU64_any _ r.1 r.2 _).mono ?_; rintro e w1 ⟨⟨p, k, zs, rfl, hZ, hk, hnz⟩, hb1⟩)
      | (go_at_call 28; refine (makeInt_any hZ).mono ?_; rintro e w2 ⟨rfl, hb2⟩; obtain ⟨c0, c1, f0, f1⟩ := kept2 (chain hb1 hb2) (b := w.heap.size) (v0 := .bool false) (v1 := .slice none 0 0) (by simp) (by simp) (by simp) (by simp)))
    exact bodyPost_ret (v := .agg #[.bool (decide (0 < k)), .slice p k k]) (by simp [results, Tryd.results24, go_sem, c0, c1]) rfl
      ⟨⟨_, _, _, _, rfl, (hZ.below hb2).store2 c0 c1 _ _, hk⟩, ((chain hB0 (chain hb1 hb2)).setCell (Nat.le_refl _) _).setCell (Nat.le_refl _) _⟩
  · go_enter Tryd.func24, Tryd.ntmps24
    go_wp2_with (first
      | (go_at_call 40; refine (fromU64_any _ (by omega) (by omega) _).mono ?_; rintro e w1 ⟨⟨p, k, zs, rfl, hZ, hk, hnz⟩, hb1⟩)
      | (go_at_call 28; refine (makeInt_any hZ).mono ?_; rintro e w2 ⟨rfl, hb2⟩; obtain ⟨c0, c1, f0, f1⟩ := kept2 (chain hb1 hb2) (b := w.heap.size) (v0 := .bool false) (v1 := .slice none 0 0) (by simp) (by simp) (by simp) (by simp)))
    exact bodyPost_ret (v := .agg #[.bool false, .slice p k k]) (by simp [results, Tryd.results24, go_sem, c0, c1]) rfl
      ⟨⟨_, _, _, _, rfl, (hZ.below hb2).store2 c0 c1 _ _, hk⟩, ((chain hB0 (chain hb1 hb2)).setCell (Nat.le_refl _) _).setCell (Nat.le_refl _) _⟩
end Go.Proofs.Qxb6500872aDoor
