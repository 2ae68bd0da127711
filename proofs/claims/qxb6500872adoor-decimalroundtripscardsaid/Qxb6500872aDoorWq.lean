import Derived.Test.Qxb6500872aDoorWp
set_option linter.unusedVariables false
namespace Go.Proofs.Qxb6500872aDoor
open Go.RowKit

/-- A register's number. -/
def RegNo (i : Int) : Prop := 0 ≤ i ∧ i < 8

/-- A well-formed step. -/
def WF (k d d2 a b : Int) : Prop :=
  ((k = 0 ∨ k = 1 ∨ k = 11) ∧ RegNo d) ∨ ((k = 2 ∨ k = 3 ∨ k = 4 ∨ k = 6) ∧ RegNo d ∧ RegNo a ∧ RegNo b) ∨ (k = 5 ∧ RegNo d ∧ RegNo d2 ∧ RegNo a ∧ RegNo b) ∨
  ((k = 7 ∨ k = 8) ∧ RegNo d ∧ RegNo a) ∨ (k = 9 ∧ RegNo a ∧ RegNo b) ∨ ((k = 10 ∨ k = 12 ∨ k = 13) ∧ RegNo a)

def WFRet (k d d2 a b : Int) (e : Ending) : Prop := ∃ r, e = .returned (.bool r) ∧ (r = true → WF k d d2 a b)

theorem isReg_hid (i : Int) (w : World) :
    Calls Tryd.prog 31 #[.int .i64 i] w fun e w' => (∃ r, e = .returned (.bool r) ∧ Hid (r = true → RegNo i)) ∧ w' = w :=
  (isReg_any i w).mono fun e w' ⟨he, hw⟩ => ⟨⟨_, he, fun h => show 0 ≤ i ∧ i < 8 from of_decide_eq_true h⟩, hw⟩

theorem kinds (k : Int) : k = 0 ∨ k = 1 ∨ k = 2 ∨ k = 3 ∨ k = 4 ∨ k = 5 ∨ k = 6 ∨ k = 7 ∨ k = 8 ∨ k = 9 ∨ k = 10 ∨ k = 11 ∨ k = 12 ∨ k = 13 ∨
    ((k == 0) = false ∧ (k == 1) = false ∧ (k == 2) = false ∧ (k == 3) = false ∧ (k == 4) = false ∧ (k == 5) = false ∧ (k == 6) = false ∧ (k == 7) = false ∧ (k == 8) = false ∧ (k == 9) = false ∧ (k == 10) = false ∧ (k == 11) = false ∧ (k == 12) = false ∧ (k == 13) = false) := by
  simp only [beq_eq_false_iff_ne]; omega

set_option maxHeartbeats 4000000 in
theorem wellFormed_any {k d d2 a b wd : Int} {ng : Bool} {p : Option Addr} {n c : Nat} {s : ByteArray} {w : World} :
    Calls Tryd.prog 12 #[.agg #[.int .i64 k, .int .i64 d, .int .i64 d2, .int .i64 a, .int .i64 b, .bool ng, .slice p n c, .string s, .int .i64 wd]] w fun e w' => WFRet k d d2 a b e ∧ Below w.heap.size w w' := by
  have hB0 := one_alloc w (.cells #[.int .i64 k, .int .i64 d, .int .i64 d2, .int .i64 a, .int .i64 b, .bool ng, .slice p n c, .string s, .int .i64 wd] 34)
  rcases kinds k with rfl | rfl | rfl | rfl | rfl | rfl | rfl | rfl | rfl | rfl | rfl | rfl | rfl | rfl | ⟨h0, h1, h2, h3, h4, h5, h6, h7, h8, h9, h10, h11, h12, h13⟩
  · skip
    go_enter Tryd.func12, Tryd.ntmps12
    go_wp2_with (first
      | (go_at_call_of 31 (Value.int IntKind.i64 d); refine (isReg_hid _ _).mono ?_; rintro e w1 ⟨⟨rd, rfl, hrd⟩, hw1⟩; subst hw1)
      | (go_at_call_of 31 (Value.int IntKind.i64 d2); refine (isReg_hid _ _).mono ?_; rintro e w1 ⟨⟨rd2, rfl, hrd2⟩, hw1⟩; subst hw1)
      | (go_at_call_of 31 (Value.int IntKind.i64 a); refine (isReg_hid _ _).mono ?_; rintro e w1 ⟨⟨ra, rfl, hra⟩, hw1⟩; subst hw1)
      | (go_at_call_of 31 (Value.int IntKind.i64 b); refine (isReg_hid _ _).mono ?_; rintro e w1 ⟨⟨rb, rfl, hrb⟩, hw1⟩; subst hw1))
    all_goals go_ret
    all_goals first
      | exact ⟨⟨_, rfl, fun h => absurd h Bool.false_ne_true⟩, hB0⟩
      | exact ⟨⟨_, rfl, fun h => .inl ⟨by omega, hrd.out (by first | assumption | exact h)⟩⟩, hB0⟩
  · skip
    go_enter Tryd.func12, Tryd.ntmps12
    go_wp2_with (first
      | (go_at_call_of 31 (Value.int IntKind.i64 d); refine (isReg_hid _ _).mono ?_; rintro e w1 ⟨⟨rd, rfl, hrd⟩, hw1⟩; subst hw1)
      | (go_at_call_of 31 (Value.int IntKind.i64 d2); refine (isReg_hid _ _).mono ?_; rintro e w1 ⟨⟨rd2, rfl, hrd2⟩, hw1⟩; subst hw1)
      | (go_at_call_of 31 (Value.int IntKind.i64 a); refine (isReg_hid _ _).mono ?_; rintro e w1 ⟨⟨ra, rfl, hra⟩, hw1⟩; subst hw1)
      | (go_at_call_of 31 (Value.int IntKind.i64 b); refine (isReg_hid _ _).mono ?_; rintro e w1 ⟨⟨rb, rfl, hrb⟩, hw1⟩; subst hw1))
    all_goals go_ret
    all_goals first
      | exact ⟨⟨_, rfl, fun h => absurd h Bool.false_ne_true⟩, hB0⟩
      | exact ⟨⟨_, rfl, fun h => .inl ⟨by omega, hrd.out (by first | assumption | exact h)⟩⟩, hB0⟩
  · skip
    go_enter Tryd.func12, Tryd.ntmps12
    go_wp2_with (first
      | (go_at_call_of 31 (Value.int IntKind.i64 d); refine (isReg_hid _ _).mono ?_; rintro e w1 ⟨⟨rd, rfl, hrd⟩, hw1⟩; subst hw1)
      | (go_at_call_of 31 (Value.int IntKind.i64 d2); refine (isReg_hid _ _).mono ?_; rintro e w1 ⟨⟨rd2, rfl, hrd2⟩, hw1⟩; subst hw1)
      | (go_at_call_of 31 (Value.int IntKind.i64 a); refine (isReg_hid _ _).mono ?_; rintro e w1 ⟨⟨ra, rfl, hra⟩, hw1⟩; subst hw1)
      | (go_at_call_of 31 (Value.int IntKind.i64 b); refine (isReg_hid _ _).mono ?_; rintro e w1 ⟨⟨rb, rfl, hrb⟩, hw1⟩; subst hw1))
    all_goals go_ret
    all_goals first
      | exact ⟨⟨_, rfl, fun h => absurd h Bool.false_ne_true⟩, hB0⟩
      | exact ⟨⟨_, rfl, fun h => .inr (.inl ⟨by omega, hrd.out (by first | assumption | exact h), hra.out (by first | assumption | exact h), hrb.out (by first | assumption | exact h)⟩)⟩, hB0⟩
  · skip
    go_enter Tryd.func12, Tryd.ntmps12
    go_wp2_with (first
      | (go_at_call_of 31 (Value.int IntKind.i64 d); refine (isReg_hid _ _).mono ?_; rintro e w1 ⟨⟨rd, rfl, hrd⟩, hw1⟩; subst hw1)
      | (go_at_call_of 31 (Value.int IntKind.i64 d2); refine (isReg_hid _ _).mono ?_; rintro e w1 ⟨⟨rd2, rfl, hrd2⟩, hw1⟩; subst hw1)
      | (go_at_call_of 31 (Value.int IntKind.i64 a); refine (isReg_hid _ _).mono ?_; rintro e w1 ⟨⟨ra, rfl, hra⟩, hw1⟩; subst hw1)
      | (go_at_call_of 31 (Value.int IntKind.i64 b); refine (isReg_hid _ _).mono ?_; rintro e w1 ⟨⟨rb, rfl, hrb⟩, hw1⟩; subst hw1))
    all_goals go_ret
    all_goals first
      | exact ⟨⟨_, rfl, fun h => absurd h Bool.false_ne_true⟩, hB0⟩
      | exact ⟨⟨_, rfl, fun h => .inr (.inl ⟨by omega, hrd.out (by first | assumption | exact h), hra.out (by first | assumption | exact h), hrb.out (by first | assumption | exact h)⟩)⟩, hB0⟩
  · skip
    go_enter Tryd.func12, Tryd.ntmps12
    go_wp2_with (first
      | (go_at_call_of 31 (Value.int IntKind.i64 d); refine (isReg_hid _ _).mono ?_; rintro e w1 ⟨⟨rd, rfl, hrd⟩, hw1⟩; subst hw1)
      | (go_at_call_of 31 (Value.int IntKind.i64 d2); refine (isReg_hid _ _).mono ?_; rintro e w1 ⟨⟨rd2, rfl, hrd2⟩, hw1⟩; subst hw1)
      | (go_at_call_of 31 (Value.int IntKind.i64 a); refine (isReg_hid _ _).mono ?_; rintro e w1 ⟨⟨ra, rfl, hra⟩, hw1⟩; subst hw1)
      | (go_at_call_of 31 (Value.int IntKind.i64 b); refine (isReg_hid _ _).mono ?_; rintro e w1 ⟨⟨rb, rfl, hrb⟩, hw1⟩; subst hw1))
    all_goals go_ret
    all_goals first
      | exact ⟨⟨_, rfl, fun h => absurd h Bool.false_ne_true⟩, hB0⟩
      | exact ⟨⟨_, rfl, fun h => .inr (.inl ⟨by omega, hrd.out (by first | assumption | exact h), hra.out (by first | assumption | exact h), hrb.out (by first | assumption | exact h)⟩)⟩, hB0⟩
  · skip
    go_enter Tryd.func12, Tryd.ntmps12
    go_wp2_with (first
      | (go_at_call_of 31 (Value.int IntKind.i64 d); refine (isReg_hid _ _).mono ?_; rintro e w1 ⟨⟨rd, rfl, hrd⟩, hw1⟩; subst hw1)
      | (go_at_call_of 31 (Value.int IntKind.i64 d2); refine (isReg_hid _ _).mono ?_; rintro e w1 ⟨⟨rd2, rfl, hrd2⟩, hw1⟩; subst hw1)
      | (go_at_call_of 31 (Value.int IntKind.i64 a); refine (isReg_hid _ _).mono ?_; rintro e w1 ⟨⟨ra, rfl, hra⟩, hw1⟩; subst hw1)
      | (go_at_call_of 31 (Value.int IntKind.i64 b); refine (isReg_hid _ _).mono ?_; rintro e w1 ⟨⟨rb, rfl, hrb⟩, hw1⟩; subst hw1))
    all_goals go_ret
    all_goals first
      | exact ⟨⟨_, rfl, fun h => absurd h Bool.false_ne_true⟩, hB0⟩
      | exact ⟨⟨_, rfl, fun h => .inr (.inr (.inl ⟨by omega, hrd.out (by first | assumption | exact h), hrd2.out (by first | assumption | exact h), hra.out (by first | assumption | exact h), hrb.out (by first | assumption | exact h)⟩))⟩, hB0⟩
  · skip
    go_enter Tryd.func12, Tryd.ntmps12
    go_wp2_with (first
      | (go_at_call_of 31 (Value.int IntKind.i64 d); refine (isReg_hid _ _).mono ?_; rintro e w1 ⟨⟨rd, rfl, hrd⟩, hw1⟩; subst hw1)
      | (go_at_call_of 31 (Value.int IntKind.i64 d2); refine (isReg_hid _ _).mono ?_; rintro e w1 ⟨⟨rd2, rfl, hrd2⟩, hw1⟩; subst hw1)
      | (go_at_call_of 31 (Value.int IntKind.i64 a); refine (isReg_hid _ _).mono ?_; rintro e w1 ⟨⟨ra, rfl, hra⟩, hw1⟩; subst hw1)
      | (go_at_call_of 31 (Value.int IntKind.i64 b); refine (isReg_hid _ _).mono ?_; rintro e w1 ⟨⟨rb, rfl, hrb⟩, hw1⟩; subst hw1))
    all_goals go_ret
    all_goals first
      | exact ⟨⟨_, rfl, fun h => absurd h Bool.false_ne_true⟩, hB0⟩
      | exact ⟨⟨_, rfl, fun h => .inr (.inl ⟨by omega, hrd.out (by first | assumption | exact h), hra.out (by first | assumption | exact h), hrb.out (by first | assumption | exact h)⟩)⟩, hB0⟩
  · skip
    go_enter Tryd.func12, Tryd.ntmps12
    go_wp2_with (first
      | (go_at_call_of 31 (Value.int IntKind.i64 d); refine (isReg_hid _ _).mono ?_; rintro e w1 ⟨⟨rd, rfl, hrd⟩, hw1⟩; subst hw1)
      | (go_at_call_of 31 (Value.int IntKind.i64 d2); refine (isReg_hid _ _).mono ?_; rintro e w1 ⟨⟨rd2, rfl, hrd2⟩, hw1⟩; subst hw1)
      | (go_at_call_of 31 (Value.int IntKind.i64 a); refine (isReg_hid _ _).mono ?_; rintro e w1 ⟨⟨ra, rfl, hra⟩, hw1⟩; subst hw1)
      | (go_at_call_of 31 (Value.int IntKind.i64 b); refine (isReg_hid _ _).mono ?_; rintro e w1 ⟨⟨rb, rfl, hrb⟩, hw1⟩; subst hw1))
    all_goals go_ret
    all_goals first
      | exact ⟨⟨_, rfl, fun h => absurd h Bool.false_ne_true⟩, hB0⟩
      | exact ⟨⟨_, rfl, fun h => .inr (.inr (.inr (.inl ⟨by omega, hrd.out (by first | assumption | exact h), hra.out (by first | assumption | exact h)⟩)))⟩, hB0⟩
  · skip
    go_enter Tryd.func12, Tryd.ntmps12
    go_wp2_with (first
      | (go_at_call_of 31 (Value.int IntKind.i64 d); refine (isReg_hid _ _).mono ?_; rintro e w1 ⟨⟨rd, rfl, hrd⟩, hw1⟩; subst hw1)
      | (go_at_call_of 31 (Value.int IntKind.i64 d2); refine (isReg_hid _ _).mono ?_; rintro e w1 ⟨⟨rd2, rfl, hrd2⟩, hw1⟩; subst hw1)
      | (go_at_call_of 31 (Value.int IntKind.i64 a); refine (isReg_hid _ _).mono ?_; rintro e w1 ⟨⟨ra, rfl, hra⟩, hw1⟩; subst hw1)
      | (go_at_call_of 31 (Value.int IntKind.i64 b); refine (isReg_hid _ _).mono ?_; rintro e w1 ⟨⟨rb, rfl, hrb⟩, hw1⟩; subst hw1))
    all_goals go_ret
    all_goals first
      | exact ⟨⟨_, rfl, fun h => absurd h Bool.false_ne_true⟩, hB0⟩
      | exact ⟨⟨_, rfl, fun h => .inr (.inr (.inr (.inl ⟨by omega, hrd.out (by first | assumption | exact h), hra.out (by first | assumption | exact h)⟩)))⟩, hB0⟩
  · skip
    go_enter Tryd.func12, Tryd.ntmps12
    go_wp2_with (first
      | (go_at_call_of 31 (Value.int IntKind.i64 d); refine (isReg_hid _ _).mono ?_; rintro e w1 ⟨⟨rd, rfl, hrd⟩, hw1⟩; subst hw1)
      | (go_at_call_of 31 (Value.int IntKind.i64 d2); refine (isReg_hid _ _).mono ?_; rintro e w1 ⟨⟨rd2, rfl, hrd2⟩, hw1⟩; subst hw1)
      | (go_at_call_of 31 (Value.int IntKind.i64 a); refine (isReg_hid _ _).mono ?_; rintro e w1 ⟨⟨ra, rfl, hra⟩, hw1⟩; subst hw1)
      | (go_at_call_of 31 (Value.int IntKind.i64 b); refine (isReg_hid _ _).mono ?_; rintro e w1 ⟨⟨rb, rfl, hrb⟩, hw1⟩; subst hw1))
    all_goals go_ret
    all_goals first
      | exact ⟨⟨_, rfl, fun h => absurd h Bool.false_ne_true⟩, hB0⟩
      | exact ⟨⟨_, rfl, fun h => .inr (.inr (.inr (.inr (.inl ⟨by omega, hra.out (by first | assumption | exact h), hrb.out (by first | assumption | exact h)⟩))))⟩, hB0⟩
  · skip
    go_enter Tryd.func12, Tryd.ntmps12
    go_wp2_with (first
      | (go_at_call_of 31 (Value.int IntKind.i64 d); refine (isReg_hid _ _).mono ?_; rintro e w1 ⟨⟨rd, rfl, hrd⟩, hw1⟩; subst hw1)
      | (go_at_call_of 31 (Value.int IntKind.i64 d2); refine (isReg_hid _ _).mono ?_; rintro e w1 ⟨⟨rd2, rfl, hrd2⟩, hw1⟩; subst hw1)
      | (go_at_call_of 31 (Value.int IntKind.i64 a); refine (isReg_hid _ _).mono ?_; rintro e w1 ⟨⟨ra, rfl, hra⟩, hw1⟩; subst hw1)
      | (go_at_call_of 31 (Value.int IntKind.i64 b); refine (isReg_hid _ _).mono ?_; rintro e w1 ⟨⟨rb, rfl, hrb⟩, hw1⟩; subst hw1))
    all_goals go_ret
    all_goals first
      | exact ⟨⟨_, rfl, fun h => absurd h Bool.false_ne_true⟩, hB0⟩
      | exact ⟨⟨_, rfl, fun h => .inr (.inr (.inr (.inr (.inr ⟨by omega, hra.out (by first | assumption | exact h)⟩))))⟩, hB0⟩
  · skip
    go_enter Tryd.func12, Tryd.ntmps12
    go_wp2_with (first
      | (go_at_call_of 31 (Value.int IntKind.i64 d); refine (isReg_hid _ _).mono ?_; rintro e w1 ⟨⟨rd, rfl, hrd⟩, hw1⟩; subst hw1)
      | (go_at_call_of 31 (Value.int IntKind.i64 d2); refine (isReg_hid _ _).mono ?_; rintro e w1 ⟨⟨rd2, rfl, hrd2⟩, hw1⟩; subst hw1)
      | (go_at_call_of 31 (Value.int IntKind.i64 a); refine (isReg_hid _ _).mono ?_; rintro e w1 ⟨⟨ra, rfl, hra⟩, hw1⟩; subst hw1)
      | (go_at_call_of 31 (Value.int IntKind.i64 b); refine (isReg_hid _ _).mono ?_; rintro e w1 ⟨⟨rb, rfl, hrb⟩, hw1⟩; subst hw1))
    all_goals go_ret
    all_goals first
      | exact ⟨⟨_, rfl, fun h => absurd h Bool.false_ne_true⟩, hB0⟩
      | exact ⟨⟨_, rfl, fun h => .inl ⟨by omega, hrd.out (by first | assumption | exact h)⟩⟩, hB0⟩
  · skip
    go_enter Tryd.func12, Tryd.ntmps12
    go_wp2_with (first
      | (go_at_call_of 31 (Value.int IntKind.i64 d); refine (isReg_hid _ _).mono ?_; rintro e w1 ⟨⟨rd, rfl, hrd⟩, hw1⟩; subst hw1)
      | (go_at_call_of 31 (Value.int IntKind.i64 d2); refine (isReg_hid _ _).mono ?_; rintro e w1 ⟨⟨rd2, rfl, hrd2⟩, hw1⟩; subst hw1)
      | (go_at_call_of 31 (Value.int IntKind.i64 a); refine (isReg_hid _ _).mono ?_; rintro e w1 ⟨⟨ra, rfl, hra⟩, hw1⟩; subst hw1)
      | (go_at_call_of 31 (Value.int IntKind.i64 b); refine (isReg_hid _ _).mono ?_; rintro e w1 ⟨⟨rb, rfl, hrb⟩, hw1⟩; subst hw1))
    all_goals go_ret
    all_goals first
      | exact ⟨⟨_, rfl, fun h => absurd h Bool.false_ne_true⟩, hB0⟩
      | exact ⟨⟨_, rfl, fun h => .inr (.inr (.inr (.inr (.inr ⟨by omega, hra.out (by first | assumption | exact h)⟩))))⟩, hB0⟩
  · skip
    go_enter Tryd.func12, Tryd.ntmps12
    go_wp2_with (first
      | (go_at_call_of 31 (Value.int IntKind.i64 d); refine (isReg_hid _ _).mono ?_; rintro e w1 ⟨⟨rd, rfl, hrd⟩, hw1⟩; subst hw1)
      | (go_at_call_of 31 (Value.int IntKind.i64 d2); refine (isReg_hid _ _).mono ?_; rintro e w1 ⟨⟨rd2, rfl, hrd2⟩, hw1⟩; subst hw1)
      | (go_at_call_of 31 (Value.int IntKind.i64 a); refine (isReg_hid _ _).mono ?_; rintro e w1 ⟨⟨ra, rfl, hra⟩, hw1⟩; subst hw1)
      | (go_at_call_of 31 (Value.int IntKind.i64 b); refine (isReg_hid _ _).mono ?_; rintro e w1 ⟨⟨rb, rfl, hrb⟩, hw1⟩; subst hw1))
    all_goals go_ret
    all_goals first
      | exact ⟨⟨_, rfl, fun h => absurd h Bool.false_ne_true⟩, hB0⟩
      | exact ⟨⟨_, rfl, fun h => .inr (.inr (.inr (.inr (.inr ⟨by omega, hra.out (by first | assumption | exact h)⟩))))⟩, hB0⟩
  · go_enter Tryd.func12, Tryd.ntmps12
    go_wp2
    go_ret
    exact ⟨⟨_, rfl, fun h => absurd h Bool.false_ne_true⟩, hB0⟩
end Go.Proofs.Qxb6500872aDoor
