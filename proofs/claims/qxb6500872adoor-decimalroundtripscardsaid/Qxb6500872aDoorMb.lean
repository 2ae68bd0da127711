import Derived.Test.Qxb6500872aDoorWt
import Derived.Test.Qxb6500872aDoorWu
import Derived.Test.Qxb6500872aDoorWv
import Derived.Test.Qxb6500872aDoorWx
import Derived.Test.Qxb6500872aDoorWy
import Derived.Test.Qxb6500872aDoorWz
import Derived.Test.Qxb6500872aDoorSa
import Derived.Test.Qxb6500872aDoorSb
import Derived.Test.Qxb6500872aDoorSc
import Derived.Test.Qxb6500872aDoorSd
import Derived.Test.Qxb6500872aDoorSe
import Derived.Test.Qxb6500872aDoorSf
import Derived.Test.Qxb6500872aDoorSg
import Derived.Test.Qxb6500872aDoorMa
set_option linter.unusedVariables false
namespace Go.Proofs.Qxb6500872aDoor
open Go.RowKit

/-- Every step. -/
theorem step_any {k d d2 a b wd : Int} {ng : Bool} {lp : Option Addr} {ln lc : Nat} {s : ByteArray} {w : World} {B K : Nat} {R : Nat → Reg} {p0 p1 : Addr} {E2 : Value}
    (hR : Regs w B K R) (hK : K ≤ 80000) (hS : Sents w p0 p1 E2) (hK0 : 128 ≤ K) (hwd : -9223372036854775808 ≤ wd ∧ wd < 9223372036854775808) (hL : ln ≤ 128 → ∃ zs, Limbs w lp ln ln zs) :
    Calls Tryd.prog 5 #[.pointer (some ⟨B, 0, none⟩), .agg #[.int .i64 k, .int .i64 d, .int .i64 d2, .int .i64 a, .int .i64 b, .bool ng, .slice lp ln lc, .string s, .int .i64 wd]] w fun e w' => StepPost w B K k d s e w' := by
  have hk : (k < 0 ∨ 13 < k) ∨ k = 0 ∨ k = 1 ∨ k = 2 ∨ k = 3 ∨ k = 4 ∨ k = 5 ∨ k = 6 ∨ k = 7 ∨ k = 8 ∨ k = 9 ∨ k = 10 ∨ k = 11 ∨ k = 12 ∨ k = 13 := by omega
  rcases hk with hk | rfl | rfl | rfl | rfl | rfl | rfl | rfl | rfl | rfl | rfl | rfl | rfl | rfl | rfl
  · exact step_bad hR hK hS hk
  · exact step_load hR hK hS hK0 hL
  · exact step_parse hR hK hS hK0
  · exact step_add hR hK hS
  · exact step_sub hR hK hS
  · exact step_mul hR hK hS hK0
  · exact step_div hR hK hS hK0
  · exact step_gcd hR hK hS hK0
  · exact step_neg hR hK hS
  · exact step_abs hR hK hS
  · exact step_cmp hR hK hS
  · exact step_str hR hK hS
  · exact step_word hR hK hS hK0 hwd
  · exact step_i64 hR hK hS
  · exact step_bits hR hK hS
end Go.Proofs.Qxb6500872aDoor
