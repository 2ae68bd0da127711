import Derived.Test.Qxb6500877aGreatDoorPMa
set_option linter.unusedVariables false
set_option linter.unusedSimpArgs false
namespace Go.Proofs.Qxb6500877aGreatDoor
open Go.RowKit



def kindR (v : Int) : Int := if 0 ≤ v ∧ v < 4294967296 then v else 0
def kindB (v : Int) : Bool := decide (0 ≤ v ∧ v < 4294967296)
def argF (n v : Int) : Int := if 0 ≤ v ∧ v < n then v else -1
theorem argF_rng (n v : Int) : argF n v = -1 ∨ 0 ≤ argF n v ∧ argF n v < n := by
  unfold argF
  split
  · exact .inr ‹_›
  · exact .inl rfl
set_option maxHeartbeats 1000000 in
theorem coreArg_any (v : Int) (w : World) : Calls Tryz.prog 69 #[.int .i64 v] w fun e w' => e = .returned (.int .i64 (argF 4 v)) ∧ w' = w := by
  by_cases h0 : v < 0
  · have hb : decide (v < 0) = true := by simpa using h0
    go_enter Tryz.func69, Tryz.ntmps69
    go_wp2
    go_ret
    exact ⟨ret_int (show (-1 : Int) = argF 4 v by rw [argF, if_neg (by omega)]), rfl⟩
  · have hb : decide (v < 0) = false := by simpa using h0
    by_cases h1 : 4 ≤ v
    · have hb1 : decide (4 ≤ v) = true := by simpa using h1
      go_enter Tryz.func69, Tryz.ntmps69
      go_wp2
      go_ret
      exact ⟨ret_int (show (-1 : Int) = argF 4 v by rw [argF, if_neg (by omega)]), rfl⟩
    · have hb1 : decide (4 ≤ v) = false := by simpa using h1
      go_enter Tryz.func69, Tryz.ntmps69
      go_wp2
      go_ret
      exact ⟨ret_int (show v = argF 4 v by rw [argF, if_pos (by omega)]), rfl⟩
set_option maxHeartbeats 1000000 in
theorem taskArg_any (v : Int) (w : World) : Calls Tryz.prog 142 #[.int .i64 v] w fun e w' => e = .returned (.int .i64 (argF 16 v)) ∧ w' = w := by
  by_cases h0 : v < 0
  · have hb : decide (v < 0) = true := by simpa using h0
    go_enter Tryz.func142, Tryz.ntmps142
    go_wp2
    go_ret
    exact ⟨ret_int (show (-1 : Int) = argF 16 v by rw [argF, if_neg (by omega)]), rfl⟩
  · have hb : decide (v < 0) = false := by simpa using h0
    by_cases h1 : 16 ≤ v
    · have hb1 : decide (16 ≤ v) = true := by simpa using h1
      go_enter Tryz.func142, Tryz.ntmps142
      go_wp2
      go_ret
      exact ⟨ret_int (show (-1 : Int) = argF 16 v by rw [argF, if_neg (by omega)]), rfl⟩
    · have hb1 : decide (16 ≤ v) = false := by simpa using h1
      go_enter Tryz.func142, Tryz.ntmps142
      go_wp2
      go_ret
      exact ⟨ret_int (show v = argF 16 v by rw [argF, if_pos (by omega)]), rfl⟩
set_option maxHeartbeats 1000000 in
theorem bandArg_any (v : Int) (w : World) : Calls Tryz.prog 144 #[.int .i64 v] w fun e w' => e = .returned (.int .i64 (argF 4 v)) ∧ w' = w := by
  by_cases h0 : v < 0
  · have hb : decide (v < 0) = true := by simpa using h0
    go_enter Tryz.func144, Tryz.ntmps144
    go_wp2
    go_ret
    exact ⟨ret_int (show (-1 : Int) = argF 4 v by rw [argF, if_neg (by omega)]), rfl⟩
  · have hb : decide (v < 0) = false := by simpa using h0
    by_cases h1 : 4 ≤ v
    · have hb1 : decide (4 ≤ v) = true := by simpa using h1
      go_enter Tryz.func144, Tryz.ntmps144
      go_wp2
      go_ret
      exact ⟨ret_int (show (-1 : Int) = argF 4 v by rw [argF, if_neg (by omega)]), rfl⟩
    · have hb1 : decide (4 ≤ v) = false := by simpa using h1
      go_enter Tryz.func144, Tryz.ntmps144
      go_wp2
      go_ret
      exact ⟨ret_int (show v = argF 4 v by rw [argF, if_pos (by omega)]), rfl⟩
set_option maxHeartbeats 1000000 in
theorem validCore_any (v : Int) (w : World) : Calls Tryz.prog 98 #[.int .i64 v] w fun e w' => e = .returned (.bool (decide (0 ≤ v ∧ v < 4))) ∧ w' = w := by
  by_cases h0 : 0 ≤ v
  · have hb : decide (0 ≤ v) = true := by simpa using h0
    by_cases h1 : v < 4
    · have hb1 : decide (v < 4) = true := by simpa using h1
      go_enter Tryz.func98, Tryz.ntmps98
      go_wp2
      go_ret
      exact ⟨ret_bool (by simp <;> omega), rfl⟩
    · have hb1 : decide (v < 4) = false := by simpa using h1
      go_enter Tryz.func98, Tryz.ntmps98
      go_wp2
      go_ret
      exact ⟨ret_bool (by simp <;> omega), rfl⟩
  · have hb : decide (0 ≤ v) = false := by simpa using h0
    go_enter Tryz.func98, Tryz.ntmps98
    go_wp2
    go_ret
    exact ⟨ret_bool (by simp <;> omega), rfl⟩
set_option maxHeartbeats 1000000 in
theorem validTask_any (v : Int) (w : World) : Calls Tryz.prog 115 #[.int .i64 v] w fun e w' => e = .returned (.bool (decide (0 ≤ v ∧ v < 16))) ∧ w' = w := by
  by_cases h0 : 0 ≤ v
  · have hb : decide (0 ≤ v) = true := by simpa using h0
    by_cases h1 : v < 16
    · have hb1 : decide (v < 16) = true := by simpa using h1
      go_enter Tryz.func115, Tryz.ntmps115
      go_wp2
      go_ret
      exact ⟨ret_bool (by simp <;> omega), rfl⟩
    · have hb1 : decide (v < 16) = false := by simpa using h1
      go_enter Tryz.func115, Tryz.ntmps115
      go_wp2
      go_ret
      exact ⟨ret_bool (by simp <;> omega), rfl⟩
  · have hb : decide (0 ≤ v) = false := by simpa using h0
    go_enter Tryz.func115, Tryz.ntmps115
    go_wp2
    go_ret
    exact ⟨ret_bool (by simp <;> omega), rfl⟩
set_option maxHeartbeats 1000000 in
theorem validBand_any (v : Int) (w : World) : Calls Tryz.prog 193 #[.int .i64 v] w fun e w' => e = .returned (.bool (decide (0 ≤ v ∧ v < 4))) ∧ w' = w := by
  by_cases h0 : 0 ≤ v
  · have hb : decide (0 ≤ v) = true := by simpa using h0
    by_cases h1 : v < 4
    · have hb1 : decide (v < 4) = true := by simpa using h1
      go_enter Tryz.func193, Tryz.ntmps193
      go_wp2
      go_ret
      exact ⟨ret_bool (by simp <;> omega), rfl⟩
    · have hb1 : decide (v < 4) = false := by simpa using h1
      go_enter Tryz.func193, Tryz.ntmps193
      go_wp2
      go_ret
      exact ⟨ret_bool (by simp <;> omega), rfl⟩
  · have hb : decide (0 ≤ v) = false := by simpa using h0
    go_enter Tryz.func193, Tryz.ntmps193
    go_wp2
    go_ret
    exact ⟨ret_bool (by simp <;> omega), rfl⟩
set_option maxHeartbeats 1000000 in
theorem noteTask_any {w : World} {B : Nat} {k c u : Int} (hs : w.cell? ⟨B, 6752, none⟩ = some .nilIface) : Calls Tryz.prog 130 #[.pointer (some ⟨B, 0, none⟩), .int .u8 k, .int .i64 c, .int .i64 u] w fun e w' => e = .returned (.tuple #[]) ∧ w' = w := by
  go_enter Tryz.func130, Tryz.ntmps130
  go_wp2
  first | go_end0 | (refine bodyPost_ret (results_none rfl _ _ _) rfl ?_)
  exact ⟨rfl, rfl⟩
set_option maxHeartbeats 1000000 in
theorem noteTimer_any {w : World} {B : Nat} {k u : Int} {p : Value} (hs : w.cell? ⟨B, 6752, none⟩ = some .nilIface) : Calls Tryz.prog 105 #[.pointer (some ⟨B, 0, none⟩), .int .u8 k, p, .int .u64 u] w fun e w' => e = .returned (.tuple #[]) ∧ w' = w := by
  go_enter Tryz.func105, Tryz.ntmps105
  go_wp2
  first | go_end0 | (refine bodyPost_ret (results_none rfl _ _ _) rfl ?_)
  exact ⟨rfl, rfl⟩
set_option maxHeartbeats 1000000 in
theorem noteMsg_any {w : World} {B : Nat} {k : Int} {p : Value} (hs : w.cell? ⟨B, 6752, none⟩ = some .nilIface) : Calls Tryz.prog 133 #[.pointer (some ⟨B, 0, none⟩), .int .u8 k, p] w fun e w' => e = .returned (.tuple #[]) ∧ w' = w := by
  go_enter Tryz.func133, Tryz.ntmps133
  go_wp2
  first | go_end0 | (refine bodyPost_ret (results_none rfl _ _ _) rfl ?_)
  exact ⟨rfl, rfl⟩
set_option maxHeartbeats 1000000 in
theorem noteClock_any {w : World} {B : Nat} (hs : w.cell? ⟨B, 6752, none⟩ = some .nilIface) : Calls Tryz.prog 104 #[.pointer (some ⟨B, 0, none⟩)] w fun e w' => e = .returned (.tuple #[]) ∧ w' = w := by
  go_enter Tryz.func104, Tryz.ntmps104
  go_wp2
  first | go_end0 | (refine bodyPost_ret (results_none rfl _ _ _) rfl ?_)
  exact ⟨rfl, rfl⟩
set_option maxHeartbeats 1000000 in
theorem refuse_any {w : World} {B : Nat} {c : Int} (hs : w.cell? ⟨B, 6752, none⟩ = some .nilIface) : Calls Tryz.prog 128 #[.pointer (some ⟨B, 0, none⟩), .int .i64 c] w fun e w' => e = .returned (.int .i64 c) ∧ w' = w := by
  go_enter Tryz.func128, Tryz.ntmps128
  go_wp2
  go_ret
  exact ⟨rfl, rfl⟩
set_option maxHeartbeats 1000000 in
theorem kindArg_any (v : Int) (w : World) : Calls Tryz.prog 134 #[.int .i64 v] w fun e w' => e = .returned (.tuple #[.int .u32 (kindR v), .bool (kindB v)]) ∧ w' = w := by
  by_cases h0 : v < 0
  · have hb : decide (v < 0) = true := by simpa using h0
    go_enter Tryz.func134, Tryz.ntmps134
    go_wp2
    go_ret2
    exact ⟨by rw [show kindR v = 0 from if_neg (by omega), show kindB v = false from by simp [kindB]; omega]; rfl, rfl⟩
  · have hb : decide (v < 0) = false := by simpa using h0
    by_cases h1 : 4294967295 < v
    · have hb1 : decide (4294967295 < v) = true := by simpa using h1
      go_enter Tryz.func134, Tryz.ntmps134
      go_wp2
      go_ret2
      exact ⟨by rw [show kindR v = 0 from if_neg (by omega), show kindB v = false from by simp [kindB]; omega]; rfl, rfl⟩
    · have hb1 : decide (4294967295 < v) = false := by simpa using h1
      go_enter Tryz.func134, Tryz.ntmps134
      go_wp2
      go_ret2
      exact ⟨by rw [show kindR v = v from if_pos (by omega), show kindB v = true from by simp [kindB]; omega]; rfl, rfl⟩
set_option maxHeartbeats 1000000 in
theorem now_any {w : World} {B t : Nat} (hc : w.cell? ⟨B, 0, none⟩ = some (.int .u64 (t : Int))) : Calls Tryz.prog 28 #[.pointer (some ⟨B, 0, none⟩)] w fun e w' => e = .returned (.int .u64 (t : Int)) ∧ w' = w := by
  go_enter Tryz.func28, Tryz.ntmps28
  go_wp2
  go_ret
  exact ⟨rfl, rfl⟩
set_option maxHeartbeats 1000000 in
theorem saturated0_any {w : World} {B t : Nat} (hc : w.cell? ⟨B, 0, none⟩ = some (.int .u64 (t : Int))) : Calls Tryz.prog 106 #[.pointer (some ⟨B, 0, none⟩)] w fun e w' => e = .returned (.bool (decide (t = 18446744073709551615))) ∧ w' = w := by
  go_enter Tryz.func106, Tryz.ntmps106
  go_wp2
  go_ret
  refine ⟨ret_bool ?_, rfl⟩
  by_cases h : t = 18446744073709551615
  · subst h; simp
  · have : ¬ ((t : Int) = 18446744073709551615) := by omega
    simp [h, this]
set_option maxHeartbeats 1000000 in
theorem saturated_any {w : World} {B t : Nat} (hc : w.cell? ⟨B, 0, none⟩ = some (.int .u64 (t : Int))) : Calls Tryz.prog 44 #[.pointer (some ⟨B, 0, none⟩)] w fun e w' => e = .returned (.bool (decide (t = 18446744073709551615))) ∧ w' = w := by
  go_enter Tryz.func44, Tryz.ntmps44
  go_wp2_with fail
  refine (saturated0_any hc).mono ?_
  rintro e w1 ⟨rfl, rfl⟩
  go_wp2
  go_ret
  exact ⟨rfl, rfl⟩
set_option maxHeartbeats 1000000 in
theorem fold4_any (v : Int) (w : World) : Calls Tryz.prog 108 #[.int .i64 v, .int .i64 4] w fun e w' => e = .returned (.int .i64 (v % 4)) ∧ w' = w := by
  have e1 := Int.tmod_add_mul_tdiv v 4
  have e2 := Int.tmod_lt_of_pos v (b := 4) (by omega)
  have e3 := Int.lt_tmod_of_pos v (b := 4) (by omega)
  by_cases h : v.tmod 4 < 0
  · have hw : IntKind.i64.wrap (v.tmod 4 + 4) = v.tmod 4 + 4 := wrap_i64 (by omega)
    have hv := hideIt (show v.tmod 4 + 4 = v % 4 by omega)
    clear e1 e2 e3
    go_enter Tryz.func108, Tryz.ntmps108
    go_wp2
    go_ret
    exact ⟨ret_int hv.out, rfl⟩
  · have hv := hideIt (show v.tmod 4 = v % 4 by omega)
    clear e1 e2 e3
    go_enter Tryz.func108, Tryz.ntmps108
    go_wp2
    go_ret
    exact ⟨ret_int hv.out, rfl⟩
set_option maxHeartbeats 1000000 in
theorem foldCore_any (v : Int) (w : World) : Calls Tryz.prog 46 #[.int .i64 v] w fun e w' => e = .returned (.int .i64 (v % 4)) ∧ w' = w := by
  go_enter Tryz.func46, Tryz.ntmps46
  go_wp2_with fail
  refine (fold4_any v w).mono ?_
  rintro e w1 ⟨rfl, rfl⟩
  go_wp2
  go_ret
  exact ⟨rfl, rfl⟩
set_option maxHeartbeats 1000000 in
theorem fold16_any (v : Int) (w : World) : Calls Tryz.prog 108 #[.int .i64 v, .int .i64 16] w fun e w' => e = .returned (.int .i64 (v % 16)) ∧ w' = w := by
  have e1 := Int.tmod_add_mul_tdiv v 16
  have e2 := Int.tmod_lt_of_pos v (b := 16) (by omega)
  have e3 := Int.lt_tmod_of_pos v (b := 16) (by omega)
  by_cases h : v.tmod 16 < 0
  · have hw : IntKind.i64.wrap (v.tmod 16 + 16) = v.tmod 16 + 16 := wrap_i64 (by omega)
    have hv := hideIt (show v.tmod 16 + 16 = v % 16 by omega)
    clear e1 e2 e3
    go_enter Tryz.func108, Tryz.ntmps108
    go_wp2
    go_ret
    exact ⟨ret_int hv.out, rfl⟩
  · have hv := hideIt (show v.tmod 16 = v % 16 by omega)
    clear e1 e2 e3
    go_enter Tryz.func108, Tryz.ntmps108
    go_wp2
    go_ret
    exact ⟨ret_int hv.out, rfl⟩
set_option maxHeartbeats 1000000 in
theorem foldBox_any (v : Int) (w : World) : Calls Tryz.prog 131 #[.int .i64 v] w fun e w' => e = .returned (.int .i64 (v % 16)) ∧ w' = w := by
  go_enter Tryz.func131, Tryz.ntmps131
  go_wp2_with fail
  refine (fold16_any v w).mono ?_
  rintro e w1 ⟨rfl, rfl⟩
  go_wp2
  go_ret
  exact ⟨rfl, rfl⟩
end Go.Proofs.Qxb6500877aGreatDoor
