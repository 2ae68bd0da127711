import Derived.Deep.CutBlock
import Derived.OwnWalk
import Derived.Maps.AppendAt
import Derived.Maps.OwnSet
import Derived.Maps.OwnOps
import Derived.Laws.ResultCell
import Derived.Test.Qxb6500880aLe
set_option linter.unusedVariables false
set_option linter.unusedSimpArgs false
namespace Go.Proofs.Qxb6500880a
open Go.RowKit

def NewSpec : Prop := ∀ (w : World) (gp gu gd m n V B : Nat) (bv av : Value), NewIn w gp gu gd m n V bv av → B ≤ 16777216 → 0 < n → n ≤ 100 → 0 < m → m ≤ 100 → 0 < V → m * n ≤ 900 → (n ≤ 32 → ¬ (64 < m ∨ 256 < min (m * n) V) → (n = 1 ∧ V = 1) ∨ m * n ≤ V) → Calls Try.prog 6 #[.agg #[.slice (some ⟨gp, 0, none⟩) 2 2, .slice (some ⟨gu, 0, none⟩) 1 1, .int .i64 1], .slice (some ⟨gd, 0, none⟩) 1 1, .agg #[.int .i64 (B : Int), .int .u8 0, .int .u64 0, .bool false]] w fun e w' => NewOut e w w' B m n V
theorem NewOut.res {e : Ending} {w w' : World} {B m n V : Nat} {cd : Int} {hh : Bool} (h : NewOut e w w' B m n V) (hc : (32 < n ∧ cd = 2 ∧ hh = false) ∨ (n ≤ 32 ∧ (64 < m ∨ 256 < min (m * n) V) ∧ cd = 3 ∧ hh = false) ∨ (n ≤ 32 ∧ ¬ (64 < m ∨ 256 < min (m * n) V) ∧ B = 0 ∧ cd = 11 ∧ hh = false) ∨ (n ≤ 32 ∧ ¬ (64 < m ∨ 256 < min (m * n) V) ∧ 0 < B ∧ codeV B = cd ∧ decide (2 ≤ B) = hh)) : NewRes e w w' cd hh := by
  refine ⟨h.bl, ?_⟩
  rcases hc with ⟨h1, rfl, rfl⟩ | ⟨h1, h2, rfl, rfl⟩ | ⟨h1, h2, h3, rfl, rfl⟩ | ⟨h1, h2, h3, h4, h5⟩
  · exact .inl ⟨rfl, h.tb h1⟩
  · exact .inl ⟨rfl, h.ru h1 h2⟩
  · exact .inl ⟨rfl, h.fa h1 h2 h3⟩
  · exact .inr ⟨B, h.ok h1 h2 h3, h4, h5⟩
theorem case_any (NEW : NewSpec) {w : World} {m n V B : Nat} {cd : Int} {hh : Bool} {bv : Value} (hb : BodyAt w bv m n V) (hB : B ≤ 16777216) (hn0 : 0 < n) (hn : n ≤ 100) (hm0 : 0 < m) (hm : m ≤ 100) (hV : 0 < V) (hmn : m * n ≤ 900) (hF : n ≤ 32 → ¬ (64 < m ∨ 256 < min (m * n) V) → (n = 1 ∧ V = 1) ∨ m * n ≤ V) (hc : (32 < n ∧ cd = 2 ∧ hh = false) ∨ (n ≤ 32 ∧ (64 < m ∨ 256 < min (m * n) V) ∧ cd = 3 ∧ hh = false) ∨ (n ≤ 32 ∧ ¬ (64 < m ∨ 256 < min (m * n) V) ∧ B = 0 ∧ cd = 11 ∧ hh = false) ∨ (n ≤ 32 ∧ ¬ (64 < m ∨ 256 < min (m * n) V) ∧ 0 < B ∧ codeV B = cd ∧ decide (2 ≤ B) = hh)) :
    Calls Try.prog 5 #[.agg #[.string (nmS false), .slice none 0 0, bv], .int .i64 (n : Int), .int .i64 (B : Int)] w fun e w' => e = .returned (.tuple #[.int .u8 cd, .bool hh]) ∧ Below w.heap.size w w' :=
  outcome_any hb hn0 hn (fun w2 gp gu gd av IN => (NEW w2 gp gu gd m n V B bv av IN hB hn0 hn hm0 hm hV hmn hF).mono (fun e w' h => h.res hc))
theorem case_opt {w : World} {m n V : Nat} {B : Int} {bv : Value} (hb : BodyAt w bv m n V) (hn0 : 0 < n) (hn : n ≤ 100) (hB : B < 0 ∨ 16777216 < B) :
    Calls Try.prog 5 #[.agg #[.string (nmS false), .slice none 0 0, bv], .int .i64 (n : Int), .int .i64 B] w fun e w' => e = .returned (.tuple #[.int .u8 1, .bool false]) ∧ Below w.heap.size w w' :=
  outcome_any hb hn0 hn (fun w2 gp gu gd av IN => (new_opt (w := w2) (gp := gp) (gu := gu) (gd := gd) hB).mono (fun e w' h => ⟨h.2, .inl ⟨rfl, 0, 0, h.1⟩⟩))
set_option maxRecDepth 20000 in
set_option maxHeartbeats 40000000 in
theorem law3_of (NEW : NewSpec) {w : World} : Calls Try.prog 3 #[] w fun e w' => e = .returned (.bool true) ∧ Below w.heap.size w w' := by
  obtain ⟨v0, hv0⟩ : ∃ v0, v0 = w := ⟨_, rfl⟩
  subst hv0
  have B0 := hideIt (Below.refl v0.heap.size v0)
  go_enter Try.func3, Try.ntmps3
  go_wp2_with fail
  refine (is_any (w := v0) (c := 0) (b := true)).mono ?_
  rintro e wa ⟨rfl, ewa⟩
  have ba : Below v0.heap.size v0 wa := by rw [ewa]; exact one_alloc _ _
  have p0 : wa.cell? ⟨v0.heap.size, 0, none⟩ = some (.int .u8 0) := by rw [ewa]; exact new_cell rfl _ _ 0
  have p1 : wa.cell? ⟨v0.heap.size, 1, none⟩ = some (.bool true) := by rw [ewa]; exact new_cell rfl _ _ 1
  clear ewa
  have HA := hideIt (And.intro ba (And.intro p0 p1))
  clear ba p0 p1
  go_wp2_with fail
  refine (rule4_any (w := wa) (m := 64) (n := 1) (V := 1) (by decide) (by decide) (by decide) (by decide) (by decide) (by decide)).mono ?_
  rintro e wb ⟨bv, rfl, hbd, bb⟩
  have HBb := hideIt (And.intro hbd bb)
  clear hbd bb
  go_wp2_with fail
  have hbd := HBb.out.1
  refine (case_any NEW (m := 64) (n := 1) (V := 1) (B := 2) (cd := 0) (hh := true) hbd (by decide) (by decide) (by decide) (by decide) (by decide) (by decide) (by decide) (by decide) (.inr (.inr (.inr ⟨by decide, by decide, by decide, rfl, by decide⟩)))).mono ?_
  rintro e v1 ⟨rfl, bc⟩
  obtain ⟨ba, p0, p1⟩ := HA.out
  have bb := HBb.out.2
  have q0 := cell_later (then_ bb bc) p0
  have q1 := cell_later (then_ bb bc) p1
  have B1 := hideIt (then_ B0.out (then_ ba (then_ bb bc)))
  obtain ⟨P0, hP⟩ : ∃ P, v0.heap.size = P := ⟨_, rfl⟩
  rw [hP] at q0 q1
  rw [hP]
  clear hbd bc ba p0 p1 bb HA HBb hP
  go_wp2_with fail
  refine (chk_any q0 q1).mono ?_
  rintro e wd ⟨rfl, ewd⟩
  replace ewd := ewd.symm
  subst ewd
  clear q0 q1
  go_wp2_with fail
  refine (is_any (w := v1) (c := 3) (b := false)).mono ?_
  rintro e wa ⟨rfl, ewa⟩
  have ba : Below v1.heap.size v1 wa := by rw [ewa]; exact one_alloc _ _
  have p0 : wa.cell? ⟨v1.heap.size, 0, none⟩ = some (.int .u8 3) := by rw [ewa]; exact new_cell rfl _ _ 0
  have p1 : wa.cell? ⟨v1.heap.size, 1, none⟩ = some (.bool false) := by rw [ewa]; exact new_cell rfl _ _ 1
  clear ewa
  have HA := hideIt (And.intro ba (And.intro p0 p1))
  clear ba p0 p1
  go_wp2_with fail
  refine (rule4_any (w := wa) (m := 65) (n := 1) (V := 1) (by decide) (by decide) (by decide) (by decide) (by decide) (by decide)).mono ?_
  rintro e wb ⟨bv, rfl, hbd, bb⟩
  have HBb := hideIt (And.intro hbd bb)
  clear hbd bb
  go_wp2_with fail
  have hbd := HBb.out.1
  refine (case_any NEW (m := 65) (n := 1) (V := 1) (B := 2) (cd := 3) (hh := false) hbd (by decide) (by decide) (by decide) (by decide) (by decide) (by decide) (by decide) (by decide) (.inr (.inl ⟨by decide, by decide, rfl, rfl⟩))).mono ?_
  rintro e v2 ⟨rfl, bc⟩
  obtain ⟨ba, p0, p1⟩ := HA.out
  have bb := HBb.out.2
  have q0 := cell_later (then_ bb bc) p0
  have q1 := cell_later (then_ bb bc) p1
  have B2 := hideIt (then_ B1.out (then_ ba (then_ bb bc)))
  obtain ⟨P1, hP⟩ : ∃ P, v1.heap.size = P := ⟨_, rfl⟩
  rw [hP] at q0 q1
  rw [hP]
  clear hbd bc ba p0 p1 bb HA HBb hP
  go_wp2_with fail
  refine (chk_any q0 q1).mono ?_
  rintro e wd ⟨rfl, ewd⟩
  replace ewd := ewd.symm
  subst ewd
  clear q0 q1
  go_wp2_with fail
  refine (is_any (w := v2) (c := 0) (b := true)).mono ?_
  rintro e wa ⟨rfl, ewa⟩
  have ba : Below v2.heap.size v2 wa := by rw [ewa]; exact one_alloc _ _
  have p0 : wa.cell? ⟨v2.heap.size, 0, none⟩ = some (.int .u8 0) := by rw [ewa]; exact new_cell rfl _ _ 0
  have p1 : wa.cell? ⟨v2.heap.size, 1, none⟩ = some (.bool true) := by rw [ewa]; exact new_cell rfl _ _ 1
  clear ewa
  have HA := hideIt (And.intro ba (And.intro p0 p1))
  clear ba p0 p1
  go_wp2_with fail
  refine (rule4_any (w := wa) (m := 8) (n := 32) (V := 256) (by decide) (by decide) (by decide) (by decide) (by decide) (by decide)).mono ?_
  rintro e wb ⟨bv, rfl, hbd, bb⟩
  have HBb := hideIt (And.intro hbd bb)
  clear hbd bb
  go_wp2_with fail
  have hbd := HBb.out.1
  refine (case_any NEW (m := 8) (n := 32) (V := 256) (B := 2) (cd := 0) (hh := true) hbd (by decide) (by decide) (by decide) (by decide) (by decide) (by decide) (by decide) (by decide) (.inr (.inr (.inr ⟨by decide, by decide, by decide, rfl, by decide⟩)))).mono ?_
  rintro e v3 ⟨rfl, bc⟩
  obtain ⟨ba, p0, p1⟩ := HA.out
  have bb := HBb.out.2
  have q0 := cell_later (then_ bb bc) p0
  have q1 := cell_later (then_ bb bc) p1
  have B3 := hideIt (then_ B2.out (then_ ba (then_ bb bc)))
  obtain ⟨P2, hP⟩ : ∃ P, v2.heap.size = P := ⟨_, rfl⟩
  rw [hP] at q0 q1
  rw [hP]
  clear hbd bc ba p0 p1 bb HA HBb hP
  go_wp2_with fail
  refine (chk_any q0 q1).mono ?_
  rintro e wd ⟨rfl, ewd⟩
  replace ewd := ewd.symm
  subst ewd
  clear q0 q1
  go_wp2_with fail
  refine (is_any (w := v3) (c := 3) (b := false)).mono ?_
  rintro e wa ⟨rfl, ewa⟩
  have ba : Below v3.heap.size v3 wa := by rw [ewa]; exact one_alloc _ _
  have p0 : wa.cell? ⟨v3.heap.size, 0, none⟩ = some (.int .u8 3) := by rw [ewa]; exact new_cell rfl _ _ 0
  have p1 : wa.cell? ⟨v3.heap.size, 1, none⟩ = some (.bool false) := by rw [ewa]; exact new_cell rfl _ _ 1
  clear ewa
  have HA := hideIt (And.intro ba (And.intro p0 p1))
  clear ba p0 p1
  go_wp2_with fail
  refine (rule4_any (w := wa) (m := 9) (n := 32) (V := 257) (by decide) (by decide) (by decide) (by decide) (by decide) (by decide)).mono ?_
  rintro e wb ⟨bv, rfl, hbd, bb⟩
  have HBb := hideIt (And.intro hbd bb)
  clear hbd bb
  go_wp2_with fail
  have hbd := HBb.out.1
  refine (case_any NEW (m := 9) (n := 32) (V := 257) (B := 2) (cd := 3) (hh := false) hbd (by decide) (by decide) (by decide) (by decide) (by decide) (by decide) (by decide) (by decide) (.inr (.inl ⟨by decide, by decide, rfl, rfl⟩))).mono ?_
  rintro e v4 ⟨rfl, bc⟩
  obtain ⟨ba, p0, p1⟩ := HA.out
  have bb := HBb.out.2
  have q0 := cell_later (then_ bb bc) p0
  have q1 := cell_later (then_ bb bc) p1
  have B4 := hideIt (then_ B3.out (then_ ba (then_ bb bc)))
  obtain ⟨P3, hP⟩ : ∃ P, v3.heap.size = P := ⟨_, rfl⟩
  rw [hP] at q0 q1
  rw [hP]
  clear hbd bc ba p0 p1 bb HA HBb hP
  go_wp2_with fail
  refine (chk_any q0 q1).mono ?_
  rintro e wd ⟨rfl, ewd⟩
  replace ewd := ewd.symm
  subst ewd
  clear q0 q1
  go_wp2_with fail
  refine (is_any (w := v4) (c := 2) (b := false)).mono ?_
  rintro e wa ⟨rfl, ewa⟩
  have ba : Below v4.heap.size v4 wa := by rw [ewa]; exact one_alloc _ _
  have p0 : wa.cell? ⟨v4.heap.size, 0, none⟩ = some (.int .u8 2) := by rw [ewa]; exact new_cell rfl _ _ 0
  have p1 : wa.cell? ⟨v4.heap.size, 1, none⟩ = some (.bool false) := by rw [ewa]; exact new_cell rfl _ _ 1
  clear ewa
  have HA := hideIt (And.intro ba (And.intro p0 p1))
  clear ba p0 p1
  go_wp2_with fail
  refine (rule4_any (w := wa) (m := 1) (n := 33) (V := 1) (by decide) (by decide) (by decide) (by decide) (by decide) (by decide)).mono ?_
  rintro e wb ⟨bv, rfl, hbd, bb⟩
  have HBb := hideIt (And.intro hbd bb)
  clear hbd bb
  go_wp2_with fail
  have hbd := HBb.out.1
  refine (case_any NEW (m := 1) (n := 33) (V := 1) (B := 2) (cd := 2) (hh := false) hbd (by decide) (by decide) (by decide) (by decide) (by decide) (by decide) (by decide) (by decide) (.inl ⟨by decide, rfl, rfl⟩)).mono ?_
  rintro e v5 ⟨rfl, bc⟩
  obtain ⟨ba, p0, p1⟩ := HA.out
  have bb := HBb.out.2
  have q0 := cell_later (then_ bb bc) p0
  have q1 := cell_later (then_ bb bc) p1
  have B5 := hideIt (then_ B4.out (then_ ba (then_ bb bc)))
  obtain ⟨P4, hP⟩ : ∃ P, v4.heap.size = P := ⟨_, rfl⟩
  rw [hP] at q0 q1
  rw [hP]
  clear hbd bc ba p0 p1 bb HA HBb hP
  go_wp2_with fail
  refine (chk_any q0 q1).mono ?_
  rintro e wd ⟨rfl, ewd⟩
  replace ewd := ewd.symm
  subst ewd
  clear q0 q1
  go_wp2_with fail
  refine (is_any (w := v5) (c := 0) (b := true)).mono ?_
  rintro e wa ⟨rfl, ewa⟩
  have ba : Below v5.heap.size v5 wa := by rw [ewa]; exact one_alloc _ _
  have p0 : wa.cell? ⟨v5.heap.size, 0, none⟩ = some (.int .u8 0) := by rw [ewa]; exact new_cell rfl _ _ 0
  have p1 : wa.cell? ⟨v5.heap.size, 1, none⟩ = some (.bool true) := by rw [ewa]; exact new_cell rfl _ _ 1
  clear ewa
  have HA := hideIt (And.intro ba (And.intro p0 p1))
  clear ba p0 p1
  go_wp2_with fail
  refine (rule4_any (w := wa) (m := 1) (n := 1) (V := 1) (by decide) (by decide) (by decide) (by decide) (by decide) (by decide)).mono ?_
  rintro e wb ⟨bv, rfl, hbd, bb⟩
  have HBb := hideIt (And.intro hbd bb)
  clear hbd bb
  go_wp2_with fail
  have hbd := HBb.out.1
  refine (case_any NEW (m := 1) (n := 1) (V := 1) (B := 16777216) (cd := 0) (hh := true) hbd (by decide) (by decide) (by decide) (by decide) (by decide) (by decide) (by decide) (by decide) (.inr (.inr (.inr ⟨by decide, by decide, by decide, rfl, by decide⟩)))).mono ?_
  rintro e v6 ⟨rfl, bc⟩
  obtain ⟨ba, p0, p1⟩ := HA.out
  have bb := HBb.out.2
  have q0 := cell_later (then_ bb bc) p0
  have q1 := cell_later (then_ bb bc) p1
  have B6 := hideIt (then_ B5.out (then_ ba (then_ bb bc)))
  obtain ⟨P5, hP⟩ : ∃ P, v5.heap.size = P := ⟨_, rfl⟩
  rw [hP] at q0 q1
  rw [hP]
  clear hbd bc ba p0 p1 bb HA HBb hP
  go_wp2_with fail
  refine (chk_any q0 q1).mono ?_
  rintro e wd ⟨rfl, ewd⟩
  replace ewd := ewd.symm
  subst ewd
  clear q0 q1
  go_wp2_with fail
  refine (is_any (w := v6) (c := 1) (b := false)).mono ?_
  rintro e wa ⟨rfl, ewa⟩
  have ba : Below v6.heap.size v6 wa := by rw [ewa]; exact one_alloc _ _
  have p0 : wa.cell? ⟨v6.heap.size, 0, none⟩ = some (.int .u8 1) := by rw [ewa]; exact new_cell rfl _ _ 0
  have p1 : wa.cell? ⟨v6.heap.size, 1, none⟩ = some (.bool false) := by rw [ewa]; exact new_cell rfl _ _ 1
  clear ewa
  have HA := hideIt (And.intro ba (And.intro p0 p1))
  clear ba p0 p1
  go_wp2_with fail
  refine (rule4_any (w := wa) (m := 1) (n := 1) (V := 1) (by decide) (by decide) (by decide) (by decide) (by decide) (by decide)).mono ?_
  rintro e wb ⟨bv, rfl, hbd, bb⟩
  have HBb := hideIt (And.intro hbd bb)
  clear hbd bb
  go_wp2_with fail
  have hbd := HBb.out.1
  refine (case_opt (n := 1) (B := 16777217) hbd (by decide) (by decide) (by decide)).mono ?_
  rintro e v7 ⟨rfl, bc⟩
  obtain ⟨ba, p0, p1⟩ := HA.out
  have bb := HBb.out.2
  have q0 := cell_later (then_ bb bc) p0
  have q1 := cell_later (then_ bb bc) p1
  have B7 := hideIt (then_ B6.out (then_ ba (then_ bb bc)))
  obtain ⟨P6, hP⟩ : ∃ P, v6.heap.size = P := ⟨_, rfl⟩
  rw [hP] at q0 q1
  rw [hP]
  clear hbd bc ba p0 p1 bb HA HBb hP
  go_wp2_with fail
  refine (chk_any q0 q1).mono ?_
  rintro e wd ⟨rfl, ewd⟩
  replace ewd := ewd.symm
  subst ewd
  clear q0 q1
  go_wp2_with fail
  refine (is_any (w := v7) (c := 1) (b := false)).mono ?_
  rintro e wa ⟨rfl, ewa⟩
  have ba : Below v7.heap.size v7 wa := by rw [ewa]; exact one_alloc _ _
  have p0 : wa.cell? ⟨v7.heap.size, 0, none⟩ = some (.int .u8 1) := by rw [ewa]; exact new_cell rfl _ _ 0
  have p1 : wa.cell? ⟨v7.heap.size, 1, none⟩ = some (.bool false) := by rw [ewa]; exact new_cell rfl _ _ 1
  clear ewa
  have HA := hideIt (And.intro ba (And.intro p0 p1))
  clear ba p0 p1
  go_wp2_with fail
  refine (rule4_any (w := wa) (m := 1) (n := 1) (V := 1) (by decide) (by decide) (by decide) (by decide) (by decide) (by decide)).mono ?_
  rintro e wb ⟨bv, rfl, hbd, bb⟩
  have HBb := hideIt (And.intro hbd bb)
  clear hbd bb
  go_wp2_with fail
  have hbd := HBb.out.1
  refine (case_opt (n := 1) (B := (-1)) hbd (by decide) (by decide) (by decide)).mono ?_
  rintro e v8 ⟨rfl, bc⟩
  obtain ⟨ba, p0, p1⟩ := HA.out
  have bb := HBb.out.2
  have q0 := cell_later (then_ bb bc) p0
  have q1 := cell_later (then_ bb bc) p1
  have B8 := hideIt (then_ B7.out (then_ ba (then_ bb bc)))
  obtain ⟨P7, hP⟩ : ∃ P, v7.heap.size = P := ⟨_, rfl⟩
  rw [hP] at q0 q1
  rw [hP]
  clear hbd bc ba p0 p1 bb HA HBb hP
  go_wp2_with fail
  refine (chk_any q0 q1).mono ?_
  rintro e wd ⟨rfl, ewd⟩
  replace ewd := ewd.symm
  subst ewd
  clear q0 q1
  go_wp2_with fail
  refine (is_any (w := v8) (c := 11) (b := false)).mono ?_
  rintro e wa ⟨rfl, ewa⟩
  have ba : Below v8.heap.size v8 wa := by rw [ewa]; exact one_alloc _ _
  have p0 : wa.cell? ⟨v8.heap.size, 0, none⟩ = some (.int .u8 11) := by rw [ewa]; exact new_cell rfl _ _ 0
  have p1 : wa.cell? ⟨v8.heap.size, 1, none⟩ = some (.bool false) := by rw [ewa]; exact new_cell rfl _ _ 1
  clear ewa
  have HA := hideIt (And.intro ba (And.intro p0 p1))
  clear ba p0 p1
  go_wp2_with fail
  refine (rule4_any (w := wa) (m := 1) (n := 1) (V := 1) (by decide) (by decide) (by decide) (by decide) (by decide) (by decide)).mono ?_
  rintro e wb ⟨bv, rfl, hbd, bb⟩
  have HBb := hideIt (And.intro hbd bb)
  clear hbd bb
  go_wp2_with fail
  have hbd := HBb.out.1
  refine (case_any NEW (m := 1) (n := 1) (V := 1) (B := 1) (cd := 11) (hh := false) hbd (by decide) (by decide) (by decide) (by decide) (by decide) (by decide) (by decide) (by decide) (.inr (.inr (.inr ⟨by decide, by decide, by decide, rfl, by decide⟩)))).mono ?_
  rintro e v9 ⟨rfl, bc⟩
  obtain ⟨ba, p0, p1⟩ := HA.out
  have bb := HBb.out.2
  have q0 := cell_later (then_ bb bc) p0
  have q1 := cell_later (then_ bb bc) p1
  have B9 := hideIt (then_ B8.out (then_ ba (then_ bb bc)))
  obtain ⟨P8, hP⟩ : ∃ P, v8.heap.size = P := ⟨_, rfl⟩
  rw [hP] at q0 q1
  rw [hP]
  clear hbd bc ba p0 p1 bb HA HBb hP
  go_wp2_with fail
  refine (chk_any q0 q1).mono ?_
  rintro e wd ⟨rfl, ewd⟩
  replace ewd := ewd.symm
  subst ewd
  clear q0 q1
  go_wp2_with fail
  refine (is_any (w := v9) (c := 11) (b := false)).mono ?_
  rintro e wa ⟨rfl, ewa⟩
  have ba : Below v9.heap.size v9 wa := by rw [ewa]; exact one_alloc _ _
  have p0 : wa.cell? ⟨v9.heap.size, 0, none⟩ = some (.int .u8 11) := by rw [ewa]; exact new_cell rfl _ _ 0
  have p1 : wa.cell? ⟨v9.heap.size, 1, none⟩ = some (.bool false) := by rw [ewa]; exact new_cell rfl _ _ 1
  clear ewa
  have HA := hideIt (And.intro ba (And.intro p0 p1))
  clear ba p0 p1
  go_wp2_with fail
  refine (rule4_any (w := wa) (m := 1) (n := 1) (V := 1) (by decide) (by decide) (by decide) (by decide) (by decide) (by decide)).mono ?_
  rintro e wb ⟨bv, rfl, hbd, bb⟩
  have HBb := hideIt (And.intro hbd bb)
  clear hbd bb
  go_wp2_with fail
  have hbd := HBb.out.1
  refine (case_any NEW (m := 1) (n := 1) (V := 1) (B := 0) (cd := 11) (hh := false) hbd (by decide) (by decide) (by decide) (by decide) (by decide) (by decide) (by decide) (by decide) (.inr (.inr (.inl ⟨by decide, by decide, rfl, rfl, rfl⟩)))).mono ?_
  rintro e v10 ⟨rfl, bc⟩
  obtain ⟨ba, p0, p1⟩ := HA.out
  have bb := HBb.out.2
  have q0 := cell_later (then_ bb bc) p0
  have q1 := cell_later (then_ bb bc) p1
  have B10 := hideIt (then_ B9.out (then_ ba (then_ bb bc)))
  obtain ⟨P9, hP⟩ : ∃ P, v9.heap.size = P := ⟨_, rfl⟩
  rw [hP] at q0 q1
  rw [hP]
  clear hbd bc ba p0 p1 bb HA HBb hP
  go_wp2_with fail
  refine (chk_any q0 q1).mono ?_
  rintro e wd ⟨rfl, ewd⟩
  replace ewd := ewd.symm
  subst ewd
  clear q0 q1
  go_wp2
  go_ret
  exact ⟨rfl, B10.out⟩
end Go.Proofs.Qxb6500880a
