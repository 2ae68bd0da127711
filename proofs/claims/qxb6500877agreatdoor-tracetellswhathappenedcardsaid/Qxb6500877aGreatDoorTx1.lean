import Derived.Deep.CutBlock
import Derived.OwnWalk
import Derived.Maps.AppendAt
import Derived.Test.Qxb6500877aGreatDoorTr7
import Derived.Test.Qxb6500877aGreatDoorGa
set_option linter.unusedVariables false
set_option linter.unusedSimpArgs false
namespace Go.Proofs.Qxb6500877aGreatDoor
open Go.RowKit

theorem Ev9.drew {w : World} {b o : Nat} {e : EvS} (h : Ev9 w b o e) : Ev9 w.drew b o e := h.blk rfl
theorem Ev9.s0 {w : World} {b : Nat} {e : EvS} (h : Ev9 w b 0 e) (v : Int) : Ev9 (w.setCell ⟨b, 0, none⟩ (.int .u8 v)) b 0 { e with kd := v } :=
  ⟨World.cell?_setCell_same _ _ _ (by have := h.c0; (try simp only [Nat.zero_add] at this); exact this), (World.cell?_setCell_other _ _ _ _ (by simp)).trans h.c1, (World.cell?_setCell_other _ _ _ _ (by simp)).trans h.c2, (World.cell?_setCell_other _ _ _ _ (by simp)).trans h.c3, (World.cell?_setCell_other _ _ _ _ (by simp)).trans h.c4, (World.cell?_setCell_other _ _ _ _ (by simp)).trans h.c5, (World.cell?_setCell_other _ _ _ _ (by simp)).trans h.c6, (World.cell?_setCell_other _ _ _ _ (by simp)).trans h.c7, (World.cell?_setCell_other _ _ _ _ (by simp)).trans h.c8⟩
theorem Ev9.s3 {w : World} {b : Nat} {e : EvS} (h : Ev9 w b 0 e) (v : Int) : Ev9 (w.setCell ⟨b, 3, none⟩ (.int .i64 v)) b 0 { e with tk := v } :=
  ⟨(World.cell?_setCell_other _ _ _ _ (by simp)).trans h.c0, (World.cell?_setCell_other _ _ _ _ (by simp)).trans h.c1, (World.cell?_setCell_other _ _ _ _ (by simp)).trans h.c2, World.cell?_setCell_same _ _ _ (by have := h.c3; (try simp only [Nat.zero_add] at this); exact this), (World.cell?_setCell_other _ _ _ _ (by simp)).trans h.c4, (World.cell?_setCell_other _ _ _ _ (by simp)).trans h.c5, (World.cell?_setCell_other _ _ _ _ (by simp)).trans h.c6, (World.cell?_setCell_other _ _ _ _ (by simp)).trans h.c7, (World.cell?_setCell_other _ _ _ _ (by simp)).trans h.c8⟩
theorem Ev9.s7 {w : World} {b : Nat} {e : EvS} (h : Ev9 w b 0 e) (v : Int) : Ev9 (w.setCell ⟨b, 7, none⟩ (.int .u8 v)) b 0 { e with st := v } :=
  ⟨(World.cell?_setCell_other _ _ _ _ (by simp)).trans h.c0, (World.cell?_setCell_other _ _ _ _ (by simp)).trans h.c1, (World.cell?_setCell_other _ _ _ _ (by simp)).trans h.c2, (World.cell?_setCell_other _ _ _ _ (by simp)).trans h.c3, (World.cell?_setCell_other _ _ _ _ (by simp)).trans h.c4, (World.cell?_setCell_other _ _ _ _ (by simp)).trans h.c5, (World.cell?_setCell_other _ _ _ _ (by simp)).trans h.c6, World.cell?_setCell_same _ _ _ (by have := h.c7; (try simp only [Nat.zero_add] at this); exact this), (World.cell?_setCell_other _ _ _ _ (by simp)).trans h.c8⟩
theorem Ev9.s8 {w : World} {b : Nat} {e : EvS} (h : Ev9 w b 0 e) (v : Int) : Ev9 (w.setCell ⟨b, 8, none⟩ (.int .i64 v)) b 0 { e with cd := v } :=
  ⟨(World.cell?_setCell_other _ _ _ _ (by simp)).trans h.c0, (World.cell?_setCell_other _ _ _ _ (by simp)).trans h.c1, (World.cell?_setCell_other _ _ _ _ (by simp)).trans h.c2, (World.cell?_setCell_other _ _ _ _ (by simp)).trans h.c3, (World.cell?_setCell_other _ _ _ _ (by simp)).trans h.c4, (World.cell?_setCell_other _ _ _ _ (by simp)).trans h.c5, (World.cell?_setCell_other _ _ _ _ (by simp)).trans h.c6, (World.cell?_setCell_other _ _ _ _ (by simp)).trans h.c7, World.cell?_setCell_same _ _ _ (by have := h.c8; (try simp only [Nat.zero_add] at this); exact this)⟩
set_option maxRecDepth 20000 in
set_option maxHeartbeats 4000000 in
theorem fill_117 {w : World} {p : Nat} {e : EvS} {p8 : Nat} {c : Int} (E : Ev9 w p 0 e) (fz : ∀ o, w.frozen? ⟨p, o, none⟩ = false) (h0 : w.cell? ⟨p8, 0, none⟩ = some (.int .i64 c)) (np8 : ¬ (p8 = p)) : Calls Tryz.prog 117 #[.pointer (some ⟨p, 0, none⟩), .pointer (some ⟨p8, 0, none⟩)] w fun x w' => x = .returned (.tuple #[]) ∧ Ev9 w' p 0 ⟨e.kd, e.ti, e.co, e.tk, e.tm, e.bx, e.sq, e.st, c⟩ ∧ Mut p 0 9 w w' := by
  have mp8 : ¬ (p = p8) := fun h => np8 h.symm
  have HE := hideIt E
  obtain ⟨e0, e1, e2, e3, e4, e5, e6, e7, e8⟩ := E
  simp only [Nat.zero_add] at e1 e2 e3 e4 e5 e6 e7 e8
  go_enter Tryz.func117, Tryz.ntmps117
  go_wp2
  go_end0
  exact ⟨rfl, (HE.out.s8 c), ((Mut.refl p 0 9 w).setCell (o := 8) (by omega) (by omega) _)⟩
set_option maxRecDepth 20000 in
set_option maxHeartbeats 4000000 in
theorem fill_119 {w : World} {p : Nat} {e : EvS} {p8 : Nat} {co tm : Int} (E : Ev9 w p 0 e) (fz : ∀ o, w.frozen? ⟨p, o, none⟩ = false) (h1 : w.cell? ⟨p8, 1, none⟩ = some (.int .i64 co)) (h3 : w.cell? ⟨p8, 3, none⟩ = some (.int .u64 tm)) (np8 : ¬ (p8 = p)) : Calls Tryz.prog 119 #[.pointer (some ⟨p, 0, none⟩), .pointer (some ⟨p8, 0, none⟩)] w fun x w' => x = .returned (.tuple #[]) ∧ Ev9 w' p 0 ⟨e.kd, e.ti, co, e.tk, tm, e.bx, e.sq, e.st, e.cd⟩ ∧ Mut p 0 9 w w' := by
  have mp8 : ¬ (p = p8) := fun h => np8 h.symm
  have HE := hideIt E
  obtain ⟨e0, e1, e2, e3, e4, e5, e6, e7, e8⟩ := E
  simp only [Nat.zero_add] at e1 e2 e3 e4 e5 e6 e7 e8
  go_enter Tryz.func119, Tryz.ntmps119
  go_region_held3 (fun w' => w'.cell? ⟨p8, 1, none⟩ = some (.int .i64 co) ∧ w'.cell? ⟨p8, 3, none⟩ = some (.int .u64 tm)) (first | exact ⟨h1, h3⟩ | (refine ⟨?_, ?_⟩ <;> go_simp)) (fail)
  all_goals go_end0
  all_goals exact ⟨rfl, ((HE.out.s2 co).s4 tm).drew, (((Mut.refl p 0 9 w).setCell (o := 2) (by omega) (by omega) _).setCell (o := 4) (by omega) (by omega) _).drew⟩
set_option maxRecDepth 20000 in
set_option maxHeartbeats 4000000 in
theorem fill_120 {w : World} {p : Nat} {e : EvS} {p8 p10 : Nat} {co wa_ : Int} (E : Ev9 w p 0 e) (fz : ∀ o, w.frozen? ⟨p, o, none⟩ = false) (h1 : w.cell? ⟨p8, 1, none⟩ = some (.int .i64 co)) (h2 : w.cell? ⟨p10, 0, none⟩ = some (.int .i64 wa_)) (np8 : ¬ (p8 = p)) (np10 : ¬ (p10 = p)) : Calls Tryz.prog 120 #[.pointer (some ⟨p, 0, none⟩), .pointer (some ⟨p8, 0, none⟩), .pointer (some ⟨p10, 0, none⟩)] w fun x w' => x = .returned (.tuple #[]) ∧ Ev9 w' p 0 ⟨e.kd, e.ti, co, wa_, e.tm, e.bx, e.sq, e.st, e.cd⟩ ∧ Mut p 0 9 w w' := by
  have mp8 : ¬ (p = p8) := fun h => np8 h.symm
  have mp10 : ¬ (p = p10) := fun h => np10 h.symm
  have HE := hideIt E
  obtain ⟨e0, e1, e2, e3, e4, e5, e6, e7, e8⟩ := E
  simp only [Nat.zero_add] at e1 e2 e3 e4 e5 e6 e7 e8
  go_enter Tryz.func120, Tryz.ntmps120
  go_region_held3 (fun w' => w'.cell? ⟨p8, 1, none⟩ = some (.int .i64 co) ∧ w'.cell? ⟨p10, 0, none⟩ = some (.int .i64 wa_)) (first | exact ⟨h1, h2⟩ | (refine ⟨?_, ?_⟩ <;> go_simp)) (fail)
  all_goals go_end0
  all_goals exact ⟨rfl, ((HE.out.s2 co).s3 wa_).drew, (((Mut.refl p 0 9 w).setCell (o := 2) (by omega) (by omega) _).setCell (o := 3) (by omega) (by omega) _).drew⟩
set_option maxRecDepth 20000 in
set_option maxHeartbeats 4000000 in
theorem fill_121 {w : World} {p : Nat} {e : EvS} {p8 : Nat} {co tk : Int} (E : Ev9 w p 0 e) (fz : ∀ o, w.frozen? ⟨p, o, none⟩ = false) (h1 : w.cell? ⟨p8, 1, none⟩ = some (.int .i64 co)) (h2 : w.cell? ⟨p8, 2, none⟩ = some (.int .i64 tk)) (np8 : ¬ (p8 = p)) : Calls Tryz.prog 121 #[.pointer (some ⟨p, 0, none⟩), .pointer (some ⟨p8, 0, none⟩)] w fun x w' => x = .returned (.tuple #[]) ∧ Ev9 w' p 0 ⟨e.kd, e.ti, co, tk, e.tm, e.bx, e.sq, e.st, e.cd⟩ ∧ Mut p 0 9 w w' := by
  have mp8 : ¬ (p = p8) := fun h => np8 h.symm
  have HE := hideIt E
  obtain ⟨e0, e1, e2, e3, e4, e5, e6, e7, e8⟩ := E
  simp only [Nat.zero_add] at e1 e2 e3 e4 e5 e6 e7 e8
  go_enter Tryz.func121, Tryz.ntmps121
  go_region_held3 (fun w' => w'.cell? ⟨p8, 1, none⟩ = some (.int .i64 co) ∧ w'.cell? ⟨p8, 2, none⟩ = some (.int .i64 tk)) (first | exact ⟨h1, h2⟩ | (refine ⟨?_, ?_⟩ <;> go_simp)) (fail)
  all_goals go_end0
  all_goals exact ⟨rfl, ((HE.out.s2 co).s3 tk).drew, (((Mut.refl p 0 9 w).setCell (o := 2) (by omega) (by omega) _).setCell (o := 3) (by omega) (by omega) _).drew⟩
set_option maxRecDepth 20000 in
set_option maxHeartbeats 4000000 in
theorem fill_122 {w : World} {p : Nat} {e : EvS} {p8 : Nat} {mf mt mq : Int} (E : Ev9 w p 0 e) (fz : ∀ o, w.frozen? ⟨p, o, none⟩ = false) (h1 : w.cell? ⟨p8, 5, none⟩ = some (.int .i64 mf)) (h2 : w.cell? ⟨p8, 6, none⟩ = some (.int .i64 mt)) (h3 : w.cell? ⟨p8, 8, none⟩ = some (.int .u64 mq)) (np8 : ¬ (p8 = p)) : Calls Tryz.prog 122 #[.pointer (some ⟨p, 0, none⟩), .pointer (some ⟨p8, 0, none⟩)] w fun x w' => x = .returned (.tuple #[]) ∧ Ev9 w' p 0 ⟨e.kd, e.ti, mt, e.tk, e.tm, (boxF mf mt), mq, e.st, e.cd⟩ ∧ Mut p 0 9 w w' := by
  have mp8 : ¬ (p = p8) := fun h => np8 h.symm
  have HE := hideIt E
  obtain ⟨e0, e1, e2, e3, e4, e5, e6, e7, e8⟩ := E
  simp only [Nat.zero_add] at e1 e2 e3 e4 e5 e6 e7 e8
  go_enter Tryz.func122, Tryz.ntmps122
  go_region_held3 (fun w' => w'.cell? ⟨p8, 5, none⟩ = some (.int .i64 mf) ∧ w'.cell? ⟨p8, 6, none⟩ = some (.int .i64 mt) ∧ w'.cell? ⟨p8, 8, none⟩ = some (.int .u64 mq)) (first | exact ⟨h1, h2, h3⟩ | (refine ⟨?_, ?_, ?_⟩ <;> go_simp)) (first | (go_at_call 96; refine (box_int mf mt _).mono ?_; rintro e w1 ⟨rfl, rfl⟩))
  all_goals go_end0
  all_goals exact ⟨rfl, (((HE.out.s2 mt).s5 (boxF mf mt)).s6 mq).drew, ((((Mut.refl p 0 9 w).setCell (o := 2) (by omega) (by omega) _).setCell (o := 5) (by omega) (by omega) _).setCell (o := 6) (by omega) (by omega) _).drew⟩
set_option maxRecDepth 20000 in
set_option maxHeartbeats 4000000 in
theorem fill_123 {w : World} {p : Nat} {e : EvS}  (E : Ev9 w p 0 e) (fz : ∀ o, w.frozen? ⟨p, o, none⟩ = false) : Calls Tryz.prog 123 #[.pointer (some ⟨p, 0, none⟩)] w fun x w' => x = .returned (.tuple #[]) ∧ Ev9 w' p 0 ⟨e.kd, e.ti, e.co, e.tk, e.tm, e.bx, e.sq, e.st, e.cd⟩ ∧ Mut p 0 9 w w' := by
  go_enter Tryz.func123, Tryz.ntmps123
  first | go_end0 | (go_wp2; go_end0)
  exact ⟨rfl, E, Mut.refl _ _ _ _⟩
set_option maxRecDepth 20000 in
set_option maxHeartbeats 4000000 in
theorem fill_124 {w : World} {p : Nat} {e : EvS} {p20 : Nat} {id co ti : Int} (E : Ev9 w p 0 e) (fz : ∀ o, w.frozen? ⟨p, o, none⟩ = false) (h1 : w.cell? ⟨p20, 0, none⟩ = some (.int .u64 id)) (h2 : w.cell? ⟨p20, 1, none⟩ = some (.int .i64 co)) (h3 : w.cell? ⟨p20, 4, none⟩ = some (.int .u64 ti)) (np20 : ¬ (p20 = p)) : Calls Tryz.prog 124 #[.pointer (some ⟨p, 0, none⟩), .pointer (some ⟨p20, 0, none⟩)] w fun x w' => x = .returned (.tuple #[]) ∧ Ev9 w' p 0 ⟨e.kd, ti, co, e.tk, id, e.bx, e.sq, e.st, e.cd⟩ ∧ Mut p 0 9 w w' := by
  have mp20 : ¬ (p = p20) := fun h => np20 h.symm
  have HE := hideIt E
  obtain ⟨e0, e1, e2, e3, e4, e5, e6, e7, e8⟩ := E
  simp only [Nat.zero_add] at e1 e2 e3 e4 e5 e6 e7 e8
  go_enter Tryz.func124, Tryz.ntmps124
  go_region_held3 (fun w' => w'.cell? ⟨p20, 0, none⟩ = some (.int .u64 id) ∧ w'.cell? ⟨p20, 1, none⟩ = some (.int .i64 co) ∧ w'.cell? ⟨p20, 4, none⟩ = some (.int .u64 ti)) (first | exact ⟨h1, h2, h3⟩ | (refine ⟨?_, ?_, ?_⟩ <;> go_simp)) (fail)
  all_goals go_end0
  all_goals exact ⟨rfl, (((HE.out.s1 ti).s2 co).s4 id).drew, ((((Mut.refl p 0 9 w).setCell (o := 1) (by omega) (by omega) _).setCell (o := 2) (by omega) (by omega) _).setCell (o := 4) (by omega) (by omega) _).drew⟩
set_option maxRecDepth 20000 in
set_option maxHeartbeats 4000000 in
theorem fill_125 {w : World} {p : Nat} {e : EvS} {p22 p13 sb so b : Nat} {a : Int} (E : Ev9 w p 0 e) (fz : ∀ o, w.frozen? ⟨p, o, none⟩ = false) (h1 : w.cell? ⟨p22, 0, none⟩ = some (.int .i64 (b : Int))) (h2 : w.cell? ⟨p13, 0, none⟩ = some (.pointer (some ⟨sb, so, none⟩))) (h3 : w.cell? ⟨sb, so + b, none⟩ = some (.int .u64 a)) (np22 : ¬ (p22 = p)) (np13 : ¬ (p13 = p)) (nsb : ¬ (sb = p)) (hb16 : b < 16) : Calls Tryz.prog 125 #[.pointer (some ⟨p, 0, none⟩), .pointer (some ⟨p22, 0, none⟩), .pointer (some ⟨p13, 0, none⟩)] w fun x w' => x = .returned (.tuple #[]) ∧ Ev9 w' p 0 ⟨e.kd, e.ti, ((b / 4 : Nat) : Int), e.tk, e.tm, (b : Int), (IntKind.u64.wrap (a + 1)), e.st, e.cd⟩ ∧ Mut p 0 9 w w' := by
  have mp22 : ¬ (p = p22) := fun h => np22 h.symm
  have mp13 : ¬ (p = p13) := fun h => np13 h.symm
  have msb : ¬ (p = sb) := fun h => nsb h.symm
  have i0 : (0 : Int) ≤ b := by omega
  have i1 : (b : Int) < 16 := by omega
  have HE := hideIt E
  obtain ⟨e0, e1, e2, e3, e4, e5, e6, e7, e8⟩ := E
  simp only [Nat.zero_add] at e1 e2 e3 e4 e5 e6 e7 e8
  go_enter Tryz.func125, Tryz.ntmps125
  go_region_held3 (fun w' => w'.cell? ⟨p22, 0, none⟩ = some (.int .i64 (b : Int)) ∧ w'.cell? ⟨p13, 0, none⟩ = some (.pointer (some ⟨sb, so, none⟩)) ∧ w'.cell? ⟨sb, so + b, none⟩ = some (.int .u64 a)) (first | exact ⟨h1, h2, h3⟩ | (refine ⟨?_, ?_, ?_⟩ <;> go_simp)) (first | (go_at_call 30; refine (from_any hb16).mono ?_; rintro e w1 ⟨rfl, rfl⟩))
  all_goals go_end0
  all_goals exact ⟨rfl, (((HE.out.s2 ((b / 4 : Nat) : Int)).s5 (b : Int)).s6 (IntKind.u64.wrap (a + 1))).drew, ((((Mut.refl p 0 9 w).setCell (o := 2) (by omega) (by omega) _).setCell (o := 5) (by omega) (by omega) _).setCell (o := 6) (by omega) (by omega) _).drew⟩
set_option maxRecDepth 20000 in
set_option maxHeartbeats 4000000 in
theorem fill_126 {w : World} {p : Nat} {e : EvS} {p8 p12 : Nat} {co tk st : Int} (E : Ev9 w p 0 e) (fz : ∀ o, w.frozen? ⟨p, o, none⟩ = false) (h1 : w.cell? ⟨p8, 1, none⟩ = some (.int .i64 co)) (h2 : w.cell? ⟨p8, 2, none⟩ = some (.int .i64 tk)) (h3 : w.cell? ⟨p12, 0, none⟩ = some (.int .u8 st)) (np8 : ¬ (p8 = p)) (np12 : ¬ (p12 = p)) : Calls Tryz.prog 126 #[.pointer (some ⟨p, 0, none⟩), .pointer (some ⟨p8, 0, none⟩), .pointer (some ⟨p12, 0, none⟩)] w fun x w' => x = .returned (.tuple #[]) ∧ Ev9 w' p 0 ⟨e.kd, e.ti, co, tk, e.tm, e.bx, e.sq, st, e.cd⟩ ∧ Mut p 0 9 w w' := by
  have mp8 : ¬ (p = p8) := fun h => np8 h.symm
  have mp12 : ¬ (p = p12) := fun h => np12 h.symm
  have HE := hideIt E
  obtain ⟨e0, e1, e2, e3, e4, e5, e6, e7, e8⟩ := E
  simp only [Nat.zero_add] at e1 e2 e3 e4 e5 e6 e7 e8
  go_enter Tryz.func126, Tryz.ntmps126
  go_region_held3 (fun w' => w'.cell? ⟨p8, 1, none⟩ = some (.int .i64 co) ∧ w'.cell? ⟨p8, 2, none⟩ = some (.int .i64 tk) ∧ w'.cell? ⟨p12, 0, none⟩ = some (.int .u8 st)) (first | exact ⟨h1, h2, h3⟩ | (refine ⟨?_, ?_, ?_⟩ <;> go_simp)) (fail)
  all_goals go_end0
  all_goals exact ⟨rfl, (((HE.out.s2 co).s3 tk).s7 st).drew, ((((Mut.refl p 0 9 w).setCell (o := 2) (by omega) (by omega) _).setCell (o := 3) (by omega) (by omega) _).setCell (o := 7) (by omega) (by omega) _).drew⟩
end Go.Proofs.Qxb6500877aGreatDoor
