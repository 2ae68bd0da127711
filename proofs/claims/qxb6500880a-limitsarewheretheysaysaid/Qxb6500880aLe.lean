import Derived.Deep.CutBlock
import Derived.OwnWalk
import Derived.Maps.AppendAt
import Derived.Maps.OwnSet
import Derived.Maps.OwnOps
import Derived.Laws.ResultCell
import Derived.Test.Qxb6500880aLd
import Derived.Test.Qxb6500880aNz
set_option linter.unusedVariables false
set_option linter.unusedSimpArgs false
namespace Go.Proofs.Qxb6500880a
open Go.RowKit

/-- How New ends: with the code cd, or with an engine that will end with cd and hh. -/
def NewRes (e : Ending) (w w' : World) (cd : Int) (hh : Bool) : Prop := Below w.heap.size w w' ∧ ((hh = false ∧ ∃ a b, e = .returned (.tuple #[.pointer none, .agg #[.int .u8 cd, .int .i64 a, .int .i64 b]])) ∨ ∃ B : Nat, NewOk w w' B e ∧ codeV B = cd ∧ decide (2 ≤ B) = hh)
theorem field45 (cd : Int) (w : World) : (Instr.field 45 (.agg #[.int .u8 cd, .int .i64 0, .int .i64 0]) 0).run Try.prog w = .ok (.int .u8 cd) w := by kernel_rfl
set_option maxRecDepth 20000 in
set_option maxHeartbeats 8000000 in
theorem outcome_any {w : World} {m n V : Nat} {B cd : Int} {hh : Bool} {bv : Value} (hb : BodyAt w bv m n V) (hn0 : 0 < n) (hn : n ≤ 100) (hnew : ∀ (w2 : World) (gp gu gd : Nat) (av : Value), NewIn w2 gp gu gd m n V bv av → Calls Try.prog 6 #[.agg #[.slice (some ⟨gp, 0, none⟩) 2 2, .slice (some ⟨gu, 0, none⟩) 1 1, .int .i64 1], .slice (some ⟨gd, 0, none⟩) 1 1, .agg #[.int .i64 B, .int .u8 0, .int .u64 0, .bool false]] w2 fun e w' => NewRes e w2 w' cd hh) :
    Calls Try.prog 5 #[.agg #[.string (nmS false), .slice none 0 0, bv], .int .i64 (n : Int), .int .i64 B] w fun e w' => e = .returned (.tuple #[.int .u8 cd, .bool hh]) ∧ Below w.heap.size w w' := by
  obtain ⟨i34, hi34, hq0, hq1, hq2⟩ := info_parts info34
  obtain ⟨bp, bc, ebv, hbc, _⟩ : ∃ p c, bv = .slice p m c ∧ m ≤ c ∧ True := by obtain ⟨p, c, e, h, _⟩ := hb; exact ⟨p, c, e, h, trivial⟩
  subst ebv
  have HQ := hideIt (And.intro hb hnew)
  clear hb hnew
  go_enter Try.func5, Try.ntmps5
  have b1 := one_alloc w (.cells #[.string (nmS false), .slice none 0 0, .slice bp m bc] 27)
  have b2 := one_alloc (w.alloc (.cells #[.string (nmS false), .slice none 0 0, .slice bp m bc] 27)) (.cells #[.string (nmS false), .int .i64 0, .int .i64 0, .string (nmS true), .int .i64 (n : Int), .int .i64 0] 38)
  have b3 := one_alloc ((w.alloc (.cells #[.string (nmS false), .slice none 0 0, .slice bp m bc] 27)).alloc (.cells #[.string (nmS false), .int .i64 0, .int .i64 0, .string (nmS true), .int .i64 (n : Int), .int .i64 0] 38)) (.cells #[.string (nmS false), .slice none 0 0, .slice bp m bc] 27)
  have b4 := one_alloc (((w.alloc (.cells #[.string (nmS false), .slice none 0 0, .slice bp m bc] 27)).alloc (.cells #[.string (nmS false), .int .i64 0, .int .i64 0, .string (nmS true), .int .i64 (n : Int), .int .i64 0] 38)).alloc (.cells #[.string (nmS false), .slice none 0 0, .slice bp m bc] 27)) (.cells #[.slice (some ⟨w.heap.size + 1, 0, none⟩) 2 2, .slice (some ⟨w.heap.size + 1 + 1, 0, none⟩) 1 1, .int .i64 1] 42)
  have b5 := one_alloc ((((w.alloc (.cells #[.string (nmS false), .slice none 0 0, .slice bp m bc] 27)).alloc (.cells #[.string (nmS false), .int .i64 0, .int .i64 0, .string (nmS true), .int .i64 (n : Int), .int .i64 0] 38)).alloc (.cells #[.string (nmS false), .slice none 0 0, .slice bp m bc] 27)).alloc (.cells #[.slice (some ⟨w.heap.size + 1, 0, none⟩) 2 2, .slice (some ⟨w.heap.size + 1 + 1, 0, none⟩) 1 1, .int .i64 1] 42)) (.cells #[.string (nmS true), .slice none 0 0] 24)
  have s1 : (w.alloc (.cells #[.string (nmS false), .slice none 0 0, .slice bp m bc] 27)).heap.size = w.heap.size + 1 := by simp
  have s2 : ((w.alloc (.cells #[.string (nmS false), .slice none 0 0, .slice bp m bc] 27)).alloc (.cells #[.string (nmS false), .int .i64 0, .int .i64 0, .string (nmS true), .int .i64 (n : Int), .int .i64 0] 38)).heap.size = w.heap.size + 1 + 1 := by simp
  have s3 : (((w.alloc (.cells #[.string (nmS false), .slice none 0 0, .slice bp m bc] 27)).alloc (.cells #[.string (nmS false), .int .i64 0, .int .i64 0, .string (nmS true), .int .i64 (n : Int), .int .i64 0] 38)).alloc (.cells #[.string (nmS false), .slice none 0 0, .slice bp m bc] 27)).heap.size = w.heap.size + 1 + 1 + 1 := by simp
  have s4 : ((((w.alloc (.cells #[.string (nmS false), .slice none 0 0, .slice bp m bc] 27)).alloc (.cells #[.string (nmS false), .int .i64 0, .int .i64 0, .string (nmS true), .int .i64 (n : Int), .int .i64 0] 38)).alloc (.cells #[.string (nmS false), .slice none 0 0, .slice bp m bc] 27)).alloc (.cells #[.slice (some ⟨w.heap.size + 1, 0, none⟩) 2 2, .slice (some ⟨w.heap.size + 1 + 1, 0, none⟩) 1 1, .int .i64 1] 42)).heap.size = w.heap.size + 1 + 1 + 1 + 1 := by simp
  have s5 : (((((w.alloc (.cells #[.string (nmS false), .slice none 0 0, .slice bp m bc] 27)).alloc (.cells #[.string (nmS false), .int .i64 0, .int .i64 0, .string (nmS true), .int .i64 (n : Int), .int .i64 0] 38)).alloc (.cells #[.string (nmS false), .slice none 0 0, .slice bp m bc] 27)).alloc (.cells #[.slice (some ⟨w.heap.size + 1, 0, none⟩) 2 2, .slice (some ⟨w.heap.size + 1 + 1, 0, none⟩) 1 1, .int .i64 1] 42)).alloc (.cells #[.string (nmS true), .slice none 0 0] 24)).heap.size = w.heap.size + 1 + 1 + 1 + 1 + 1 := by simp
  have b05 := then_ (then_ (then_ (then_ b1 b2) b3) b4) b5
  have P38 : ∀ i, i < 6 → (((((w.alloc (.cells #[.string (nmS false), .slice none 0 0, .slice bp m bc] 27)).alloc (.cells #[.string (nmS false), .int .i64 0, .int .i64 0, .string (nmS true), .int .i64 (n : Int), .int .i64 0] 38)).alloc (.cells #[.string (nmS false), .slice none 0 0, .slice bp m bc] 27)).alloc (.cells #[.slice (some ⟨w.heap.size + 1, 0, none⟩) 2 2, .slice (some ⟨w.heap.size + 1 + 1, 0, none⟩) 1 1, .int .i64 1] 42)).alloc (.cells #[.string (nmS true), .slice none 0 0] 24)).cell? ⟨w.heap.size + 1, i, none⟩ = (#[.string (nmS false), .int .i64 0, .int .i64 0, .string (nmS true), .int .i64 (n : Int), .int .i64 0] : Array Value)[i]? := fun i hi => (World.cell?_of_block (a := ⟨w.heap.size + 1, i, none⟩) ((then_ (then_ b3 b4) b5).block (w.heap.size + 1) (by omega))).trans (new_cell s1.symm _ _ _)
  have P27 : ∀ i, i < 3 → (((((w.alloc (.cells #[.string (nmS false), .slice none 0 0, .slice bp m bc] 27)).alloc (.cells #[.string (nmS false), .int .i64 0, .int .i64 0, .string (nmS true), .int .i64 (n : Int), .int .i64 0] 38)).alloc (.cells #[.string (nmS false), .slice none 0 0, .slice bp m bc] 27)).alloc (.cells #[.slice (some ⟨w.heap.size + 1, 0, none⟩) 2 2, .slice (some ⟨w.heap.size + 1 + 1, 0, none⟩) 1 1, .int .i64 1] 42)).alloc (.cells #[.string (nmS true), .slice none 0 0] 24)).cell? ⟨w.heap.size + 1 + 1, i, none⟩ = (#[.string (nmS false), .slice none 0 0, .slice bp m bc] : Array Value)[i]? := fun i hi => (World.cell?_of_block (a := ⟨w.heap.size + 1 + 1, i, none⟩) ((then_ b4 b5).block (w.heap.size + 1 + 1) (by omega))).trans (new_cell s2.symm _ _ _)
  have P42 : ∀ i, i < 3 → (((((w.alloc (.cells #[.string (nmS false), .slice none 0 0, .slice bp m bc] 27)).alloc (.cells #[.string (nmS false), .int .i64 0, .int .i64 0, .string (nmS true), .int .i64 (n : Int), .int .i64 0] 38)).alloc (.cells #[.string (nmS false), .slice none 0 0, .slice bp m bc] 27)).alloc (.cells #[.slice (some ⟨w.heap.size + 1, 0, none⟩) 2 2, .slice (some ⟨w.heap.size + 1 + 1, 0, none⟩) 1 1, .int .i64 1] 42)).alloc (.cells #[.string (nmS true), .slice none 0 0] 24)).cell? ⟨w.heap.size + 1 + 1 + 1, i, none⟩ = (#[.slice (some ⟨w.heap.size + 1, 0, none⟩) 2 2, .slice (some ⟨w.heap.size + 1 + 1, 0, none⟩) 1 1, .int .i64 1] : Array Value)[i]? := fun i hi => (World.cell?_of_block (a := ⟨w.heap.size + 1 + 1 + 1, i, none⟩) (b5.block (w.heap.size + 1 + 1 + 1) (by omega))).trans (new_cell s3.symm _ _ _)
  have T0 : (((((w.alloc (.cells #[.string (nmS false), .slice none 0 0, .slice bp m bc] 27)).alloc (.cells #[.string (nmS false), .int .i64 0, .int .i64 0, .string (nmS true), .int .i64 (n : Int), .int .i64 0] 38)).alloc (.cells #[.string (nmS false), .slice none 0 0, .slice bp m bc] 27)).alloc (.cells #[.slice (some ⟨w.heap.size + 1, 0, none⟩) 2 2, .slice (some ⟨w.heap.size + 1 + 1, 0, none⟩) 1 1, .int .i64 1] 42)).alloc (.cells #[.string (nmS true), .slice none 0 0] 24)).cell? ⟨w.heap.size + 1 + 1 + 1 + 1, 0, none⟩ = some (.string (nmS true)) := new_cell s4.symm _ _ 0
  have T1 : (((((w.alloc (.cells #[.string (nmS false), .slice none 0 0, .slice bp m bc] 27)).alloc (.cells #[.string (nmS false), .int .i64 0, .int .i64 0, .string (nmS true), .int .i64 (n : Int), .int .i64 0] 38)).alloc (.cells #[.string (nmS false), .slice none 0 0, .slice bp m bc] 27)).alloc (.cells #[.slice (some ⟨w.heap.size + 1, 0, none⟩) 2 2, .slice (some ⟨w.heap.size + 1 + 1, 0, none⟩) 1 1, .int .i64 1] 42)).alloc (.cells #[.string (nmS true), .slice none 0 0] 24)).cell? ⟨w.heap.size + 1 + 1 + 1 + 1, 1, none⟩ = some (.slice none 0 0) := new_cell s4.symm _ _ 1
  have Tf : ∀ o, (((((w.alloc (.cells #[.string (nmS false), .slice none 0 0, .slice bp m bc] 27)).alloc (.cells #[.string (nmS false), .int .i64 0, .int .i64 0, .string (nmS true), .int .i64 (n : Int), .int .i64 0] 38)).alloc (.cells #[.string (nmS false), .slice none 0 0, .slice bp m bc] 27)).alloc (.cells #[.slice (some ⟨w.heap.size + 1, 0, none⟩) 2 2, .slice (some ⟨w.heap.size + 1 + 1, 0, none⟩) 1 1, .int .i64 1] 42)).alloc (.cells #[.string (nmS true), .slice none 0 0] 24)).frozen? ⟨w.heap.size + 1 + 1 + 1 + 1, o, none⟩ = false := fun o => new_frz s4.symm _ _ _
  have H5 := hideIt (And.intro b05 (And.intro P38 (And.intro P27 (And.intro P42 (And.intro T0 (And.intro T1 (And.intro Tf s5)))))))
  clear b1 b2 b3 b4 b5 s1 s2 s3 s4 s5 b05 P38 P27 P42 T0 T1 Tf
  go_upto_region 3 with fail
  have ew : (((((w.alloc (.cells #[.string (nmS false), .slice none 0 0, .slice bp m bc] 27)).alloc (.cells #[.string { data := #[104] }, .int .i64 0, .int .i64 0, .string { data := #[112] }, .int .i64 (n : Int), .int .i64 0] 38)).alloc (.cells #[.string (nmS false), .slice none 0 0, .slice bp m bc] 27)).alloc (.cells #[.slice (some ⟨w.heap.size + 1, 0, none⟩) 2 2, .slice (some ⟨w.heap.size + 1 + 1, 0, none⟩) 1 1, .int .i64 1] 42)).alloc (.cells #[.string { data := #[112] }, .slice none 0 0] 24)) = (((((w.alloc (.cells #[.string (nmS false), .slice none 0 0, .slice bp m bc] 27)).alloc (.cells #[.string (nmS false), .int .i64 0, .int .i64 0, .string (nmS true), .int .i64 (n : Int), .int .i64 0] 38)).alloc (.cells #[.string (nmS false), .slice none 0 0, .slice bp m bc] 27)).alloc (.cells #[.slice (some ⟨w.heap.size + 1, 0, none⟩) 2 2, .slice (some ⟨w.heap.size + 1 + 1, 0, none⟩) 1 1, .int .i64 1] 42)).alloc (.cells #[.string (nmS true), .slice none 0 0] 24)) := rfl
  rw [ew]
  clear ew
  generalize (((((w.alloc (.cells #[.string (nmS false), .slice none 0 0, .slice bp m bc] 27)).alloc (.cells #[.string (nmS false), .int .i64 0, .int .i64 0, .string (nmS true), .int .i64 (n : Int), .int .i64 0] 38)).alloc (.cells #[.string (nmS false), .slice none 0 0, .slice bp m bc] 27)).alloc (.cells #[.slice (some ⟨w.heap.size + 1, 0, none⟩) 2 2, .slice (some ⟨w.heap.size + 1 + 1, 0, none⟩) 1 1, .int .i64 1] 42)).alloc (.cells #[.string (nmS true), .slice none 0 0] 24)) = w5 at *
  obtain ⟨S, hS⟩ : ∃ S, w.heap.size = S := ⟨_, rfl⟩
  rw [hS] at H5
  rw [hS]
  have HS := hideIt hS
  clear hS
  obtain ⟨GP, hGP⟩ : ∃ GP, S + 1 = GP := ⟨_, rfl⟩
  rw [hGP] at H5
  rw [hGP]
  obtain ⟨GU, hGU⟩ : ∃ GU, GP + 1 = GU := ⟨_, rfl⟩
  rw [hGU] at H5
  rw [hGU]
  obtain ⟨N4, hN4⟩ : ∃ N4, GU + 1 = N4 := ⟨_, rfl⟩
  rw [hN4] at H5
  rw [hN4]
  obtain ⟨AT, hAT⟩ : ∃ AT, N4 + 1 = AT := ⟨_, rfl⟩
  rw [hAT] at H5
  rw [hAT]
  have HN := hideIt (And.intro hGP (And.intro hGU (And.intro hN4 hAT)))
  clear hGP hGU hN4 hAT
  go_wp2_with fail
  go_loopg [21] n (fun gg v wr => ∃ t : Nat, t + gg = n ∧ v = .int .i64 (t : Int) ∧ ∃ av, wr.ownsRow (AT + 1) 34 4 av t (oneL t) ∧ wr.cell? ⟨AT, 0, none⟩ = some (.string (nmS true)) ∧ wr.cell? ⟨AT, 1, none⟩ = some av ∧ (∀ o, wr.frozen? ⟨AT, o, none⟩ = false) ∧ Ws (fun q => q = AT) w5 wr)
  case atStart =>
    obtain ⟨b05, P38, P27, P42, T0, T1, Tf, s5⟩ := H5.out
    exact ⟨0, by omega, rfl, _, own_nil _ _ _ _, T0, T1, Tf, Ws.refl _ _⟩
  case round =>
  obtain ⟨t, ht, rfl, av, own, T0, T1, Tf, W⟩ := hrel
  have hATl : AT < wr.heap.size := World.block_lt_of_cell? _ _ T0
  by_cases htn : t < n
  · have t1 : (t : Int) < (n : Int) := by omega
    obtain ⟨pa, ca, rfl⟩ := own_shape own
    have HO := hideIt own
    have bN := one_alloc wr (.cells #[.int .u8 1, .int .i64 0, .int .i64 1, .string ByteArray.empty] 34)
    have HW := hideIt (And.intro T0 (And.intro W bN))
    clear own W bN T0
    go_wp2_with (first | (at_builtin; refine wpList_append_own_at _ rfl (.tmp 24) (.tmp 26) 22 rfl (AT + 1) 34 i34 (.agg #[.int .u8 0, .int .i64 0, .int .i64 0, .string ByteArray.empty]) 4 40 Try.underlying22 hi34 hq0 hq1 hq2 rfl (by decide) (.slice pa t ca) t (oneL t) rfl (HO.out.alloc _) ⟨wr.heap.size, 0, none⟩ 1 1 [.int .u8 1, .int .i64 0, .int .i64 1, .string ByteArray.empty] rfl rfl (cell_new_4 _ _ _ _ _ _) (by simp [Value.oneCell']) (by unfold maxLen; omega) (by omega) (by simp <;> omega) ?_) | go_in)
    intro v' w7 hown' hgrow hiff hblk
    replace hgrow : (wr.alloc (.cells #[.int .u8 1, .int .i64 0, .int .i64 1, .string ByteArray.empty] 34)).grownBy w7 (Value.slice pa t ca).ownBlock := hgrow
    obtain ⟨p', c', rfl⟩ := own_shape hown'
    obtain ⟨T0, W, bN⟩ := HW.out
    have hsN := bN.size
    have hsG := hgrow.size
    have k7 : ∀ q, q < wr.heap.size → q < AT + 1 → w7.heap[q]? = wr.heap[q]? := fun q h1 h2 => (hgrow.block q (by omega) (fun e => by have := (HO.out.lt q e.symm).1; omega)).trans (bN.block q h1)
    have T07 := (World.cell?_of_block (a := ⟨AT, 0, none⟩) (k7 AT hATl (by omega))).trans T0
    have T17 := (World.cell?_of_block (a := ⟨AT, 1, none⟩) (k7 AT hATl (by omega))).trans T1
    have Tf7 : ∀ o, w7.frozen? ⟨AT, o, none⟩ = false := fun o => (World.frozen?_of_block (a := ⟨AT, o, none⟩) (k7 AT hATl (by omega))).trans (Tf o)
    obtain ⟨b05, P38, P27, P42, _, _, _, s5⟩ := H5.out
    obtain ⟨hGP, hGU, hN4, hAT⟩ := HN.out
    have W7 : Ws (fun q => q = AT) w5 w7 := ⟨hgrow.os.trans (bN.os.trans W.os), hgrow.tape.trans (bN.tape.trans W.tape), hgrow.output.trans (bN.output.trans W.output), by have := W.size; omega, fun q h1 h2 => (k7 q (by have := W.size; omega) (by omega)).trans (W.block q h1 h2)⟩
    have H7 := hideIt (And.intro hown' (And.intro T07 W7))
    clear hown' hgrow hiff hblk T0 W bN k7 T07 b05 P38 P27 P42 s5 hGP hGU hN4 hAT W7 T1 Tf
    go_wp2
    go_roundg (n - (t + 1))
    case measure => omega
    case rel =>
      obtain ⟨hown', T07, W7⟩ := H7.out
      exact ⟨t + 1, by omega, by go_num, .slice p' (t + 1) c', own_one hown' (fun q hq => far_set (fun e => by have := (hown'.lt q hq).1; omega)), (World.cell?_setCell_other _ _ _ _ (by simp)).trans T07, World.cell?_setCell_same _ _ _ T17, fun o => (World.frozen?_setCell _ _ _ _).trans (Tf7 o), W7.set (.inl rfl)⟩
  have htn' : t = n := by omega
  have t1 : ¬ ((t : Int) < (n : Int)) := by omega
  subst htn'
  obtain ⟨b05, P38, P27, P42, _, _, _, s5⟩ := H5.out
  obtain ⟨hGP, hGU, hN4, hAT⟩ := HN.out
  obtain ⟨hb, hnew⟩ := HQ.out
  have hSS := HS.out
  obtain ⟨pa, ca, rfl⟩ := own_shape own
  have kx : ∀ q, q < AT → wr.heap[q]? = w5.heap[q]? := fun q hq => W.block q (by omega) (by omega)
  have b0r : Below S w wr := ⟨W.os.trans b05.os, W.tape.trans b05.tape, W.output.trans b05.output, by have := b05.size; have := W.size; omega, fun q hq => (kx q (by omega)).trans (b05.block q (by omega))⟩
  have c42 : ∀ i, i < 3 → wr.cell? ⟨N4, i, none⟩ = _ := fun i hi => (World.cell?_of_block (a := ⟨N4, i, none⟩) (kx N4 (by omega))).trans (P42 i hi)
  have n0 := c42 0 (by omega)
  have n1 := c42 1 (by omega)
  have n2 := c42 2 (by omega)
  have bD := one_alloc wr (.cells #[.string (nmS true), .slice pa t ca] 24)
  have IN : NewIn (wr.alloc (.cells #[.string (nmS true), .slice pa t ca] 24)) GP GU wr.heap.size m t V (.slice bp m bc) (.slice pa t ca) := by
    have p38 : ∀ i, i < 6 → (wr.alloc (.cells #[.string (nmS true), .slice pa t ca] 24)).cell? ⟨GP, i, none⟩ = _ := fun i hi => (World.cell?_of_block (a := ⟨GP, i, none⟩) ((bD.block GP (by omega)).trans (kx GP (by omega)))).trans (P38 i hi)
    have p27 : ∀ i, i < 3 → (wr.alloc (.cells #[.string (nmS true), .slice pa t ca] 24)).cell? ⟨GU, i, none⟩ = _ := fun i hi => (World.cell?_of_block (a := ⟨GU, i, none⟩) ((bD.block GU (by omega)).trans (kx GU (by omega)))).trans (P27 i hi)
    refine ⟨⟨fun i hi => ?_⟩, p27 0 (by omega), p27 1 (by omega), p27 2 (by omega), (hb.below (by rw [hSS]; exact b0r)).below bD, new_cell rfl _ _ 0, new_cell rfl _ _ 1, (OnesAt.of_own own hn0).below bD (Nat.le_refl _)⟩
    rcases (by omega : i = 0 ∨ i = 1) with h | h
    · subst h; exact ⟨p38 0 (by omega), p38 1 (by omega), p38 2 (by omega)⟩
    · subst h; exact ⟨p38 3 (by omega), p38 4 (by omega), p38 5 (by omega)⟩
  have hnw := hnew _ _ _ _ _ IN
  have HB := hideIt (b0r.trans (bD.mono (by omega)))
  have hNw : N4 < wr.heap.size := by omega
  clear IN b05 P38 P27 P42 s5 hb hnew kx b0r c42 own W bD Tf
  have T0' := T0
  go_wp2_with fail
  refine hnw.mono ?_
  rintro e w6 ⟨b6, hres⟩
  clear hnw T0 T1 n0 n1 n2 T0'
  have HB6 := hideIt (HB.out.trans (b6.mono (by simp; omega)))
  rcases hres with ⟨rfl, a, b, rfl⟩ | ⟨Bn, hok, hcd, hhh⟩
  · clear b6
    go_wp2
    go_ret2
    exact ⟨rfl, by rw [HS.out]; exact then_ (show Below w.heap.size w w6 by rw [HS.out]; exact HB6.out) (one_alloc _ _) |> fun h => by rw [HS.out] at h; exact h⟩
  · obtain ⟨ρ, E, GR, GC, RL, cr, c, sh, sr, f, kn, nb, kk, fn, LB, cl, gl, cgl, rfl, RD, c6, c7, c8, c9, c10, c11, hL, hg, HM, hfn, hne, hlo⟩ := hok
    have bA := one_alloc w6 (.cells #[.int .u8 0, .int .i64 0, .int .i64 0] 45)
    have hrg := run_go (RD.below bA) c6 c7 c8 c9 c10 c11 (cell_later bA hL) (cell_later bA hg)
    rw [hcd] at hrg
    have H6 := hideIt (And.intro HM (And.intro hne (And.intro hlo (And.intro bA (And.intro hfn b6)))))
    clear RD c6 c7 c8 c9 c10 c11 hL hg HM hne hlo bA b6 hfn
    go_wp2_with fail
    refine hrg.mono ?_
    rintro e w8 ⟨rfl, S8, W8⟩
    obtain ⟨HM, hne, hlo, bA, hfn, b6⟩ := H6.out
    have HM8 : MapN w8 nb kk fn := (HM.below bA).blk (W8.block nb (HM.below bA).lt (fun e => by rcases e with e | e | e | e; exact hne.1 e; exact hne.2.1 e; exact hne.2.2.1 e; exact hne.2.2.2 e))
    have hhs := has_go S8 HM8 hfn
    rw [hhh] at hhs
    have hs6 := bA.size
    have hsb : wr.heap.size + 1 ≤ w6.heap.size := by have := b6.size; simp at this; omega
    have b08 : Below w.heap.size w w8 := by
      have hS6 := HB6.out
      have hSS := HS.out
      have hSs := hS6.size
      refine ⟨W8.os.trans (bA.os.trans hS6.os), W8.tape.trans (bA.tape.trans hS6.tape), W8.output.trans (bA.output.trans hS6.output), by have := W8.size; omega, fun q hq => ?_⟩
      have hq2 : q < wr.heap.size := by omega
      have hlo1 : wr.heap.size + 1 ≤ GC := by have := hlo.1; simp at this; omega
      have hlo2 : wr.heap.size + 1 ≤ E := by have := hlo.2.1; simp at this; omega
      have hlo3 : wr.heap.size + 1 ≤ ρ.hb := by have := hlo.2.2.1; simp at this; omega
      have hlo4 : wr.heap.size + 1 ≤ ρ.rb := by have := hlo.2.2.2; simp at this; omega
      exact (W8.block q (by omega) (fun e => by rcases e with e | e | e | e <;> omega)).trans ((bA.block q (by omega)).trans (hS6.block q (by omega)))
    have HB8 := hideIt b08
    have hfd := field45 cd
    clear S8 W8 HM hne hlo bA hfn b6 HM8 hs6 hsb b08 hrg
    go_wp2_with fail
    refine hhs.mono ?_
    rintro e w9 ⟨rfl, b9⟩
    have HB9 := hideIt (then_ HB8.out b9)
    clear b9 hhs
    go_wp2
    go_ret2
    exact ⟨rfl, by first | exact HB9.out | (rw [← HS.out]; exact HB9.out)⟩
end Go.Proofs.Qxb6500880a
