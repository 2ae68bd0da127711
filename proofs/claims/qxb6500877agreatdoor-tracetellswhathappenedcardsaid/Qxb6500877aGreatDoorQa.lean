import Derived.OwnWalk
import Derived.Deep.CutBlock
import Derived.Test.Qxb6500877aGreatDoorSk
import Derived.Test.Qxb6500877aGreatDoorWv
set_option linter.unusedVariables false
set_option linter.unusedSimpArgs false
namespace Go.Proofs.Qxb6500877aGreatDoor
open Go.RowKit

theorem below_grown {n : Nat} {w w1 w2 : World} {row : Option Nat} (h : Below n w w1) (g : w1.grownBy w2 row) (hn : n ≤ w1.heap.size) (hr : ∀ k, row = some k → n ≤ k) : Below n w w2 :=
  ⟨g.os.trans h.os, g.tape.trans h.tape, g.output.trans h.output, Nat.le_trans h.size g.size, fun k hk => (g.block k (by omega) (fun e => by have := hr k e.symm; omega)).trans (h.block k hk)⟩
theorem cell_one_new (w : World) (a : Value) (t : TypeId) : ∀ j u, [a][j]? = some u → (w.alloc (.cells #[a] t)).cell? ((⟨w.heap.size, 0, none⟩ : Addr).add j) = some u := by
  intro j u h
  cases j with
  | zero =>
    simp at h
    subst h
    simp [Addr.add]
  | succ j => simp at h
theorem info35 : (Tryz.prog.info? 35).map (fun i => (i.zero, i.size, i.bytes)) = some (some (.int .i64 0), 1, 8) := by kernel_rfl
/-- Numbers, as the cells of a row. -/
def idCells (l : List Nat) : List Value := l.map (fun b : Nat => .int .i64 (b : Int))
theorem idCells_snoc (l : List Nat) (x : Nat) : idCells (l ++ [x]) = idCells l ++ [.int .i64 (x : Int)] := by simp [idCells]
theorem ids_snoc {w : World} {base : Nat} {v : Value} {l : List Nat} {x : Nat} (h : w.ownsRow base 35 1 v (l.length + 1) (idCells l ++ [.int .i64 (x : Int)])) : w.ownsRow base 35 1 v (l ++ [x]).length (idCells (l ++ [x])) := by
  rw [idCells_snoc, List.length_append]
  exact h
theorem dll_head {N : Nat} {P X : Nat → Int} {h t : Int} {l : List Nat} (D : Dll N P X h t l) : h = hdOr l := by
  cases l with
  | nil => exact D.2.symm
  | cons x l => exact D.1
theorem dll_next {N : Nat} {P X : Nat → Int} {h t : Int} {A C : List Nat} {x : Nat} (D : Dll N P X h t (A ++ x :: C)) : X x = hdOr C ∧ x < N := by
  obtain ⟨_, h2⟩ := seg_join D
  obtain ⟨_, hx, _, h3⟩ := h2
  refine ⟨?_, hx⟩
  cases C with
  | nil => exact h3.2.symm
  | cons y C => exact h3.1
theorem hdOr_nil : hdOr [] = -1 := rfl
theorem hdOr_cons (x : Nat) (C : List Nat) : hdOr (x :: C) = (x : Int) := rfl
/-- The bands before the k-th, one behind the other. -/
def preQ (Q : Nat → List Nat) : Nat → List Nat
  | 0 => []
  | k + 1 => preQ Q k ++ Q k
theorem hdOr_wrap (C : List Nat) (h : ∀ x ∈ C, x < 16) : IntKind.i64.wrap (hdOr C) = hdOr C := by
  apply wrap_i64
  cases C with
  | nil => simp [hdOr]
  | cons x C =>
    have := h x (by simp)
    simp [hdOr]
    omega
set_option maxRecDepth 20000 in
set_option maxHeartbeats 8000000 in
theorem order_any {w : World} {B : Nat} {s : Sched} {Q : Nat → Nat → List Nat} {c : Nat} (H : SchedAt w B s) (I : SInv s Q 16) (hc : c < 4) :
    Calls Tryz.prog 86 #[.pointer (some ⟨B, 6596, none⟩), .int .i64 (c : Int)] w fun e w' => ∃ v, e = .returned v ∧ w'.ownsRow w.heap.size 35 1 v (preQ (Q c) 4).length (idCells (preQ (Q c) 4)) ∧ Below w.heap.size w w' := by
  obtain ⟨i0_, hi_, hz0, hz1, hz2⟩ := info_parts info35
  have hq := H.queue hc
  have hB : B < w.heap.size := World.block_lt_of_cell? _ _ hq.2.1
  have hn := hq.2.2
  have j0 : (0 : Int) ≤ c := by omega
  have j1 : (c : Int) < 4 := by omega
  have hlen : s.qn c = ((preQ (Q c) 4).length : Nat) := by
    rw [I.qn c hc]
    simp [preQ]
    omega
  have HDL : Hid (∀ k, k < 4 → Dll 16 (fun x => (s.tk x).prev) (fun x => (s.tk x).next) (s.hd c k) (s.tl c k) (Q c k)) := hideIt (fun k hk => I.dll c k hc hk)
  have HSM : Hid (∀ k, k < 4 → (preQ (Q c) (k + 1)).length ≤ 64) := hideIt (fun k hk => by
    have h0 := I.small c 0
    have h1 := I.small c 1
    have h2 := I.small c 2
    have h3 := I.small c 3
    have : k = 0 ∨ k = 1 ∨ k = 2 ∨ k = 3 := by omega
    rcases this with rfl | rfl | rfl | rfl <;> simp [preQ] <;> omega)
  have hs64 := HSM.out 3 (by omega)
  rw [hlen] at hn
  obtain ⟨n, HN⟩ : ∃ n, Hid ((preQ (Q c) 4).length = n) := ⟨_, hideIt rfl⟩
  rw [HN.out] at hn
  have hn64 : n ≤ 64 := by rw [← HN.out]; exact hs64
  have HH := hideIt H
  clear hlen hq I hs64
  by_cases hz : n = 0
  · have hn0 : w.cell? ⟨B, 6676 + c * 10 + 9, none⟩ = some (.int .i64 0) := by rw [hn, hz]; rfl
    have h0 : preQ (Q c) 4 = [] := List.length_eq_zero_iff.1 (HN.out.trans hz)
    clear hn hz
    go_enter Tryz.func86, Tryz.ntmps86
    go_wp2
    go_ret
    exact ⟨_, rfl, by rw [h0]; exact World.ownsRow_nil _ _ _ _, Below.refl _ _⟩
  · have hzb : ((n : Int) == 0) = false := by simp; omega
    clear hz
    go_enter Tryz.func86, Tryz.ntmps86
    go_wp2_with (first | (at_make; refine wpList_make_own _ rfl _ _ 50 rfl w.heap.size 35 i0_ (.int .i64 0) 1 Tryz.underlying50 hi_ hz0 hz1 .i64 .i64 (n : Int) n rfl rfl rfl (by rw [hz2]; omega) (by unfold maxLen; omega) (Nat.le_refl _) ?_; intro w3 hown3 hgrow3) | go_in)
    have hb3 : Below w.heap.size w w3 := ⟨hgrow3.os, hgrow3.tape, hgrow3.output, hgrow3.size, fun k hk => hgrow3.block k hk (by simp)⟩
    clear hgrow3
    go_wp2_with fail
    go_loopg [24, 6] 4 (fun g v24 v6 wr => ∃ k : Nat, k + g = 4 ∧ v24 = .int .i64 (k : Int) ∧ wr.ownsRow w.heap.size 35 1 v6 (preQ (Q c) k).length (idCells (preQ (Q c) k)) ∧ Below w.heap.size w wr)
    case atStart => exact ⟨0, by omega, rfl, hown3, hb3⟩
    case round =>
      clear hown3 hb3
      obtain ⟨k, hk, rfl, hown, hb⟩ := hrel
      by_cases hk4 : k < 4
      · have k0 : (0 : Int) ≤ k := by omega
        have k1 : (k : Int) < 4 := by omega
        have hD := HDL.out k hk4
        have hsm := HSM.out k hk4
        have HX : Hid (∀ A x C, Q c k = A ++ x :: C → (s.tk x).next = hdOr C ∧ x < 16) := hideIt (fun A x C e => by rw [e] at hD; exact dll_next hD)
        have hhd := dll_head hD
        have eP : preQ (Q c) (k + 1) = preQ (Q c) k ++ Q c k := rfl
        rw [eP] at hsm
        have HP := hideIt eP
        have HR : Hid (∀ wr : World, Below w.heap.size w wr → SchedAt wr B s) := hideIt (fun wr hb => HH.out.mut (Mut.of_below (lo := 0) (hi := 0) hb hB) (by omega))
        have hq := (HR.out wr hb).queue hc
        have hqh := (hq.1 k hk4).1
        rw [hhd] at hqh
        clear hD hq eP hhd
        generalize preQ (Q c) k = pre at *
        go_upto_block 1 with fail
        go_cut [6] (fun v6 wd => wd.ownsRow w.heap.size 35 1 v6 (pre ++ Q c k).length (idCells (pre ++ Q c k)) ∧ Below w.heap.size w wd)
        case first =>
          go_wp2_with fail
          go_loopg [8, 6] (Q c k).length (fun g v8 v6 wr => ∃ A C : List Nat, Hid (Q c k = A ++ C) ∧ C.length = g ∧ v8 = .int .i8 (hdOr C) ∧ wr.ownsRow w.heap.size 35 1 v6 (pre ++ A).length (idCells (pre ++ A)) ∧ Below w.heap.size w wr)
          case atStart => exact ⟨[], Q c k, hideIt rfl, rfl, rfl, by rw [List.append_nil]; exact hown, hb⟩
          case round =>
            clear hown hb hqh
            obtain ⟨A, C, HQ, hCg, rfl, hown, hb⟩ := hrel
            cases C with
            | nil =>
              simp only [hdOr_nil]
              go_wp2
              go_meet
              case rel => exact ⟨by rw [HQ.out, List.append_nil]; exact hown, hb⟩
            | cons x C =>
              obtain ⟨hnx, hx⟩ := HX.out A x C HQ.out
              obtain ⟨_, _, _, _, t4⟩ := (HR.out wr hb).task hx
              rw [hnx] at t4
              have x0 : (0 : Int) ≤ x := by omega
              have x1 : (x : Int) < 16 := by omega
              have hxn : ((x : Int) != -1) = true := by simp <;> omega
              have hl : (pre ++ A).length + 1 ≤ 64 := by
                have := HQ.out
                rw [this] at hsm
                simp at hsm ⊢
                omega
              have hwx : IntKind.i64.wrap (x : Int) = x := wrap_i64 (by omega)
              have hsr := hb.size
              have hr := fun k e => (hown.lt k e).1
              have HT4 : Hid (∀ w3 : World, Below w.heap.size w w3 → w3.cell? ⟨B, 6596 + x * 5 + 4, none⟩ = some (.int .i8 (hdOr C))) := hideIt (fun w3 hb2 => by
                obtain ⟨_, _, _, _, q4⟩ := (HR.out w3 hb2).task hx
                rw [(HX.out A x C HQ.out).1] at q4
                exact q4)
              simp only [hdOr_cons]
              clear hnx
              go_wp2_with (first | (at_builtin; refine wpList_append_own _ rfl (.tmp 43) (.tmp 46) 50 rfl w.heap.size 35 i0_ (.int .i64 0) 1 8 Tryz.underlying50 hi_ hz0 hz1 hz2 rfl (by decide) _ (pre ++ A).length (idCells (pre ++ A)) rfl (hown.alloc _) ⟨wr.heap.size, 0, none⟩ 1 1 [.int .i64 (x : Int)] rfl rfl (cell_one_new _ _ _) (fun x hx => by simp at hx; rw [hx]; rfl) (by unfold maxLen; omega) (by omega) (by simp; omega) ?_; intro v' w3 hown' hgrow3 _; have hb2 : Below w.heap.size w w3 := below_grown (hb.trans ((one_alloc wr _).mono hsr)) hgrow3 (by simp; omega) hr; have t4' := HT4.out w3 hb2; clear t4 hgrow3) | go_in)
              go_roundg C.length
              case measure => simp at hCg; omega
              case rel => exact ⟨A ++ [x], C, hideIt (by rw [HQ.out]; simp), rfl, rfl, by rw [← List.append_assoc]; exact ids_snoc hown', hb2⟩
        case rest =>
          obtain ⟨hown2, hb2⟩ := hcut
          go_wp2
          go_roundg (4 - (k + 1))
          case measure => omega
          case rel => exact ⟨k + 1, by omega, by go_num, by rw [HP.out]; exact hown2, hb2⟩
      · have e4 : k = 4 := by omega
        subst e4
        go_wp2
        go_ret
        exact ⟨_, rfl, hown, hb⟩
end Go.Proofs.Qxb6500877aGreatDoor
