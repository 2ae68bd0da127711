import Derived.Deep.CutBlock
import Derived.OwnWalk
import Derived.Test.Qxb6500877aGreatDoorQi
set_option linter.unusedVariables false
set_option linter.unusedSimpArgs false
namespace Go.Proofs.Qxb6500877aGreatDoor
open Go.RowKit

theorem ids_one (l : List Nat) : ∀ x ∈ idCells l, x.oneCell' = true := by
  intro x hx
  simp only [idCells, List.mem_map] at hx
  obtain ⟨b, _, rfl⟩ := hx
  rfl
theorem ids_len (l : List Nat) : (idCells l).length = l.length := by simp [idCells]
theorem nil_eq (w : World) : (binOp .eql 50 (.slice none 0 0) (.slice none 0 0)).run Tryz.prog w = .ok (.bool true) w := by kernel_rfl
theorem some_eq (g n cap : Nat) (w : World) : (binOp .eql 50 (.slice (some ⟨g, 0, none⟩) n cap) (.slice none 0 0)).run Tryz.prog w = .ok (.bool false) w := by kernel_rfl
set_option maxRecDepth 20000 in
set_option maxHeartbeats 4000000 in
theorem clone_ids {w : World} {base : Nat} {v : Value} {l : List Nat} (H : IdsAt w base v l) (hbig : l.length ≤ 1000) :
    Calls Tryz.prog 47 #[v] w fun e w' => ∃ v', e = .returned v' ∧ w'.ownsRow w.heap.size 35 1 v' l.length (idCells l) ∧ Below w.heap.size w w' := by
  obtain ⟨i0_, hi_, hz0, hz1, hz2⟩ := info_parts info35
  rcases H with ⟨rfl, rfl⟩ | ⟨g, cap, rfl, hg1, hg2, hgc⟩
  · go_enter Tryz.func47, Tryz.ntmps47
    have qe := nil_eq
    go_wp2
    go_ret
    exact ⟨_, rfl, World.ownsRow_nil _ _ _ _, Below.refl _ _⟩
  · have hown : (w.alloc (.cells #[] 35)).ownsRow w.heap.size 35 1 (.slice (some ⟨w.heap.size, 0, none⟩) 0 0) 0 [] := World.ownsRow_made w #[] 0 (Nat.le_refl _) (by unfold maxLen; omega) rfl
    have hcc : ∀ j u, (idCells l)[j]? = some u → (w.alloc (.cells #[] 35)).cell? ((⟨g, 0, none⟩ : Addr).add j) = some u := fun j u hu => by
      rw [idCells, List.getElem?_map] at hu
      cases hx : l[j]? with
      | none => rw [hx] at hu; simp at hu
      | some x =>
        rw [hx] at hu
        have e : (⟨g, 0, none⟩ : Addr).add j = ⟨g, j, none⟩ := by simp [Addr.add]; intro h; exact h.symm
        rw [e, (World.cell?_of_block (a := ⟨g, j, none⟩) ((one_alloc w (.cells #[] 35)).block g hg2)).trans (hgc j x hx)]
        simpa using hu
    have hb1 := one_alloc w (.cells #[] 35)
    have hr : ∀ k, (Value.slice (some ⟨w.heap.size, 0, none⟩) 0 0).ownBlock = some k → w.heap.size ≤ k := fun k hk => by
      have : w.heap.size = k := by simpa [Value.ownBlock] using hk
      omega
    go_enter Tryz.func47, Tryz.ntmps47
    have qe := some_eq g l.length cap
    go_upto_if 4 with fail
    go_wp2_with (first | (at_builtin; refine wpList_append_own _ rfl (.tmp 5) (.tmp 6) 50 rfl w.heap.size 35 i0_ (.int .i64 0) 1 8 Tryz.underlying50 hi_ hz0 hz1 hz2 rfl (by decide) _ 0 [] rfl hown ⟨g, 0, none⟩ l.length cap (idCells l) rfl (by rw [ids_len]; omega) hcc (ids_one l) (by unfold maxLen; omega) (by omega) (by simp) ?_; intro v' w3 hown' hgrow3 _; have hb2 : Below w.heap.size w w3 := below_grown hb1 hgrow3 hb1.size hr; clear hgrow3) | go_in)
    go_ret
    exact ⟨v', rfl, by simpa using hown', hb2⟩
set_option maxRecDepth 20000 in
set_option maxHeartbeats 4000000 in
theorem index_ids {w : World} {g cap : Nat} {l : List Nat} {x : Nat} (hgc : ∀ (j b : Nat), l[j]? = some b → w.cell? ⟨g, j, none⟩ = some (.int .i64 (b : Int))) (hx : x ∈ l) (hbig : l.length ≤ 1000) (hx16 : x < 16) :
    Calls Tryz.prog 109 #[.slice (some ⟨g, 0, none⟩) l.length cap, .int .i64 (x : Int)] w fun e w' => ∃ k : Nat, e = .returned (.int .i64 (k : Int)) ∧ w' = w := by
  go_enter Tryz.func109, Tryz.ntmps109
  have HGC := hideIt hgc
  clear hgc
  go_wp2_with fail
  go_loopg [8] l.length (fun gg v wr => ∃ j : Nat, j + gg = l.length ∧ v = .int .i64 (j : Int) ∧ w = wr ∧ Hid (x ∈ l.drop j))
  case atStart => exact ⟨0, by omega, rfl, rfl, hideIt hx⟩
  case round =>
    obtain ⟨j, hjg, rfl, rfl, HD⟩ := hrel
    by_cases hj : j < l.length
    · have j0 : (0 : Int) ≤ j := by omega
      have j1 : (j : Int) < (l.length : Int) := by omega
      have hbx : ∃ b, l[j]? = some b := ⟨l[j], List.getElem?_eq_getElem hj⟩
      obtain ⟨b, hbj⟩ := hbx
      have tj := HGC.out j b hbj
      by_cases hxb : x = b
      · subst hxb
        clear hbj
        go_wp2
        go_ret
        exact ⟨j, rfl, rfl⟩
      · have hne : ((x : Int) == (b : Int)) = false := by simp; omega
        have HN := hideIt (And.intro hxb hbj)
        clear hxb hbj
        go_wp2
        go_roundg (l.length - (j + 1))
        case measure => omega
        case rel =>
          refine ⟨j + 1, by omega, by go_num, rfl, hideIt ?_⟩
          obtain ⟨h1, h2⟩ := HN.out
          have h3 := HD.out
          rw [List.drop_eq_getElem_cons hj] at h3
          have e : l[j] = b := by
            rw [List.getElem?_eq_getElem hj] at h2
            simpa using h2
          rw [e] at h3
          rcases List.mem_cons.1 h3 with h4 | h4
          · exact absurd h4 h1
          · exact h4
    · exfalso
      have h3 := HD.out
      rw [List.drop_eq_nil_of_le (by omega)] at h3
      simp at h3
theorem contains_ids {w : World} {g cap : Nat} {l : List Nat} {x : Nat} (hgc : ∀ (j b : Nat), l[j]? = some b → w.cell? ⟨g, j, none⟩ = some (.int .i64 (b : Int))) (hx : x ∈ l) (hbig : l.length ≤ 1000) (hx16 : x < 16) :
    Calls Tryz.prog 48 #[.slice (some ⟨g, 0, none⟩) l.length cap, .int .i64 (x : Int)] w fun e w' => e = .returned (.bool true) ∧ w' = w := by
  have hi := index_ids (cap := cap) hgc hx hbig hx16
  go_enter Tryz.func48, Tryz.ntmps48
  go_wp2_with fail
  refine hi.mono ?_
  rintro e w ⟨k, rfl, rfl⟩
  have k0 : (0 : Int) ≤ k := by omega
  go_wp2
  go_ret
  exact ⟨rfl, rfl⟩
end Go.Proofs.Qxb6500877aGreatDoor
