import Derived.Deep.CutBlock
import Derived.OwnWalk
import Derived.Maps.AppendAt
import Derived.Test.Qxb6500877aGreatDoorAs
set_option linter.unusedVariables false
set_option linter.unusedSimpArgs false
namespace Go.Proofs.Qxb6500877aGreatDoor
open Go.RowKit

theorem nil_eq56 (w : World) : (binOp .eql 56 (.slice none 0 0) (.slice none 0 0)).run Tryz.prog w = .ok (.bool true) w := by kernel_rfl
theorem some_eq56 (g n cap : Nat) (w : World) : (binOp .eql 56 (.slice (some ⟨g, 0, none⟩) n cap) (.slice none 0 0)).run Tryz.prog w = .ok (.bool false) w := by kernel_rfl
set_option maxRecDepth 20000 in
set_option maxHeartbeats 4000000 in
theorem clone_msgs {w : World} {base : Nat} {v : Value} {l : List MsgV} (H : w.ownsRow base 40 9 v l.length (msgCells l)) (hbig : l.length ≤ 1000) :
    Calls Tryz.prog 91 #[v] w fun e w' => ∃ v', e = .returned v' ∧ w'.ownsRow w.heap.size 40 9 v' l.length (msgCells l) ∧ Below w.heap.size w w' := by
  obtain ⟨i0_, hi_, hz0, hz1, hz2⟩ := info_parts info40
  have hcl := H.1
  rcases H.2 with ⟨e1, e2⟩ | ⟨g, cap, cur, e1, _⟩
  · have el : l = [] := List.length_eq_zero_iff.1 e2
    subst el e1
    go_enter Tryz.func91, Tryz.ntmps91
    have qe := nil_eq56
    go_wp2
    go_ret
    exact ⟨_, rfl, World.ownsRow_nil _ _ _ _, Below.refl _ _⟩
  · subst e1
    have hg2 : g < w.heap.size := (H.lt g rfl).2
    have hown : (w.alloc (.cells #[] 40)).ownsRow w.heap.size 40 9 (.slice (some ⟨w.heap.size, 0, none⟩) 0 0) 0 [] := World.ownsRow_made w #[] 0 (Nat.le_refl _) (by unfold maxLen; omega) rfl
    have hcc : ∀ j u, (msgCells l)[j]? = some u → (w.alloc (.cells #[] 40)).cell? ((⟨g, 0, none⟩ : Addr).add j) = some u := fun j u hu => by
      have e : (⟨g, 0, none⟩ : Addr).add j = ⟨g, j, none⟩ := by simp [Addr.add]; intro h; exact h.symm
      have h1 := H.cells (g := g) rfl j u hu
      rw [e] at h1
      rw [e, (World.cell?_of_block (a := ⟨g, j, none⟩) ((one_alloc w (.cells #[] 40)).block g hg2)).trans h1]
    have hb1 := one_alloc w (.cells #[] 40)
    have hr : ∀ k, (Value.slice (some ⟨w.heap.size, 0, none⟩) 0 0).ownBlock = some k → w.heap.size ≤ k := fun k hk => by
      have : w.heap.size = k := by simpa [Value.ownBlock] using hk
      omega
    go_enter Tryz.func91, Tryz.ntmps91
    have qe := some_eq56 g l.length cap
    go_upto_if 4 with fail
    go_wp2_with (first | (at_builtin; refine wpList_append_own _ rfl (.tmp 5) (.tmp 6) 56 rfl w.heap.size 40 i0_ (.agg #[.int .i64 0, .int .i64 0, .int .u32 0, .int .u64 0, .int .u64 0, .int .u64 0, .int .u64 0, .int .u64 0, .int .u64 0]) 9 72 Tryz.underlying56 hi_ hz0 hz1 hz2 rfl (by decide) _ 0 [] rfl hown ⟨g, 0, none⟩ l.length cap (msgCells l) rfl hcl hcc (msgs_one l) (by unfold maxLen; omega) (by omega) (by simp) ?_; intro v' w3 hown' hgrow3 _; have hb2 : Below w.heap.size w w3 := below_grown hb1 hgrow3 hb1.size hr; clear hgrow3) | go_in)
    go_ret
    exact ⟨v', rfl, by simpa using hown', hb2⟩
theorem nil_eq59 (w : World) : (binOp .eql 59 (.slice none 0 0) (.slice none 0 0)).run Tryz.prog w = .ok (.bool true) w := by kernel_rfl
theorem some_eq59 (g n cap : Nat) (w : World) : (binOp .eql 59 (.slice (some ⟨g, 0, none⟩) n cap) (.slice none 0 0)).run Tryz.prog w = .ok (.bool false) w := by kernel_rfl
set_option maxRecDepth 20000 in
set_option maxHeartbeats 4000000 in
theorem clone_tms {w : World} {base : Nat} {v : Value} {l : List TmR} (H : w.ownsRow base 84 4 v l.length (tmCells l)) (hbig : l.length ≤ 1000) :
    Calls Tryz.prog 92 #[v] w fun e w' => ∃ v', e = .returned v' ∧ w'.ownsRow w.heap.size 84 4 v' l.length (tmCells l) ∧ Below w.heap.size w w' := by
  obtain ⟨i0_, hi_, hz0, hz1, hz2⟩ := info_parts info84
  have hcl := H.1
  rcases H.2 with ⟨e1, e2⟩ | ⟨g, cap, cur, e1, _⟩
  · have el : l = [] := List.length_eq_zero_iff.1 e2
    subst el e1
    go_enter Tryz.func92, Tryz.ntmps92
    have qe := nil_eq59
    go_wp2
    go_ret
    exact ⟨_, rfl, World.ownsRow_nil _ _ _ _, Below.refl _ _⟩
  · subst e1
    have hg2 : g < w.heap.size := (H.lt g rfl).2
    have hown : (w.alloc (.cells #[] 84)).ownsRow w.heap.size 84 4 (.slice (some ⟨w.heap.size, 0, none⟩) 0 0) 0 [] := World.ownsRow_made w #[] 0 (Nat.le_refl _) (by unfold maxLen; omega) rfl
    have hcc : ∀ j u, (tmCells l)[j]? = some u → (w.alloc (.cells #[] 84)).cell? ((⟨g, 0, none⟩ : Addr).add j) = some u := fun j u hu => by
      have e : (⟨g, 0, none⟩ : Addr).add j = ⟨g, j, none⟩ := by simp [Addr.add]; intro h; exact h.symm
      have h1 := H.cells (g := g) rfl j u hu
      rw [e] at h1
      rw [e, (World.cell?_of_block (a := ⟨g, j, none⟩) ((one_alloc w (.cells #[] 84)).block g hg2)).trans h1]
    have hb1 := one_alloc w (.cells #[] 84)
    have hr : ∀ k, (Value.slice (some ⟨w.heap.size, 0, none⟩) 0 0).ownBlock = some k → w.heap.size ≤ k := fun k hk => by
      have : w.heap.size = k := by simpa [Value.ownBlock] using hk
      omega
    go_enter Tryz.func92, Tryz.ntmps92
    have qe := some_eq59 g l.length cap
    go_upto_if 4 with fail
    go_wp2_with (first | (at_builtin; refine wpList_append_own _ rfl (.tmp 5) (.tmp 6) 59 rfl w.heap.size 84 i0_ (.agg #[.int .u64 0, .int .i64 0, .int .u64 0, .int .u64 0]) 4 32 Tryz.underlying59 hi_ hz0 hz1 hz2 rfl (by decide) _ 0 [] rfl hown ⟨g, 0, none⟩ l.length cap (tmCells l) rfl hcl hcc (tm_one l) (by unfold maxLen; omega) (by omega) (by simp) ?_; intro v' w3 hown' hgrow3 _; have hb2 : Below w.heap.size w w3 := below_grown hb1 hgrow3 hb1.size hr; clear hgrow3) | go_in)
    go_ret
    exact ⟨v', rfl, by simpa using hown', hb2⟩
theorem msgCells_at : ∀ (l : List MsgV) (j : Nat) (m : MsgV) (i : Nat), l[j]? = some m → i < 9 → (msgCells l)[j * 9 + i]? = (msg9 m)[i]?
  | [], j, m, i, h, _ => by simp at h
  | a :: l, 0, m, i, h, hi => by
    simp at h
    subst h
    rw [show msgCells (a :: l) = msg9 a ++ msgCells l by simp [msgCells], List.getElem?_append_left (by simp [msg9]; omega)]
    simp
  | a :: l, j + 1, m, i, h, hi => by
    have h' : l[j]? = some m := by simpa using h
    rw [show msgCells (a :: l) = msg9 a ++ msgCells l by simp [msgCells], List.getElem?_append_right (by simp [msg9]; omega)]
    rw [show (j + 1) * 9 + i - (msg9 a).length = j * 9 + i by simp [msg9]; omega]
    exact msgCells_at l j m i h' hi
theorem msgs_own {w : World} {base : Nat} {v : Value} {l : List MsgV} (h : w.ownsRow base 40 9 v l.length (msgCells l)) : MsgsAt w base v l := by
  rcases h.2 with ⟨e1, e2⟩ | ⟨g, cap, cur, e, hb, hh, _⟩
  · exact .inl ⟨List.length_eq_zero_iff.1 e2, e1⟩
  · subst e
    refine .inr ⟨g, cap, rfl, hb, (h.lt g rfl).2, fun j m hj => ?_⟩
    have key : ∀ i u, i < 9 → (msg9 m)[i]? = some u → w.cell? ⟨g, j * 9 + i, none⟩ = some u := fun i u hi hu => by
      have := h.cells (g := g) rfl (j * 9 + i) u (by rw [msgCells_at l j m i hj hi]; exact hu)
      rw [addr_add0] at this
      exact this
    exact ⟨key 0 _ (by omega) rfl, key 1 _ (by omega) rfl, key 2 _ (by omega) rfl, key 3 _ (by omega) rfl, key 4 _ (by omega) rfl, key 5 _ (by omega) rfl, key 6 _ (by omega) rfl, key 7 _ (by omega) rfl, key 8 _ (by omega) rfl⟩
theorem tms_own2 {w : World} {base : Nat} {v : Value} {l : List TmR} (h : w.ownsRow base 84 4 v l.length (tmCells l)) : TmsAt w base v l := by
  rcases h.2 with ⟨e1, e2⟩ | ⟨g, cap, cur, e, hb, hh, _⟩
  · exact .inl ⟨List.length_eq_zero_iff.1 e2, e1⟩
  · subst e
    refine .inr ⟨g, cap, rfl, hb, (h.lt g rfl).2, fun j m hj => ?_⟩
    obtain ⟨g', e', c0, c1, c2, c3⟩ := row_four h hj
    simp only [Option.some.injEq, Addr.mk.injEq] at e'
    obtain ⟨rfl, _⟩ := e'
    exact ⟨c0, c1, c2, c3⟩
end Go.Proofs.Qxb6500877aGreatDoor
