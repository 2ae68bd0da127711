import Derived.Deep.CutBlock
import Derived.OwnWalk
import Derived.Maps.AppendAt
import Derived.Maps.OwnSet
import Derived.Maps.OwnOps
import Derived.Laws.ResultCell
import Derived.Test.Qxb6500880aGreatS
set_option linter.unusedVariables false
set_option linter.unusedSimpArgs false
namespace Go.Proofs.Qxb6500880aGreat
open Go.RowKit

def rel0 (A : Nat) : RelS := ⟨A, 0, .slice none 0 0, .slice none 0 0, .slice none 0 0, .slice none 0 0, 0, 0⟩
theorem RelAt_new (w : World) (nm : ByteArray) (A : Nat) : RelAt (w.alloc (.cells #[.string nm, .int .i64 (A : Int), .int .i64 0, .slice none 0 0, .int .i64 0, .slice none 0 0, .slice none 0 0, .slice none 0 0, .slice none 0 0, .int .i64 0, .int .i64 0, .int .i64 0] 98)) w.heap.size nm (rel0 A) :=
  ⟨new_cell rfl _ _ _, new_cell rfl _ _ _, new_cell rfl _ _ _, new_cell rfl _ _ _, new_cell rfl _ _ _, new_cell rfl _ _ _, new_cell rfl _ _ _, new_cell rfl _ _ _, new_cell rfl _ _ _, new_cell rfl _ _ _, new_cell rfl _ _ _, new_cell rfl _ _ _, fun o => new_frz rfl _ _ _⟩
set_option maxRecDepth 20000 in
set_option maxHeartbeats 8000000 in
theorem addRelation_any {w : World} {E nb base k kk A : Nat} {c : Nat → Value} {fn : Fin 4 → Option Nat} {xs : List Value} (key : Fin 4) (HE : EngAt w E c) (h6 : c 6 = .map (some nb)) (HN : MapN w nb kk fn) (own : w.ownsRow base 99 1 (c 5) k xs) (hEb : E < base) (hnb : nb < base) (hbs : base ≤ w.heap.size) (hEn : E ≠ nb) (hk : k ≤ 100) (hkk : kk ≤ 100) :
    Calls Tryz.prog 24 #[.pointer (some ⟨E, 0, none⟩), .string (nmS key), .int .i64 (A : Int), .int .i64 0] w fun e w' => e = .returned (.pointer (some ⟨w.heap.size, 0, none⟩)) ∧ RelAt w' w.heap.size (nmS key) (rel0 A) ∧ (∃ v', EngAt w' E (updV c 5 v') ∧ w'.ownsRow base 99 1 v' (k + 1) (xs ++ [.pointer (some ⟨w.heap.size, 0, none⟩)]) ∧ v'.ownBlock ≠ some w.heap.size ∧ (v'.ownBlock = (c 5).ownBlock ∨ ∀ q, v'.ownBlock = some q → w.heap.size ≤ q)) ∧ MapN w' nb (kk + 1) (fun j => if j = key then some w.heap.size else fn j) ∧ Ws (fun q => q = E ∨ q = nb ∨ (c 5).ownBlock = some q) w w' := by
  obtain ⟨i9, hi9, hx0, hx1, hx2⟩ := info_parts info99
  obtain ⟨nm, hnm⟩ : ∃ nm, nmS key = nm := ⟨_, rfl⟩
  have HNM := hideIt hnm
  obtain ⟨vp, vc, hv⟩ := own_shape own
  have bR := one_alloc w (.cells #[.string nm, .int .i64 (A : Int), .int .i64 0, .slice none 0 0, .int .i64 0, .slice none 0 0, .slice none 0 0, .slice none 0 0, .slice none 0 0, .int .i64 0, .int .i64 0, .int .i64 0] 98)
  have hsR : (w.alloc (.cells #[.string nm, .int .i64 (A : Int), .int .i64 0, .slice none 0 0, .int .i64 0, .slice none 0 0, .slice none 0 0, .slice none 0 0, .slice none 0 0, .int .i64 0, .int .i64 0, .int .i64 0] 98)).heap.size = w.heap.size + 1 := by simp
  have c5 := cell_later bR (HE.get hv (by omega))
  rw [hv] at own
  have own1 := own.alloc (.cells #[.string nm, .int .i64 (A : Int), .int .i64 0, .slice none 0 0, .int .i64 0, .slice none 0 0, .slice none 0 0, .slice none 0 0, .slice none 0 0, .int .i64 0, .int .i64 0, .int .i64 0] 98)
  have HQ := hideIt (And.intro HE (And.intro HN (And.intro own (And.intro bR h6))))
  have HR1 := hideIt (RelAt_new w nm A)
  have HSR := hideIt hsR
  have hbs1 : base ≤ (w.alloc (.cells #[.string nm, .int .i64 (A : Int), .int .i64 0, .slice none 0 0, .int .i64 0, .slice none 0 0, .slice none 0 0, .slice none 0 0, .slice none 0 0, .int .i64 0, .int .i64 0, .int .i64 0] 98)).heap.size := by omega
  have hEl := HE.lt
  have hnl := HN.lt
  have HV := hideIt hv
  rw [hnm]
  clear HE HN own bR h6 hnm hv hsR
  go_enter Tryz.func24, Tryz.ntmps24
  go_upto_region 2 with fail
  generalize w.alloc (.cells #[.string nm, .int .i64 (A : Int), .int .i64 0, .slice none 0 0, .int .i64 0, .slice none 0 0, .slice none 0 0, .slice none 0 0, .slice none 0 0, .int .i64 0, .int .i64 0, .int .i64 0] 98) = w1 at *
  go_cut [] (fun wd => ∃ v', EngAt wd E (updV c 5 v') ∧ wd.ownsRow base 99 1 v' (k + 1) (xs ++ [.pointer (some ⟨w.heap.size, 0, none⟩)]) ∧ (v'.ownBlock ≠ some w.heap.size ∧ (v'.ownBlock = (c 5).ownBlock ∨ ∀ q, v'.ownBlock = some q → w.heap.size ≤ q)) ∧ Hid (Ws (fun q => q = E ∨ (c 5).ownBlock = some q) w1 wd))
  case first =>
    obtain ⟨HE, HN, own, bR, h6⟩ := HQ.out
    have nw := cell_new1 w1 (.pointer (some ⟨w.heap.size, 0, none⟩)) 99
    have fz := (HE.below bR).fz
    have HOWN := hideIt own1
    clear HE HN own bR h6 own1
    go_wp2_with (first | (at_builtin; refine wpList_append_own_at _ rfl (.tmp 19) (.tmp 21) 76 rfl base 99 i9 (.pointer none) 1 8 Tryz.underlying76 hi9 hx0 hx1 hx2 rfl (by decide) (.slice vp k vc) k xs rfl (HOWN.out.alloc _) ⟨w1.heap.size, 0, none⟩ 1 1 [.pointer (some ⟨w.heap.size, 0, none⟩)] rfl rfl nw (by simp [Value.oneCell']) (by unfold maxLen; omega) (by omega) (by simp; omega) ?_) | go_in)
    intro v' w2 hown hgrow hiff hblk
    have hsR := HSR.out
    obtain ⟨HE, HN, own, bR, h6⟩ := HQ.out
    have bA := one_alloc w1 (.cells #[.pointer (some ⟨w.heap.size, 0, none⟩)] 99)
    have hsA : (w1.alloc (.cells #[.pointer (some ⟨w.heap.size, 0, none⟩)] 99)).heap.size = w1.heap.size + 1 := by simp
    have hjq : ∀ q, (Value.slice vp k vc).ownBlock = some q → base ≤ q ∧ q < w.heap.size := fun q hq => own.lt q hq
    have kp : ∀ q, q < w1.heap.size → some q ≠ (Value.slice vp k vc).ownBlock → w2.heap[q]? = w1.heap[q]? := fun q h1 h2 => (hgrow.block q (by omega) h2).trans (bA.block q h1)
    have eE : w2.heap[E]? = w1.heap[E]? := kp E (by omega) (fun e => by have := (hjq E e.symm).1; omega)
    have HE2 := (HE.below bR).blk eE
    have c5' := HE2.get HV.out (by omega)
    have fz2 := HE2.fz
    have hnw : v'.ownBlock ≠ some w.heap.size ∧ (v'.ownBlock = (c 5).ownBlock ∨ ∀ q, v'.ownBlock = some q → w.heap.size ≤ q) := by
      refine ⟨fun e => ?_, ?_⟩
      · rcases hblk with z | z
        · rw [z] at e
          have := (hjq _ e).2
          omega
        · rw [z] at e
          have := Option.some.inj e
          omega
      · rcases hblk with z | z
        · exact .inl (by rw [HV.out]; exact z)
        · refine .inr (fun q hq => ?_)
          rw [z] at hq
          have := Option.some.inj hq
          omega
    obtain ⟨p', c', rfl⟩ := own_shape hown
    have HG := hideIt (And.intro hown (And.intro kp (And.intro HE2 (And.intro hnw (And.intro bA hgrow)))))
    clear hown hgrow hiff hblk kp HE2 hnw bA HE HN own bR h6 c5 fz nw eE hsR
    go_wp2
    go_meet
    case rel =>
      have hsR := HSR.out
      obtain ⟨hown, kp, HE2, hnw, bA, hgrow⟩ := HG.out
      refine ⟨_, HE2.put (by omega) _, own_one hown (fun q hq => far_set (fun e => by have := (hown.lt q hq).1; omega)), hnw, hideIt ⟨hgrow.os.trans bA.os, hgrow.tape.trans bA.tape, hgrow.output.trans bA.output, by have := hgrow.size; simp; omega, fun q h1 h2 => (far_set (fun e => h2 (.inl e))).trans (kp q h1 (fun e => h2 (.inr (HV.out.symm ▸ e.symm))))⟩⟩
  case rest =>
  have hsR := HSR.out
  obtain ⟨v', HE2, own2, hnw, HW⟩ := hcut
  obtain ⟨HE, HN, own, bR, h6⟩ := HQ.out
  have W2 := HW.out
  have hs2 := W2.size
  have hqn : ∀ q, (c 5).ownBlock = some q → base ≤ q ∧ q < w.heap.size := fun q hq => own.lt q (HV.out ▸ hq)
  have HN2 : MapN wc nb kk fn := (HN.below bR).blk (W2.block nb (by omega) (fun e => by
    rcases e with e | e
    · exact hEn e.symm
    · have := (hqn nb e).1
      omega))
  have e6 := HE2.get (k := 6) ((updV_other c v' (by omega)).trans h6) (by omega)
  obtain ⟨w5, hrun, HN5, W5⟩ := HN2.store (by omega) key w.heap.size
  rw [HNM.out] at hrun
  have HG := hideIt (And.intro HE2 (And.intro own2 (And.intro hnw (And.intro HN5 (And.intro W5 W2)))))
  clear HE2 own2 hnw HN5 W5 HE HN own bR h6 W2 HN2 hqn HW hsR
  go_wp2
  go_ret
  obtain ⟨HE2, own2, hnw, HN5, W5, W2⟩ := HG.out
  obtain ⟨HE, HN, own, bR, h6⟩ := HQ.out
  have hqn : ∀ q, (c 5).ownBlock = some q → base ≤ q ∧ q < w.heap.size := fun q hq => own.lt q (HV.out ▸ hq)
  have hsR := HSR.out
  have hs2 := W2.size
  have hs5 := W5.size
  have k1 : wc.heap[w.heap.size]? = w1.heap[w.heap.size]? := W2.block _ (by omega) (fun e => by
    rcases e with e | e
    · omega
    · have := (hqn _ e).2
      omega)
  have k2 : w5.heap[w.heap.size]? = wc.heap[w.heap.size]? := W5.block _ (by omega) (by omega)
  have eE : w5.heap[E]? = wc.heap[E]? := W5.block E (by omega) hEn
  refine ⟨rfl, (HR1.out.blk k1).blk k2, ⟨_, HE2.blk eE, own_one own2 (fun q hq => W5.block q (own2.lt q hq).2 (by have := (own2.lt q hq).1; omega)), hnw⟩, HN5, ?_⟩
  refine ((Ws.of_below bR).trans (W2.mono (fun q h1 h2 => ?_))).trans (Ws.of_wr W5 (.inr (.inl rfl)))
  rcases h2 with h2 | h2
  · exact .inl h2
  · exact .inr (.inr h2)
end Go.Proofs.Qxb6500880aGreat
