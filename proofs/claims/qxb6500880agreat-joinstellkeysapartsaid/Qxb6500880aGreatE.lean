import Derived.Deep.CutBlock
import Derived.OwnWalk
import Derived.Maps.AppendAt
import Derived.Laws.AppendOwnNone
import Derived.Test.Qxb6500880aGreatD
set_option linter.unusedVariables false
set_option linter.unusedSimpArgs false
namespace Go.Proofs.Qxb6500880aGreat
open Go.RowKit

theorem info21 : (Tryz.prog.info? 21).map (fun i => (i.zero, i.size, i.bytes)) = some (some (.int .i32 0), 1, 4) := by kernel_rfl
theorem info109 : (Tryz.prog.info? 109).map (fun i => (i.zero, i.size, i.bytes)) = some (some (.int .u32 0), 1, 4) := by kernel_rfl
theorem made_one (z : Value) (n : Nat) : (madeCells #[z] n).toList = List.replicate n z := by
  apply List.ext_getElem?
  intro i
  by_cases h : i < n
  · simp [madeCells, h, Nat.mod_one]
  · simp [madeCells, h]
theorem Tbl.st_congr {N rows : Nat} {f st st' : Nat → Nat} (h : Tbl N rows f st) (hs : ∀ j, j < rows → st j = st' j) : Tbl N rows f st' :=
  ⟨h.lt, h.le, fun j hj => by rw [← hs j hj]; exact h.at' j hj, h.inj⟩
theorem slot_put {w : World} {g N sz x : Nat} {f : Nat → Nat} (h : SlotAt w (.slice (some ⟨g, 0, none⟩) N N) N f) : SlotAt (w.setCell ⟨g, sz, none⟩ (.int .i32 (x : Int))) (.slice (some ⟨g, 0, none⟩) N N) N (fun j => if j = sz then x else f j) := by
  obtain ⟨g', e, h, fz⟩ := h
  simp only [Value.slice.injEq, Option.some.injEq, Addr.mk.injEq] at e
  obtain ⟨⟨rfl, _⟩, _⟩ := e
  refine ⟨g, rfl, fun j hj => ?_, fun o => (World.frozen?_setCell _ _ _ _).trans (fz o)⟩
  by_cases q : j = sz
  · subst q
    show _ = some (Value.int .i32 ((if j = j then x else f j : Nat) : Int))
    rw [if_pos rfl]
    exact World.cell?_setCell_same _ _ _ (h j hj)
  · show _ = some (Value.int .i32 ((if j = sz then x else f j : Nat) : Int))
    rw [if_neg q, World.cell?_setCell_other _ _ _ _ (by simp <;> omega)]
    exact h j hj
theorem Wr.other {b g : Nat} {w w1 : World} (h : Wr b w w1) {o : Nat} {v : Value} (hg : w.heap.size ≤ g) : Wr b w (w1.setCell ⟨g, o, none⟩ v) := ⟨h.os, h.tape, h.output, by simpa using h.size, fun q h1 h2 => (far_set (by omega)).trans (h.block q h1 h2)⟩
/-- No two rows are equal. -/
def distR (d : Nat → Nat) (A rows : Nat) : Prop := ∀ i j, i < rows → j < i → ¬ sameR d A (rowF d A i) j
set_option maxRecDepth 20000 in
set_option maxHeartbeats 8000000 in
theorem rehash_any {w : World} {b N M : Nat} {nm : ByteArray} {s : RelS} {d : Nat → Nat} {ps : Option Addr} {cs : Nat} (H : RelAt w b nm s) (hd : SymR w s.data (s.rows * s.A) d) (hdb : s.data.ownBlock ≠ some b) (hsl : s.slots = .slice ps N cs)
    (hM : (N = 0 ∧ M = 16) ∨ (16 ≤ N ∧ M = 2 * N)) (pw : ∃ x, M = 2 ^ x ∧ x ≤ 20) (hrM : s.rows + 1 < M) (a0 : 0 < s.A) (a1 : s.A ≤ 1000) (r1 : s.rows ≤ 1000) (val : ∀ j, j < s.rows * s.A → d j < 64) (hds : distR d s.A s.rows) :
    Calls Tryz.prog 45 #[.pointer (some ⟨b, 0, none⟩)] w fun e w' => e = .returned (.tuple #[]) ∧ (∃ v f, RelT w' b nm { s with slots := v } d M s.rows f ∧ v.ownBlock = some w.heap.size) ∧ Wr b w w' := by
  obtain ⟨i0_, hi_, hz0, hz1, hz2⟩ := info_parts info21
  obtain ⟨M0, M1⟩ := pw_le pw
  have h5 := H.sl
  rw [hsl] at h5
  have hb := H.lt
  have fz := H.fz
  have HH := hideIt H
  have HD := hideIt hd
  have HP := hideIt pw
  have HV := hideIt val
  have HDS := hideIt hds
  have HDB := hideIt hdb
  clear H hsl hd pw val hds hdb
  have hmax : (if 2 * (N : Int) < 16 then (16 : Int) else 2 * (N : Int)) = (M : Int) := by split <;> omega
  have hw1 : IntKind.i64.wrap (2 * (N : Int)) = 2 * (N : Int) := by rw [IntKind.wrap_i64]; omega
  go_enter Tryz.func45, Tryz.ntmps45
  go_upto_region 0 with fail
  go_cut [] (fun wd => ∃ v, RelAt wd b nm { s with slots := v } ∧ SlotAt wd v M (fun _ => 0) ∧ v.ownBlock = some w.heap.size ∧ Wr b w wd)
  case first =>
    have HM := hideIt hM
    clear hM
    go_wp2_with (first | (at_make; refine wpList_make_full _ rfl _ _ 80 rfl w.heap.size 21 i0_ _ 1 Tryz.underlying80 hi_ hz0 hz1 .i64 .i64 (M : Int) (M : Int) M rfl rfl rfl rfl (by rw [hz2]; omega) (by unfold maxLen; omega) (Nat.le_refl _) ?_) | go_in)
    intro w3 hown3 hgrow3
    have hb3 : Below w.heap.size w w3 := ⟨hgrow3.os, hgrow3.tape, hgrow3.output, hgrow3.size, fun k hk => hgrow3.block k hk (by simp)⟩
    have H3 := HH.out.below hb3
    have fz3 := H3.fz
    have k5 := H3.sl
    have S3 : SlotAt w3 (.slice (some ⟨w.heap.size, 0, none⟩) M M) M (fun _ => 0) := by
      refine ⟨w.heap.size, rfl, fun j hj => ?_, fun o => hown3.frozenAt o⟩
      have e := hown3.cellAt j (by rw [Nat.mul_one]; exact hj)
      rw [made_one, List.getElem?_replicate, if_pos (by omega)] at e
      exact e
    have hbb : b ≠ w.heap.size := by omega
    have HQ := hideIt (And.intro H3 (And.intro S3 hb3))
    clear hown3 hgrow3 H3 S3 hb3 h5
    go_wp2
    go_meet
    case rel =>
      obtain ⟨H3, S3, hb3⟩ := HQ.out
      exact ⟨_, H3.put_slots _, S3.blk (fun q hq => by simp [Value.ownBlock] at hq; subst hq; exact far_set (fun z => hbb z.symm)), rfl, (Wr.of_below hb3).set⟩
  case rest =>
  obtain ⟨v, H4, S4, ho, W4⟩ := hcut
  have r4 : wc.cell? ⟨b, 4, none⟩ = some (.int .i64 (s.rows : Int)) := H4.ro
  obtain ⟨g, eg, _⟩ : ∃ g, v = .slice (some ⟨g, 0, none⟩) M M ∧ True := by
    obtain ⟨g, e, _⟩ := S4
    exact ⟨g, e, trivial⟩
  subst eg
  simp [Value.ownBlock] at ho
  subst ho
  have hbb : b ≠ w.heap.size := by omega
  have T4 : RelT wc b nm { s with slots := .slice (some ⟨w.heap.size, 0, none⟩) M M } d M 0 (fun _ => 0) := ⟨H4, HD.out.blk (fun q hq hl => W4.block q hl (fun e => HDB.out (by rw [← e]; exact hq))), S4, Tbl.new M0 _, Nat.zero_le _, HP.out, a0, a1, r1, HV.out⟩
  have HQ := hideIt (And.intro T4 W4)
  clear H4 S4 W4 T4 h5 fz hi_ hz0 hz1 hz2 hM hmax hw1
  go_upto_region 2 with fail
  go_loopg [20] s.rows (fun gg v wr => ∃ (i : Nat) (f : Nat → Nat), i + gg = s.rows ∧ v = .int .i64 (i : Int) ∧ RelT wr b nm { s with slots := .slice (some ⟨w.heap.size, 0, none⟩) M M } d M i f ∧ Wr b w wr)
  case atStart => exact ⟨0, _, by omega, rfl, HQ.out⟩
  case round =>
    obtain ⟨i, f, hi, rfl, T, W⟩ := hrel
    have hbl : b < wr.heap.size := T.at'.lt
    have HT := hideIt T
    have HW := hideIt W
    by_cases hin : i < s.rows
    · have hlt : (i : Int) < (s.rows : Int) := by omega
      have hrow := row_any T.at' T.data a0 a1 r1 (i := i) hin
      have hwi : IntKind.i64.wrap ((i : Int) + 1) = (i : Int) + 1 := by rw [IntKind.wrap_i64]; omega
      have hwi2 : IntKind.i32.wrap ((i : Int) + 1) = (i : Int) + 1 := by rw [IntKind.wrap_i32]; omega
      clear T W
      go_wp2_with fail
      refine hrow.mono ?_
      rintro e w2 ⟨vr, rfl, hvr, _, rfl⟩
      have hb2 : Below wr.heap.size wr wr.drew := below_dr (Below.refl _ _)
      have T2 : RelT wr.drew b nm { s with slots := .slice (some ⟨w.heap.size, 0, none⟩) M M } d M i f := ⟨HT.out.at'.drew, HT.out.data.below hb2, HT.out.slot.below M0 hb2, HT.out.tbl, HT.out.hk, HT.out.pw, HT.out.a0, HT.out.a1, HT.out.r1, HT.out.val⟩
      have hsk := seek_any T2 hvr (fun j hj => HV.out _ (by
        have q := Nat.mul_le_mul_right s.A (show i + 1 ≤ s.rows from hin)
        rw [Nat.add_mul] at q
        have hj : j < s.A := hj
        omega))
      clear hvr hrow
      have HT2 := hideIt T2
      clear T2
      go_wp2_with fail
      refine hsk.mono ?_
      rintro e w3 ⟨hout, hb3⟩
      have hb3' := then_ hb2 hb3
      clear hsk
      rcases hout with ⟨j, hj, hsame, _⟩ | ⟨_, D, hDM, hD0, hD1, rfl⟩
      · exact absurd hsame (HDS.out i j hin hj)
      have hst : hashN (fun j => d (i * s.A + j)) s.A % M = stF d s.A M i := rfl
      rw [hst] at hD0 hD1 ⊢
      have T3 : RelT w3 b nm { s with slots := .slice (some ⟨w.heap.size, 0, none⟩) M M } d M i f := ⟨HT.out.at'.below hb3', HT.out.data.below hb3', HT.out.slot.below M0 hb3', HT.out.tbl, HT.out.hk, HT.out.pw, HT.out.a0, HT.out.a1, HT.out.r1, HT.out.val⟩
      have hTp := (T3.tbl.put (by have := hrM; omega) hDM hD0 hD1).st_congr (st' := stF d s.A M) (fun j hj => by
        show (if j = i then stF d s.A M i else stF d s.A M j) = _
        split
        · rename_i q; rw [q]
        · rfl)
      have hsl5 : w3.cell? ⟨b, 5, none⟩ = some (.slice (some ⟨w.heap.size, 0, none⟩) M M) := T3.at'.sl
      obtain ⟨p, HPp⟩ : ∃ p, Hid ((stF d s.A M i + D) % M = p) := ⟨_, hideIt rfl⟩
      rw [HPp.out] at hTp ⊢
      have hp : p < M := by rw [← HPp.out]; exact Nat.mod_lt _ M0
      have p0 : (0 : Int) ≤ p := by omega
      have p1 : (p : Int) < (M : Int) := by omega
      have hcell : w3.cell? ⟨w.heap.size, p, none⟩ = some (.int .i32 (f p : Int)) ∧ ∀ o, w3.frozen? ⟨w.heap.size, o, none⟩ = false := by
        obtain ⟨g, e, hg, hf⟩ := T3.slot
        simp only [Value.slice.injEq, Option.some.injEq, Addr.mk.injEq] at e
        obtain ⟨⟨rfl, _⟩, _⟩ := e
        exact ⟨hg p hp, hf⟩
      obtain ⟨hcell, fz⟩ := hcell
      have hdg : s.data.ownBlock ≠ some w.heap.size := fun e => by
        obtain ⟨pp, cc, e1, _, hz⟩ := HD.out
        rcases hz with z | ⟨g, off, e2, hz⟩
        · have := Nat.mul_pos (show 0 < s.rows by omega) a0
          omega
        · have hl := World.block_lt_of_cell? _ _ (hz 0 (Nat.mul_pos (show 0 < s.rows by omega) a0))
          rw [e1, e2] at e
          simp [Value.ownBlock] at e
          subst e
          exact absurd hl (by simp)
      have HF := hideIt (And.intro T3 (And.intro hTp (And.intro hb3' hdg)))
      clear T3 hTp hD0 hD1 hb3 hb3' hst hdg
      go_wp2
      go_roundg (s.rows - (i + 1))
      case measure => omega
      case rel =>
        obtain ⟨T3, hTp, hb3', hdg⟩ := HF.out
        refine ⟨i + 1, _, by omega, by go_num, ⟨T3.at'.blk (far_set hbb), T3.data.blk (fun q hq _ => far_set (fun e => hdg (by rw [← e]; exact hq))), ?_, hTp, by show i + 1 ≤ s.rows; omega, T3.pw, T3.a0, T3.a1, T3.r1, T3.val⟩, (HW.out.below hb3').other (Nat.le_refl _)⟩
        have := slot_put (sz := p) (x := i + 1) T3.slot
        exact this
    · have e : i = s.rows := by omega
      have hlt : ¬ ((i : Int) < (s.rows : Int)) := by omega
      clear T W
      go_wp2
      go_end0
      subst e
      exact ⟨rfl, ⟨_, ⟨_, HT.out⟩, rfl⟩, HW.out⟩
end Go.Proofs.Qxb6500880aGreat
