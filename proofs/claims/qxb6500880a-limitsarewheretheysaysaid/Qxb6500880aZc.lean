import Derived.Deep.CutBlock
import Derived.OwnWalk
import Derived.Maps.AppendAt
import Derived.Maps.OwnSet
import Derived.Maps.OwnOps
import Derived.Laws.ResultCell
import Derived.Test.Qxb6500880aZb
set_option linter.unusedVariables false
set_option linter.unusedSimpArgs false
namespace Go.Proofs.Qxb6500880a
open Go.RowKit

theorem fl_one (w : World) : (convert 3 209 (.int .i64 1)).run Try.prog w = .ok (.float .f64 4607182418800017408) w := by kernel_rfl
set_option maxRecDepth 20000 in
set_option maxHeartbeats 8000000 in
theorem estimate_any {S : Nat → Prop} {w : World} {rb gj o FL R n : Nat} {nm : ByteArray} {s : RelS} {av : Value} {f : Nat → Nat} {b : Nat → Bool} {kn : Bool} (H : RelAt w rb nm s) (hr : s.rows = 1) (hA1 : kn = true → n = 1 ∧ s.A = 1 ∧ SymZ w s.data 1 ∧ s.data.ownBlock ≠ some rb) (hS : SprOk S w s) (hSl : ∀ q, S q → q < w.heap.size) (hSr : S rb) (j0 : w.cell? ⟨gj, o, none⟩ = some (.pointer (some ⟨rb, 0, none⟩))) (j1 : w.cell? ⟨gj, o + 1, none⟩ = some av) (HO : OpsAt w av n f) (HB : BoolAt w FL R b) (hf : ∀ t, t < n → f t < R ∧ b (f t) = kn) (hne : gj ≠ rb ∧ FL ≠ rb ∧ av.ownBlock ≠ some rb) (hn0 : 0 < n) (hn : n ≤ 100) (hR : R ≤ 1000) :
    Calls Try.prog 82 #[.pointer (some ⟨gj, o, none⟩), .slice (some ⟨FL, 0, none⟩) R R] w fun e w' => e = .returned (.float .f64 (if kn then 13830554455654793216 else 4607182418800017408)) ∧ ∃ sp sa, RelAt w' rb nm { s with spr := sp, sat := sa } ∧ SprOk S w' { s with spr := sp, sat := sa } ∧ Wr rb w w' := by
  have hfl := fl_one
  obtain ⟨hn1, hn2, hn3⟩ := hne
  obtain ⟨pa, ca, ea, hca, HO'⟩ := HO
  subst ea
  have h4 := H.ro
  rw [hr] at h4
  have h4 : w.cell? ⟨rb, 4, none⟩ = some (.int .i64 1) := h4
  have hl := H.lt
  have hjl : gj < w.heap.size := World.block_lt_of_cell? _ _ j0
  have hFl : FL < w.heap.size := World.block_lt_of_cell? _ _ (HB.c _ (hf 0 hn0).1)
  have HQ := hideIt (And.intro H (And.intro hS (And.intro HO' (And.intro HB (And.intro hf (And.intro hn3 (And.intro hA1 (And.intro hr j0))))))))
  clear H hS HO' HB hf hn3 hA1 hr
  go_enter Try.func82, Try.ntmps82
  go_wp2_with fail
  go_loopg [23, 6, 5] n (fun gg v v6 v5 wr => ∃ i : Nat, i + gg = n ∧ v = .int .i64 (i : Int) ∧ v5 = .float .f64 4607182418800017408 ∧ v6 = .int .i64 ((if kn then 0 else i : Nat) : Int) ∧ ∃ sp sa, RelAt wr rb nm { s with spr := sp, sat := sa } ∧ SprOk S wr { s with spr := sp, sat := sa } ∧ Wr rb w wr)
  case atStart =>
    obtain ⟨H, hS, _⟩ := HQ.out
    exact ⟨0, by omega, rfl, rfl, by cases kn <;> rfl, s.spr, s.sat, H, hS, Wr.refl _ _⟩
  case round =>
    obtain ⟨i, hi, rfl, rfl, rfl, sp, sa, Hr, hSr', W⟩ := hrel
    obtain ⟨fc, hfc⟩ : ∃ fc : Nat, (if kn = true then 0 else i) = fc := ⟨_, rfl⟩
    rw [hfc]
    have HFC := hideIt hfc
    clear hfc
    obtain ⟨H, hS, HO', HB, hf, hn3, hA1, hr, j0'⟩ := HQ.out
    by_cases hin : i < n
    · have i0 : (0 : Int) ≤ i := by omega
      have i1 : (i : Int) < (n : Int) := by omega
      obtain ⟨ga, rfl, a0, a1, _⟩ : ∃ ga, pa = some ⟨ga, 0, none⟩ ∧ w.cell? ⟨ga, i * 2, none⟩ = some (.int .i64 (f i : Int)) ∧ w.cell? ⟨ga, i * 2 + 1, none⟩ = some (.int .u32 0) ∧ ∀ o, w.frozen? ⟨ga, o, none⟩ = false := by
        rcases HO' with h | ⟨ga, e, h⟩
        · omega
        · exact ⟨ga, e, h i hin⟩
      have hgr : ga ≠ rb := fun e => hn3 (by rw [e]; rfl)
      have hgl : ga < w.heap.size := World.block_lt_of_cell? _ _ a0
      obtain ⟨hfR, hbk⟩ := hf i hin
      obtain ⟨r, hrr⟩ : ∃ r, f i = r := ⟨_, rfl⟩
      rw [hrr] at a0 hfR hbk
      have ka := W.block ga hgl hgr
      have d0 := (World.cell?_of_block (a := ⟨ga, i * 2, none⟩) ka).trans a0
      have d1 := (World.cell?_of_block (a := ⟨ga, i * 2 + 1, none⟩) ka).trans a1
      have bA := one_alloc wr (.cells #[.int .i64 (r : Int), .int .u32 0] 120)
      have hsw := W.size
      have hkn := known_any ((HB.blk (W.block FL hFl hn2)).blk (bA.block FL (by omega))) hfR hR
      rw [hbk] at hkn
      have HX := hideIt (And.intro Hr (And.intro hSr' (And.intro W (And.intro bA (And.intro hA1 hr)))))
      clear H hS HO' HB hf hn3 hA1 hr a0 a1 ka bA Hr hSr' W hrr hbk j0'
      go_wp2_with fail
      refine hkn.mono ?_
      rintro e w5 ⟨rfl, hb5⟩
      obtain ⟨Hr, hSr', W, bA, hA1, hr⟩ := HX.out
      have b5 := then_ bA hb5
      clear hkn d0 d1
      cases kn
      · have HY := hideIt (And.intro (Hr.below b5) (And.intro (hSr'.ws (Ws.of_below b5)) (W.below b5)))
        clear Hr hSr' W bA hA1 hr b5 hb5 HX
        have hfc := HFC.out
        simp only [Bool.false_eq_true, if_false] at hfc
        subst hfc
        go_wp2
        go_roundg (n - (i + 1))
        case measure => omega
        case rel =>
          obtain ⟨x1, x2, x3⟩ := HY.out
          exact ⟨i + 1, by omega, by go_num, rfl, by (show _ = Value.int .i64 ((i + 1 : Nat) : Int)); go_num, sp, sa, x1, x2, x3⟩
      · obtain ⟨hn1', hA, hd, hdr⟩ := hA1 rfl
        have hi0 : i = 0 := by omega
        subst hi0
        have HN1 := hideIt hn1'
        clear hn1'
        have H5 := Hr.below b5
        have W5 := W.below b5
        have hs5 := W5.size
        have hsp := spread_any H5 hA hr ((hd.wr hdr W).below b5) hdr (hSr'.ws (Ws.of_below b5)) (fun q hq => Nat.lt_of_lt_of_le (hSl q hq) hs5) hSr
        have k0 := (World.cell?_of_block (a := ⟨gj, o, none⟩) (W5.block gj hjl hn1)).trans j0
        have HY := hideIt W5
        clear Hr hSr' W bA hA1 b5 hb5 HX H5 W5 hd hdr
        have hfc := HFC.out
        simp only [if_true] at hfc
        subst hfc
        go_wp2_with fail
        refine hsp.mono ?_
        rintro e w6 ⟨rfl, sp', sa', x1, x2, x3⟩
        have HZ := hideIt (And.intro x1 (And.intro x2 x3))
        clear x1 x2 x3 hsp k0
        go_wp2
        go_roundg (n - 1)
        case measure => have := HN1.out; omega
        case rel =>
          obtain ⟨x1, x2, x3⟩ := HZ.out
          exact ⟨1, by have := HN1.out; omega, by go_num, rfl, rfl, sp', sa', x1, x2, HY.out.trans x3⟩
    · have e : i = n := by omega
      subst e
      have HX := hideIt (And.intro Hr (And.intro hSr' W))
      clear H hS HO' HB hf hn3 hA1 hr Hr hSr' W j0'
      cases kn
      · have hfc := HFC.out
        simp only [Bool.false_eq_true, if_false] at hfc
        subst hfc
        have e1 : ((i : Int) == 0) = false := by simp; omega
        go_wp2
        go_ret
        obtain ⟨x1, x2, x3⟩ := HX.out
        exact ⟨rfl, sp, sa, x1, x2, x3⟩
      · have hfc := HFC.out
        simp only [if_true] at hfc
        subst hfc
        go_wp2
        go_ret
        obtain ⟨x1, x2, x3⟩ := HX.out
        exact ⟨rfl, sp, sa, x1, x2, x3⟩
end Go.Proofs.Qxb6500880a
