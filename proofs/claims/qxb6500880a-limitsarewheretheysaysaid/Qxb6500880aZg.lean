import Derived.Deep.CutBlock
import Derived.OwnWalk
import Derived.Maps.AppendAt
import Derived.Maps.OwnSet
import Derived.Maps.OwnOps
import Derived.Laws.ResultCell
import Derived.Test.Qxb6500880aZf
set_option linter.unusedVariables false
set_option linter.unusedSimpArgs false
namespace Go.Proofs.Qxb6500880a
open Go.RowKit

theorem own_full {w : World} {base e s n : Nat} {v : Value} {xs : List Value} (h : w.ownsRow base e s v n xs) (hn : 0 < n) : ∃ g c, v = .slice (some ⟨g, 0, none⟩) n c ∧ n ≤ c ∧ base ≤ g ∧ g < w.heap.size ∧ (∀ j, j < n * s → w.cell? ⟨g, j, none⟩ = xs[j]?) ∧ ∀ o, w.frozen? ⟨g, o, none⟩ = false := by
  rcases h.2 with ⟨_, e2⟩ | ⟨g, cap, cur, e1, h1, h2, h3, _⟩
  · omega
  · subst e1
    exact ⟨g, cap, rfl, h3, h1, (h.lt g rfl).2, fun j hj => h.cellAt j hj, fun o => h.frozenAt o⟩
theorem own_nil (w : World) (base e s : Nat) : w.ownsRow base e s (.slice none 0 0) 0 [] := ⟨by simp, .inl ⟨rfl, rfl⟩⟩
theorem own_base {w : World} {b b' e s n : Nat} {v : Value} {xs : List Value} (h : w.ownsRow b e s v n xs) (hb : b' ≤ b) : w.ownsRow b' e s v n xs := by
  refine ⟨h.1, ?_⟩
  rcases h.2 with q | ⟨g, cap, cur, e1, h1, r⟩
  · exact .inl q
  · exact .inr ⟨g, cap, cur, e1, by omega, r⟩
set_option maxRecDepth 20000 in
set_option maxHeartbeats 8000000 in
theorem step_known {w : World} {ρ : Rl} {PL E FL j : Nat} {b : Nat → Bool} (h0 : w.cell? ⟨PL, 0, none⟩ = some (.pointer (some ⟨E, 0, none⟩))) (h3 : w.cell? ⟨E, 3, none⟩ = some (.bool false)) (HR : RuX w ρ) (hj : j < ρ.m) (HB : BoolAt w FL ρ.R b) (hn1 : ρ.n = 1) (hF : b (ρ.F j 0) = true) (hm : ρ.m ≤ 100) (hR : ρ.R ≤ 1000) :
    Calls Try.prog 54 #[.pointer (some ⟨PL, 0, none⟩), .pointer (some ⟨ρ.gj, j * 3, none⟩), .int .u8 0, .slice (some ⟨FL, 0, none⟩) ρ.R ρ.R] w fun e w' => ∃ kv, e = .returned (.agg #[.pointer (some ⟨ρ.gj, j * 3, none⟩), .int .i64 0, .int .u8 0, .int .u8 2, .pointer none, kv, .slice none 0 0, .slice none 0 0]) ∧ w'.ownsRow (w.heap.size + 2) 120 2 kv 1 [.int .i64 (ρ.F j 0 : Int), .int .u32 0] ∧ Below w.heap.size w w' := by
  obtain ⟨i9, hi9, hx0, hx1, hx2⟩ := info_parts info120
  obtain ⟨i3, hi3, hz0, hz1, hz2⟩ := info_parts info3
  have hn0 := HR.n0
  have hFl : FL < w.heap.size := World.block_lt_of_cell? _ _ (HB.c _ (HR.r j 0 hj HR.n0))
  have j1 := (HR.j j hj).2.1
  rw [hn1] at j1
  have hgl : ρ.gj < w.heap.size := World.block_lt_of_cell? _ _ j1
  have hPl : PL < w.heap.size := World.block_lt_of_cell? _ _ h0
  have hEl : E < w.heap.size := World.block_lt_of_cell? _ _ h3
  obtain ⟨a0, a1⟩ := HR.o j hj 0 hn0
  have hfR := HR.r j 0 hj hn0
  have hal : ρ.ga j < w.heap.size := HR.lt (.inr (.inr ⟨j, hj, rfl⟩))
  obtain ⟨x, hx⟩ : ∃ x, ρ.F j 0 = x := ⟨_, rfl⟩
  rw [hx] at a0 hfR hF
  rw [hx]
  clear hn1 hx
  have HQ := hideIt (And.intro HB hF)
  clear HB hF HR
  have bZ := one_alloc w (.cells #[.pointer none, .int .i64 0, .int .u8 0, .int .u8 0, .pointer none, .slice none 0 0, .slice none 0 0, .slice none 0 0] 173)
  have bS := one_alloc (w.alloc (.cells #[.pointer none, .int .i64 0, .int .u8 0, .int .u8 0, .pointer none, .slice none 0 0, .slice none 0 0, .slice none 0 0] 173)) (.cells #[.pointer (some ⟨ρ.gj, j * 3, none⟩), .int .i64 0, .int .u8 0, .int .u8 0, .pointer none, .slice none 0 0, .slice none 0 0, .slice none 0 0] 173)
  have b2 := then_ bZ bS
  have hs2 : ((w.alloc (.cells #[.pointer none, .int .i64 0, .int .u8 0, .int .u8 0, .pointer none, .slice none 0 0, .slice none 0 0, .slice none 0 0] 173)).alloc (.cells #[.pointer (some ⟨ρ.gj, j * 3, none⟩), .int .i64 0, .int .u8 0, .int .u8 0, .pointer none, .slice none 0 0, .slice none 0 0, .slice none 0 0] 173)).heap.size = w.heap.size + 2 := by simp
  have T2 : StB ((w.alloc (.cells #[.pointer none, .int .i64 0, .int .u8 0, .int .u8 0, .pointer none, .slice none 0 0, .slice none 0 0, .slice none 0 0] 173)).alloc (.cells #[.pointer (some ⟨ρ.gj, j * 3, none⟩), .int .i64 0, .int .u8 0, .int .u8 0, .pointer none, .slice none 0 0, .slice none 0 0, .slice none 0 0] 173)) (w.heap.size + 1) (stV (.pointer (some ⟨ρ.gj, j * 3, none⟩)) (.int .u8 0) (.slice none 0 0) (.slice none 0 0)) := by
    refine ⟨fun i hi => ?_, fun o => new_frz (by simp) _ _ _⟩
    rw [new_cell (by simp)]
    rcases (by omega : i = 0 ∨ i = 1 ∨ i = 2 ∨ i = 3 ∨ i = 4 ∨ i = 5 ∨ i = 6 ∨ i = 7) with h | h | h | h | h | h | h | h <;> (subst h; rfl)
  have T0 : StB ((w.alloc (.cells #[.pointer none, .int .i64 0, .int .u8 0, .int .u8 0, .pointer none, .slice none 0 0, .slice none 0 0, .slice none 0 0] 173)).alloc (.cells #[.pointer (some ⟨ρ.gj, j * 3, none⟩), .int .i64 0, .int .u8 0, .int .u8 0, .pointer none, .slice none 0 0, .slice none 0 0, .slice none 0 0] 173)) w.heap.size (stV (.pointer none) (.int .u8 0) (.slice none 0 0) (.slice none 0 0)) := by
    have T : StB (w.alloc (.cells #[.pointer none, .int .i64 0, .int .u8 0, .int .u8 0, .pointer none, .slice none 0 0, .slice none 0 0, .slice none 0 0] 173)) w.heap.size (stV (.pointer none) (.int .u8 0) (.slice none 0 0) (.slice none 0 0)) := by
      refine ⟨fun i hi => ?_, fun o => new_frz rfl _ _ _⟩
      rw [new_cell rfl]
      rcases (by omega : i = 0 ∨ i = 1 ∨ i = 2 ∨ i = 3 ∨ i = 4 ∨ i = 5 ∨ i = 6 ∨ i = 7) with h | h | h | h | h | h | h | h <;> (subst h; rfl)
    exact T.blk (bS.block _ (by simp))
  have l0 := cell_later b2 h0
  have l3 := cell_later b2 h3
  have lj := cell_later b2 j1
  have la0 := cell_later b2 a0
  have la1 := cell_later b2 a1
  have hs2' : w.heap.size < ((w.alloc (.cells #[.pointer none, .int .i64 0, .int .u8 0, .int .u8 0, .pointer none, .slice none 0 0, .slice none 0 0, .slice none 0 0] 173)).alloc (.cells #[.pointer (some ⟨ρ.gj, j * 3, none⟩), .int .i64 0, .int .u8 0, .int .u8 0, .pointer none, .slice none 0 0, .slice none 0 0, .slice none 0 0] 173)).heap.size := by omega
  have HT2 := hideIt (And.intro T2 (And.intro T0 (And.intro b2 hs2)))
  clear bZ bS b2 hs2 T2 T0 h0 h3 j1 a0 a1
  go_enter Try.func54, Try.ntmps54
  go_upto_region 3 with fail
  generalize ((w.alloc (.cells #[.pointer none, .int .i64 0, .int .u8 0, .int .u8 0, .pointer none, .slice none 0 0, .slice none 0 0, .slice none 0 0] 173)).alloc (.cells #[.pointer (some ⟨ρ.gj, j * 3, none⟩), .int .i64 0, .int .u8 0, .int .u8 0, .pointer none, .slice none 0 0, .slice none 0 0, .slice none 0 0] 173)) = w2 at *
  go_wp2_with fail
  go_loopg [34, 10] 1 (fun gg v v10 wr => ∃ i : Nat, i + gg = 1 ∧ v = .int .i64 (i : Int) ∧ (i = 0 → v10 = .slice none 0 0 ∧ wr = w2) ∧ (i = 1 → ∃ kv, wr.ownsRow (w.heap.size + 2) 3 1 v10 1 [.int .i64 0] ∧ wr.ownsRow (w.heap.size + 2) 120 2 kv 1 [.int .i64 (x : Int), .int .u32 0] ∧ StB wr (w.heap.size + 1) (stV (.pointer (some ⟨ρ.gj, j * 3, none⟩)) (.int .u8 0) kv (.slice none 0 0)) ∧ StB wr w.heap.size (stV (.pointer none) (.int .u8 0) (.slice none 0 0) (.slice none 0 0)) ∧ Below (w.heap.size + 1) w2 wr))
  case atStart => exact ⟨0, by omega, rfl, fun _ => ⟨rfl, rfl⟩, fun h => by omega⟩
  case round =>
    obtain ⟨i, hi, rfl, hI0, hI1⟩ := hrel
    obtain ⟨T2, T0, b2, hs2⟩ := HT2.out
    obtain ⟨HB, hF⟩ := HQ.out
    by_cases hin : i < 1
    · have hi0 : i = 0 := by omega
      subst hi0
      obtain ⟨rfl, ew⟩ := hI0 rfl
      replace ew := ew.symm
      subst ew
      clear hI0 hI1
      have bA := one_alloc w2 (.cells #[.int .i64 (x : Int), .int .u32 0] 120)
      have hkn := known_any (HB.blk ((then_ b2 bA).block FL hFl)) hfR hR
      rw [hF] at hkn
      have HY := hideIt (And.intro T2 (And.intro T0 (And.intro b2 (And.intro hs2 bA))))
      clear T2 T0 b2 HB hF bA hs2
      go_wp2_with fail
      refine hkn.mono ?_
      rintro e w5 ⟨rfl, hb5⟩
      obtain ⟨T2, T0, b2, hs2, bA⟩ := HY.out
      have q0 : (w2.alloc (.cells #[.int .i64 (x : Int), .int .u32 0] 120)).cell? ⟨w2.heap.size, 0, none⟩ = some (.int .i64 (x : Int)) := by simp
      have q1 : (w2.alloc (.cells #[.int .i64 (x : Int), .int .u32 0] 120)).cell? ⟨w2.heap.size, 1, none⟩ = some (.int .u32 0) := by simp
      have q0 := cell_later hb5 q0
      have q1 := cell_later hb5 q1
      have b5 := then_ bA hb5
      have hs5 : w2.heap.size < w5.heap.size := by have := hb5.size; simp at this; omega
      have T5 : StB w5 (w.heap.size + 1) _ := T2.blk (b5.block _ (by omega))
      have T50 : StB w5 w.heap.size _ := T0.blk (b5.block _ (by omega))
      have hw25 : w.heap.size + 2 ≤ w5.heap.size := by omega
      have bN := one_alloc w5 (.cells #[.int .i64 0] 3)
      have HZ5 := hideIt (And.intro T5 (And.intro T50 (And.intro b5 (And.intro hs2 bN))))
      clear T2 T0 b2 bA hb5 b5 T5 T50 hkn HY bN hs2 l0 l3 lj la0 la1
      go_wp2_with (first | (at_builtin; refine wpList_append_own_at _ rfl (.tmp 42) (.tmp 44) 86 rfl (w.heap.size + 2) 3 i3 (.int .i64 0) 1 8 Try.underlying86 hi3 hz0 hz1 hz2 rfl (by decide) (.slice none 0 0) 0 [] rfl (own_nil _ _ _ _) ⟨w5.heap.size, 0, none⟩ 1 1 [.int .i64 0] rfl rfl (cell_new1 _ _ _) (by simp [Value.oneCell']) (by unfold maxLen; omega) (by omega) (by simp <;> omega) ?_) | go_in)
      intro v' w6 hown' hgrow hiff hblk
      obtain ⟨T5, T50, b5, hs2, bN⟩ := HZ5.out
      have b6 : Below w5.heap.size w5 w6 := ⟨hgrow.os.trans bN.os, hgrow.tape.trans bN.tape, hgrow.output.trans bN.output, Nat.le_trans bN.size hgrow.size, fun q hq => (hgrow.block q (by have := bN.size; omega) (by simp [Value.ownBlock])).trans (bN.block q hq)⟩
      obtain ⟨pc, cc, rfl⟩ := own_shape hown'
      have T6 : StB w6 (w.heap.size + 1) _ := T5.blk (b6.block _ (by omega))
      have T60 : StB w6 w.heap.size _ := T50.blk (b6.block _ (by omega))
      have r0 := cell_later b6 q0
      have r1 := cell_later b6 q1
      have hs6 := b6.size
      have s5 : w6.cell? ⟨w.heap.size + 1, 5, none⟩ = some (.slice none 0 0) := T6.c 5 (by omega)
      have sf := T6.fz
      have bM := one_alloc w6 (.cells #[.int .i64 (x : Int), .int .u32 0] 120)
      have HZ6 := hideIt (And.intro T6 (And.intro T60 (And.intro (then_ b5 b6) (And.intro hs2 (And.intro bM hown')))))
      clear hown' hgrow hiff hblk T5 T50 b5 bN b6 T6 T60 q0 q1 bM hs2 HZ5
      go_wp2_with (first | (at_builtin; refine wpList_append_own_at _ rfl (.tmp 47) (.tmp 49) 90 rfl (w.heap.size + 2) 120 i9 (.agg #[.int .i64 0, .int .u32 0]) 2 16 Try.underlying90 hi9 hx0 hx1 hx2 rfl (by decide) (.slice none 0 0) 0 [] rfl (own_nil _ _ _ _) ⟨w6.heap.size, 0, none⟩ 1 1 [.int .i64 (x : Int), .int .u32 0] rfl rfl (cell_new_2 _ _ _ _) (by simp [Value.oneCell']) (by unfold maxLen; omega) (by omega) (by simp <;> omega) ?_) | go_in)
      intro v' w7 hown' hgrow hiff hblk
      obtain ⟨T6, T60, b56, hs2, bM, ownc⟩ := HZ6.out
      have b7 : Below w6.heap.size w6 w7 := ⟨hgrow.os.trans bM.os, hgrow.tape.trans bM.tape, hgrow.output.trans bM.output, Nat.le_trans bM.size hgrow.size, fun q hq => (hgrow.block q (by have := bM.size; omega) (by simp [Value.ownBlock])).trans (bM.block q hq)⟩
      obtain ⟨pk, ck, rfl⟩ := own_shape hown'
      have T7 : StB w7 (w.heap.size + 1) _ := T6.blk (b7.block _ (by omega))
      have T70 : StB w7 w.heap.size _ := T60.blk (b7.block _ (by omega))
      have ownc7 := own_one ownc (fun q hq => b7.block q (ownc.lt q hq).2)
      have s7 : w7.cell? ⟨w.heap.size + 1, 5, none⟩ = some (.slice none 0 0) := T7.c 5 (by omega)
      have sf7 := T7.fz
      have HZ7 := hideIt (And.intro T7 (And.intro T70 (And.intro (then_ b56 b7) (And.intro hs2 (And.intro ownc7 hown')))))
      clear hown' hgrow hiff hblk T6 T60 b56 hs2 bM ownc b7 T7 T70 ownc7 s5 sf r0 r1 HZ6
      go_wp2
      go_roundg 0
      case measure => omega
      case rel =>
        obtain ⟨T7, T70, b7, hs2, ownc, ownk⟩ := HZ7.out
        refine ⟨1, by omega, by go_num, fun h => by omega, fun _ => ⟨.slice pk 1 ck, own_one ownc (fun q hq => far_set (fun e => by have := (ownc.lt q hq).1; omega)), own_one ownk (fun q hq => far_set (fun e => by have := (ownk.lt q hq).1; omega)), ?_, T70.blk (far_set (by omega)), below_cell (b7.mono (by omega)) (Nat.le_refl _) _⟩⟩
        have := T7.put (k := 5) (by omega) (.slice pk 1 ck)
        rw [stV_ky] at this
        exact this
    · have ein : i = 1 := by omega
      obtain ⟨kv, ownc, ownk, T, T0', bw⟩ := hI1 ein
      have i1 : ¬ ((i : Int) < 1) := by omega
      clear ein
      obtain ⟨gc, cc, rfl, hcc, hgc, hgcl, hcell, hcf⟩ := own_full ownc (by omega)
      obtain ⟨gq, ck, rfl, hck, hgq, hgkl, hkcell, hkf⟩ := own_full ownk (by omega)
      have c0 := hcell 0 (by omega)
      change wr.cell? ⟨gc, 0, none⟩ = some (.int .i64 0) at c0
      have hs3 := bw.size
      have bl : ∀ q o v, w2.cell? ⟨q, o, none⟩ = some v → q < w.heap.size → wr.cell? ⟨q, o, none⟩ = some v := fun q o v h1 h2 => (World.cell?_of_block (a := ⟨q, o, none⟩) (bw.block q (by omega))).trans h1
      have k0 := bl _ _ _ l0 hPl
      have k3 := bl _ _ _ l3 hEl
      have kj := bl _ _ _ lj hgl
      have ka0 := bl _ _ _ la0 hal
      have ka1 := bl _ _ _ la1 hal
      have c3 : wr.cell? ⟨w.heap.size + 1, 3, none⟩ = some (.int .u8 0) := T.c 3 (by omega)
      have tf := T.fz
      have hw2 : w.heap.size + 2 ≤ wr.heap.size := by omega
      have HY := hideIt (And.intro T (And.intro T0' (And.intro ownk (And.intro bw (And.intro b2 hs2)))))
      clear T2 T0 b2 hs2 HB hF ownc ownk T T0' bw hcell hkcell hcf hkf bl l0 l3 lj la0 la1 hI0 hI1 hi hin hs3
      have HE1 := hideIt (show True from trivial)
      go_upto_region 21 with fail
      obtain ⟨T, T0', ownk, bw, b2, hs2⟩ := HY.out
      have T9 : StB (wr.setCell ⟨w.heap.size + 1, 3, none⟩ (.int .u8 2)) (w.heap.size + 1) (stV (.pointer (some ⟨ρ.gj, j * 3, none⟩)) (.int .u8 2) (.slice (some ⟨gq, 0, none⟩) 1 ck) (.slice none 0 0)) := by
        have := T.put (k := 3) (by omega) (.int .u8 2)
        rw [stV_how] at this
        exact this
      have T90 : StB (wr.setCell ⟨w.heap.size + 1, 3, none⟩ (.int .u8 2)) w.heap.size _ := T0'.blk (far_set (by omega))
      have ownk9 : (wr.setCell ⟨w.heap.size + 1, 3, none⟩ (.int .u8 2)).ownsRow (w.heap.size + 2) 120 2 (.slice (some ⟨gq, 0, none⟩) 1 ck) 1 [.int .i64 (x : Int), .int .u32 0] := own_one ownk (fun q hq => far_set (fun e => by have := (ownk.lt q hq).1; omega))
      have b9 : Below w.heap.size w (wr.setCell ⟨w.heap.size + 1, 3, none⟩ (.int .u8 2)) := b2.trans ((below_cell bw (Nat.le_refl _) _).mono (by omega))
      have hs9 : w.heap.size + 2 ≤ (wr.setCell ⟨w.heap.size + 1, 3, none⟩ (.int .u8 2)).heap.size := by simpa using hw2
      have zz : ∀ q o v, wr.cell? ⟨q, o, none⟩ = some v → q ≠ w.heap.size + 1 → (wr.setCell ⟨w.heap.size + 1, 3, none⟩ (.int .u8 2)).cell? ⟨q, o, none⟩ = some v := fun q o v h1 h2 => (World.cell?_of_block (a := ⟨q, o, none⟩) (far_set h2)).trans h1
      have mj := zz _ _ _ kj (by omega)
      have ma0 := zz _ _ _ ka0 (by omega)
      have ma1 := zz _ _ _ ka1 (by omega)
      have mc := zz _ _ _ c0 (by omega)
      have HZ := hideIt (And.intro T9 (And.intro T90 (And.intro ownk9 (And.intro b9 hs9))))
      clear T T0' ownk bw b2 hs2 T9 T90 ownk9 b9 zz k0 k3 kj ka0 ka1 c0 c3 tf HY
      generalize wr.setCell ⟨w.heap.size + 1, 3, none⟩ (.int .u8 2) = w9 at *
      generalize hvc : Value.slice (some ⟨gc, 0, none⟩) 1 cc = vc
      have HVC := hideIt hvc
      clear hvc
      go_wp2_with fail
      go_loopg [106, 10] 1 (fun gg v v10 wx => ∃ i : Nat, i + gg = 1 ∧ v = .int .i64 (i : Int) ∧ (i = 0 → v10 = .slice (some ⟨gc, 0, none⟩) 1 cc ∧ wx = w9) ∧ (i = 1 → Below w9.heap.size w9 wx))
      case atStart => exact ⟨0, by omega, rfl, fun _ => ⟨HVC.out.symm, rfl⟩, fun h => by omega⟩
      case round =>
        obtain ⟨i, hi, rfl, hI0, hI1⟩ := hrel
        by_cases hin : i < 1
        · have hi0 : i = 0 := by omega
          subst hi0
          obtain ⟨rfl, ew⟩ := hI0 rfl
          replace ew := ew.symm
          subst ew
          clear hI0 hI1
          have bA := one_alloc w9 (.cells #[.int .i64 (x : Int), .int .u32 0] 120)
          have mc1 := cell_later bA mc
          have HA := hideIt bA
          have hcc1 : (1 : Int) ≤ (cc : Int) := by omega
          clear bA
          go_wp2
          · go_roundg 0
            case measure => omega
            case rel => exact ⟨1, by omega, by go_num, fun h => by omega, fun _ => HA.out⟩
          · go_roundg 0
            case measure => omega
            case rel => exact ⟨1, by omega, by go_num, fun h => by omega, fun _ => HA.out⟩
        · have ein : i = 1 := by omega
          subst ein
          have bx := hI1 rfl
          obtain ⟨T9, T90, ownk9, b9, hs9'⟩ := HZ.out
          have T : StB wr (w.heap.size + 1) _ := T9.blk (bx.block _ (by omega))
          have T0 : StB wr w.heap.size _ := T90.blk (bx.block _ (by omega))
          have own : wr.ownsRow (w.heap.size + 2) 120 2 (.slice (some ⟨gq, 0, none⟩) 1 ck) 1 [.int .i64 (x : Int), .int .u32 0] := own_one ownk9 (fun q hq => bx.block q (ownk9.lt q hq).2)
          have b9 := then_ b9 bx
          have s0 : wr.cell? ⟨w.heap.size + 1, 0, none⟩ = some (.pointer (some ⟨ρ.gj, j * 3, none⟩)) := T.c 0 (by omega)
          have s1 : wr.cell? ⟨w.heap.size + 1, 1, none⟩ = some (.int .i64 0) := T.c 1 (by omega)
          have s2 : wr.cell? ⟨w.heap.size + 1, 2, none⟩ = some (.int .u8 0) := T.c 2 (by omega)
          have s3 : wr.cell? ⟨w.heap.size + 1, 3, none⟩ = some (.int .u8 2) := T.c 3 (by omega)
          have s4 : wr.cell? ⟨w.heap.size + 1, 4, none⟩ = some (.pointer none) := T.c 4 (by omega)
          have s5 : wr.cell? ⟨w.heap.size + 1, 5, none⟩ = some (.slice (some ⟨gq, 0, none⟩) 1 ck) := T.c 5 (by omega)
          have s6 : wr.cell? ⟨w.heap.size + 1, 6, none⟩ = some (.slice none 0 0) := T.c 6 (by omega)
          have s7 : wr.cell? ⟨w.heap.size + 1, 7, none⟩ = some (.slice none 0 0) := T.c 7 (by omega)
          have z0 : wr.cell? ⟨w.heap.size, 0, none⟩ = some (.pointer none) := T0.c 0 (by omega)
          have z1 : wr.cell? ⟨w.heap.size, 1, none⟩ = some (.int .i64 0) := T0.c 1 (by omega)
          have z2 : wr.cell? ⟨w.heap.size, 2, none⟩ = some (.int .u8 0) := T0.c 2 (by omega)
          have z3 : wr.cell? ⟨w.heap.size, 3, none⟩ = some (.int .u8 0) := T0.c 3 (by omega)
          have z4 : wr.cell? ⟨w.heap.size, 4, none⟩ = some (.pointer none) := T0.c 4 (by omega)
          have z5 : wr.cell? ⟨w.heap.size, 5, none⟩ = some (.slice none 0 0) := T0.c 5 (by omega)
          have z6 : wr.cell? ⟨w.heap.size, 6, none⟩ = some (.slice none 0 0) := T0.c 6 (by omega)
          have z7 : wr.cell? ⟨w.heap.size, 7, none⟩ = some (.slice none 0 0) := T0.c 7 (by omega)
          have tf := T.fz
          have uf := T0.fz
          have HY := hideIt (And.intro own b9)
          have hav : gq ≠ w.heap.size := by omega
          have hav' : gq ≠ w.heap.size + 1 := by omega
          clear T T0 T9 T90 ownk9 bx own b9 hI0 hI1 hi hin mc ma0 ma1 mj
          go_wp2
          refine bodyPost_ret (v := .agg #[.pointer (some ⟨ρ.gj, j * 3, none⟩), .int .i64 0, .int .u8 0, .int .u8 2, .pointer none, .slice (some ⟨gq, 0, none⟩) 1 ck, .slice none 0 0, .slice none 0 0]) ?_ rfl ?_
          · rw [results_one_cell rfl]
            go_simp
          · obtain ⟨own, b9⟩ := HY.out
            exact ⟨_, rfl, own_one own (fun q hq => have HH : q ≠ w.heap.size := (fun e => by have := (own.lt q hq).1; omega); (far_set HH).trans ((far_set HH).trans ((far_set HH).trans ((far_set HH).trans ((far_set HH).trans ((far_set HH).trans ((far_set HH).trans (far_set HH)))))))), below_cell (below_cell (below_cell (below_cell (below_cell (below_cell (below_cell (below_cell (b9) (Nat.le_refl _) _) (Nat.le_refl _) _) (Nat.le_refl _) _) (Nat.le_refl _) _) (Nat.le_refl _) _) (Nat.le_refl _) _) (Nat.le_refl _) _) (Nat.le_refl _) _⟩
end Go.Proofs.Qxb6500880a
