import Derived.Deep.CutBlock
import Derived.OwnWalk
import Derived.Maps.AppendAt
import Derived.Maps.OwnSet
import Derived.Maps.OwnOps
import Derived.Laws.ResultCell
import Derived.Test.Qxb6500880aGreatYa
import Derived.Test.Qxb6500880aGreatIb
import Derived.Test.Qxb6500880aGreatV
set_option linter.unusedVariables false
set_option linter.unusedSimpArgs false
namespace Go.Proofs.Qxb6500880aGreat
open Go.RowKit

theorem cell_new_2 (w : World) (a0 a1 : Value) (ty : TypeId) : ∀ j u, ([a0, a1] : List Value)[j]? = some u → (w.alloc (.cells #[a0, a1] ty)).cell? ((⟨w.heap.size, 0, none⟩ : Addr).add j) = some u := by
  intro j u h
  match j, h with
  | 0, h => simp at h; subst h; simp [Addr.add]
  | 1, h => simp at h; subst h; simp [Addr.add]
  | j + 2, h => simp at h
theorem cell_new_4 (w : World) (a0 a1 a2 a3 : Value) (ty : TypeId) : ∀ j u, ([a0, a1, a2, a3] : List Value)[j]? = some u → (w.alloc (.cells #[a0, a1, a2, a3] ty)).cell? ((⟨w.heap.size, 0, none⟩ : Addr).add j) = some u := by
  intro j u h
  match j, h with
  | 0, h => simp at h; subst h; simp [Addr.add]
  | 1, h => simp at h; subst h; simp [Addr.add]
  | 2, h => simp at h; subst h; simp [Addr.add]
  | 3, h => simp at h; subst h; simp [Addr.add]
  | j + 4, h => simp at h
theorem cell_new_8 (w : World) (a0 a1 a2 a3 a4 a5 a6 a7 : Value) (ty : TypeId) : ∀ j u, ([a0, a1, a2, a3, a4, a5, a6, a7] : List Value)[j]? = some u → (w.alloc (.cells #[a0, a1, a2, a3, a4, a5, a6, a7] ty)).cell? ((⟨w.heap.size, 0, none⟩ : Addr).add j) = some u := by
  intro j u h
  match j, h with
  | 0, h => simp at h; subst h; simp [Addr.add]
  | 1, h => simp at h; subst h; simp [Addr.add]
  | 2, h => simp at h; subst h; simp [Addr.add]
  | 3, h => simp at h; subst h; simp [Addr.add]
  | 4, h => simp at h; subst h; simp [Addr.add]
  | 5, h => simp at h; subst h; simp [Addr.add]
  | 6, h => simp at h; subst h; simp [Addr.add]
  | 7, h => simp at h; subst h; simp [Addr.add]
  | j + 8, h => simp at h
theorem info223 : (Tryz.prog.info? 223).map (fun i => (i.zero, i.size, i.bytes)) = some (some (.agg #[.int .i64 0, .bool false, .int .i64 0, .int .u32 0]), 4, 32) := by kernel_rfl
theorem info191 : (Tryz.prog.info? 191).map (fun i => (i.zero, i.size, i.bytes)) = some (some (.agg #[.pointer none, .int .i64 0, .int .u8 0, .int .u8 0, .pointer none, .slice none 0 0, .slice none 0 0, .slice none 0 0]), 8, 104) := by kernel_rfl
/-- The actions of a step that binds all its columns. -/
def actL (f : Nat → Nat) : Nat → List Value
  | 0 => []
  | i + 1 => actL f i ++ [.int .i64 (i : Int), .bool true, .int .i64 (f i : Int), .int .u32 0]
/-- A step under construction. -/
structure StB (w : World) (a : Nat) (v : Nat → Value) : Prop where
  c : ∀ i, i < 8 → w.cell? ⟨a, i, none⟩ = some (v i)
  fz : ∀ o, w.frozen? ⟨a, o, none⟩ = false
theorem StB.blk {w w' : World} {a : Nat} {v : Nat → Value} (h : StB w a v) (e : w'.heap[a]? = w.heap[a]?) : StB w' a v :=
  ⟨fun i hi => (World.cell?_of_block (a := ⟨a, i, none⟩) e).trans (h.c i hi), fun o => (World.frozen?_of_block (a := ⟨a, o, none⟩) e).trans (h.fz o)⟩
theorem StB.put {w : World} {a : Nat} {v : Nat → Value} (h : StB w a v) {k : Nat} (hk : k < 8) (x : Value) : StB (w.setCell ⟨a, k, none⟩ x) a (updV v k x) := by
  refine ⟨fun i hi => ?_, fun o => (World.frozen?_setCell _ _ _ _).trans (h.fz o)⟩
  unfold updV
  by_cases q : i = k
  · subst q
    rw [if_pos rfl]
    exact World.cell?_setCell_same _ _ _ (h.c i hi)
  · rw [if_neg q, World.cell?_setCell_other _ _ _ _ (by simp <;> omega)]
    exact h.c i hi
/-- A step's cells. -/
def stV (p how ky ac : Value) : Nat → Value
  | 0 => p
  | 1 => .int .i64 0
  | 2 => .int .u8 0
  | 3 => how
  | 4 => .pointer none
  | 5 => ky
  | 6 => ac
  | _ => .slice none 0 0
theorem stV_ac (p how ky ac ac' : Value) : updV (stV p how ky ac) 6 ac' = stV p how ky ac' := by
  funext i
  unfold updV
  by_cases h : i = 6
  · subst h; rfl
  · rw [if_neg h]
    unfold stV
    split <;> first | rfl | omega
theorem stV_ky (p how ky ac ky' : Value) : updV (stV p how ky ac) 5 ky' = stV p how ky' ac := by
  funext i
  unfold updV
  by_cases h : i = 5
  · subst h; rfl
  · rw [if_neg h]
    unfold stV
    split <;> first | rfl | omega
theorem stV_how (p how ky ac how' : Value) : updV (stV p how ky ac) 3 how' = stV p how' ky ac := by
  funext i
  unfold updV
  by_cases h : i = 3
  · subst h; rfl
  · rw [if_neg h]
    unfold stV
    split <;> first | rfl | omega
set_option maxRecDepth 20000 in
set_option maxHeartbeats 8000000 in
theorem step_free {w : World} {PL E FL gj ao rq ga n ca R : Nat} {f : Nat → Nat} {b : Nat → Bool} (h0 : w.cell? ⟨PL, 0, none⟩ = some (.pointer (some ⟨E, 0, none⟩))) (h3 : w.cell? ⟨E, 3, none⟩ = some (.bool false)) (HR : AtX w gj ao rq ga n ca f) (HB : BoolAt w FL R b) (hF : ∀ t, t < n → b (f t) = false) (hi : ∀ t t', t < n → t' < n → f t = f t' → t = t') (hfR' : ∀ t, t < n → f t < R) (hFL : FL ≠ PL ∧ FL ≠ E ∧ FL ≠ gj ∧ FL ≠ ga) (hn : n ≤ 100) (hR : R ≤ 1000) :
    Calls Tryz.prog 60 #[.pointer (some ⟨PL, 0, none⟩), .pointer (some ⟨gj, ao, none⟩), .int .u8 0, .slice (some ⟨FL, 0, none⟩) R R] w fun e w' => ∃ av, e = .returned (.agg #[.pointer (some ⟨gj, ao, none⟩), .int .i64 0, .int .u8 0, .int .u8 0, .pointer none, .slice none 0 0, av, .slice none 0 0]) ∧ w'.ownsRow (w.heap.size + 2) 223 4 av n (actL f n) ∧ BoolAt w' FL R (fillF b f n) ∧ Wr FL w w' := by
  obtain ⟨i9, hi9, hx0, hx1, hx2⟩ := info_parts info223
  have hFl : FL < w.heap.size := World.block_lt_of_cell? _ _ (HB.c _ (hfR' 0 HR.n0))
  obtain ⟨hF1, hF2, hF3, hF4⟩ := hFL
  have j1 := HR.a1
  have hgl : gj < w.heap.size := World.block_lt_of_cell? _ _ j1
  have hgF : gj ≠ FL := fun e => hF3 e.symm
  have hPl : PL < w.heap.size := World.block_lt_of_cell? _ _ h0
  have hEl : E < w.heap.size := World.block_lt_of_cell? _ _ h3
  have hn0 := HR.n0
  have hal : ga < w.heap.size := HR.lt.2
  have haF : ga ≠ FL := fun e => hF4 e.symm
  have HQ := hideIt (And.intro HR.c (And.intro HB (And.intro hF (And.intro hi hfR'))))
  clear HB hF hi HR hfR'
  have bZ := one_alloc w (.cells #[.pointer none, .int .i64 0, .int .u8 0, .int .u8 0, .pointer none, .slice none 0 0, .slice none 0 0, .slice none 0 0] 191)
  have bS := one_alloc (w.alloc (.cells #[.pointer none, .int .i64 0, .int .u8 0, .int .u8 0, .pointer none, .slice none 0 0, .slice none 0 0, .slice none 0 0] 191)) (.cells #[.pointer (some ⟨gj, ao, none⟩), .int .i64 0, .int .u8 0, .int .u8 0, .pointer none, .slice none 0 0, .slice none 0 0, .slice none 0 0] 191)
  have b2 := then_ bZ bS
  have hs2 : ((w.alloc (.cells #[.pointer none, .int .i64 0, .int .u8 0, .int .u8 0, .pointer none, .slice none 0 0, .slice none 0 0, .slice none 0 0] 191)).alloc (.cells #[.pointer (some ⟨gj, ao, none⟩), .int .i64 0, .int .u8 0, .int .u8 0, .pointer none, .slice none 0 0, .slice none 0 0, .slice none 0 0] 191)).heap.size = w.heap.size + 2 := by simp
  have T2 : StB ((w.alloc (.cells #[.pointer none, .int .i64 0, .int .u8 0, .int .u8 0, .pointer none, .slice none 0 0, .slice none 0 0, .slice none 0 0] 191)).alloc (.cells #[.pointer (some ⟨gj, ao, none⟩), .int .i64 0, .int .u8 0, .int .u8 0, .pointer none, .slice none 0 0, .slice none 0 0, .slice none 0 0] 191)) (w.heap.size + 1) (stV (.pointer (some ⟨gj, ao, none⟩)) (.int .u8 0) (.slice none 0 0) (.slice none 0 0)) := by
    refine ⟨fun i hi => ?_, fun o => new_frz (by simp) _ _ _⟩
    rw [new_cell (by simp)]
    rcases (by omega : i = 0 ∨ i = 1 ∨ i = 2 ∨ i = 3 ∨ i = 4 ∨ i = 5 ∨ i = 6 ∨ i = 7) with h | h | h | h | h | h | h | h <;> (subst h; rfl)
  have T0 : StB ((w.alloc (.cells #[.pointer none, .int .i64 0, .int .u8 0, .int .u8 0, .pointer none, .slice none 0 0, .slice none 0 0, .slice none 0 0] 191)).alloc (.cells #[.pointer (some ⟨gj, ao, none⟩), .int .i64 0, .int .u8 0, .int .u8 0, .pointer none, .slice none 0 0, .slice none 0 0, .slice none 0 0] 191)) w.heap.size (stV (.pointer none) (.int .u8 0) (.slice none 0 0) (.slice none 0 0)) := by
    have T : StB (w.alloc (.cells #[.pointer none, .int .i64 0, .int .u8 0, .int .u8 0, .pointer none, .slice none 0 0, .slice none 0 0, .slice none 0 0] 191)) w.heap.size (stV (.pointer none) (.int .u8 0) (.slice none 0 0) (.slice none 0 0)) := by
      refine ⟨fun i hi => ?_, fun o => new_frz rfl _ _ _⟩
      rw [new_cell rfl]
      rcases (by omega : i = 0 ∨ i = 1 ∨ i = 2 ∨ i = 3 ∨ i = 4 ∨ i = 5 ∨ i = 6 ∨ i = 7) with h | h | h | h | h | h | h | h <;> (subst h; rfl)
    exact T.blk (bS.block _ (by simp))
  have l0 := cell_later b2 h0
  have l3 := cell_later b2 h3
  have lj := cell_later b2 j1
  have HT2 := hideIt (And.intro T2 (And.intro T0 (And.intro b2 hs2)))
  clear bZ bS b2 hs2 T2 T0 h0 h3 j1
  go_enter Tryz.func60, Tryz.ntmps60
  go_upto_region 3 with fail
  generalize ((w.alloc (.cells #[.pointer none, .int .i64 0, .int .u8 0, .int .u8 0, .pointer none, .slice none 0 0, .slice none 0 0, .slice none 0 0] 191)).alloc (.cells #[.pointer (some ⟨gj, ao, none⟩), .int .i64 0, .int .u8 0, .int .u8 0, .pointer none, .slice none 0 0, .slice none 0 0, .slice none 0 0] 191)) = w2 at *
  go_wp2_with fail
  go_loopg [34, 10] n (fun gg v v10 wr => ∃ i : Nat, i + gg = n ∧ v = .int .i64 (i : Int) ∧ v10 = .slice none 0 0 ∧ Below w2.heap.size w2 wr)
  case atStart => exact ⟨0, by omega, rfl, rfl, Below.refl _ _⟩
  case round =>
    obtain ⟨i, hi, rfl, rfl, bw⟩ := hrel
    obtain ⟨T2, T0, b2, hs2⟩ := HT2.out
    obtain ⟨HA, HB, hF, hinj, hr⟩ := HQ.out
    by_cases hin : i < n
    · have i0 : (0 : Int) ≤ i := by omega
      have i1 : (i : Int) < (n : Int) := by omega
      obtain ⟨a0, a1⟩ := HA i hin
      have hfR := hr i hin
      have hbf := hF i hin
      have bwr := then_ b2 bw
      have d0 := cell_later bwr a0
      have d1 := cell_later bwr a1
      obtain ⟨x, hx⟩ : ∃ x, f i = x := ⟨_, rfl⟩
      rw [hx] at d0 hfR hbf
      have bA := one_alloc wr (.cells #[.int .i64 (x : Int), .int .u32 0] 136)
      have hkn := known_any (HB.blk ((then_ bwr bA).block FL hFl)) hfR hR
      rw [hbf] at hkn
      have HY := hideIt (And.intro bw bA)
      clear T2 T0 b2 HA HB hF hinj hr a0 a1 bwr bA bw hx hbf
      go_wp2_with fail
      refine hkn.mono ?_
      rintro e w5 ⟨rfl, hb5⟩
      have HZ := hideIt hb5
      clear hb5 hkn d0 d1
      go_wp2
      go_roundg (n - (i + 1))
      case measure => omega
      case rel =>
        obtain ⟨bw, bA⟩ := HY.out
        exact ⟨i + 1, by omega, by go_num, rfl, then_ (then_ bw bA) HZ.out⟩
    · have ein : i = n := by omega
      have i1 : ¬ ((i : Int) < (n : Int)) := by omega
      have k0 := cell_later bw l0
      have k3 := cell_later bw l3
      have kj := cell_later bw lj
      have T3 : StB wr (w.heap.size + 1) _ := T2.blk (bw.block _ (by omega))
      have T30 : StB wr w.heap.size _ := T0.blk (bw.block _ (by omega))
      have bwr := then_ b2 bw
      have hs3 := bw.size
      have hne0 : ((0 : Int) == (n : Int)) = false := by simp; omega
      have HY := hideIt (And.intro (And.intro T3 T30) (And.intro bwr (And.intro HA (And.intro HB (And.intro hF (And.intro hinj hr))))))
      have hs3' : w.heap.size + 2 ≤ wr.heap.size := by omega
      clear T2 T0 T30 b2 HA HB hF hinj hr bw T3 bwr hs2 hs3 l0 l3 lj HT2 HQ
      clear ein hi hin
      go_wp2_with fail
      go_loopg [106, 10] n (fun gg v v10 wx => ∃ i : Nat, i + gg = n ∧ v = .int .i64 (i : Int) ∧ v10 = .slice none 0 0 ∧ ∃ av, StB wx (w.heap.size + 1) (stV (.pointer (some ⟨gj, ao, none⟩)) (.int .u8 0) (.slice none 0 0) av) ∧ StB wx w.heap.size (stV (.pointer none) (.int .u8 0) (.slice none 0 0) (.slice none 0 0)) ∧ wx.ownsRow (w.heap.size + 2) 223 4 av i (actL f i) ∧ BoolAt wx FL R (fillF b f i) ∧ Wr FL w wx ∧ w.heap.size + 2 ≤ wx.heap.size)
      case atStart =>
        obtain ⟨T3, bwr, HA, HB, hF, hinj, hr⟩ := HY.out
        exact ⟨0, by omega, rfl, rfl, _, T3.1, T3.2, ⟨by simp [actL], .inl ⟨rfl, rfl⟩⟩, HB.blk (bwr.block FL hFl), Wr.of_below bwr, hs3'⟩
      case round =>
        clear k0 k3 kj hs3' i1
        obtain ⟨i, hi, rfl, rfl, av, T, T0, own, B, W, hsz⟩ := hrel
        obtain ⟨T3, bwr, HA, HB, hF, hinj, hr⟩ := HY.out
        clear T3 bwr
        by_cases hin : i < n
        · have i0 : (0 : Int) ≤ i := by omega
          have i1 : (i : Int) < (n : Int) := by omega
          obtain ⟨a0, a1⟩ := HA i hin
          have hfR := hr i hin
          have ea := W.block (ga) hal haF
          have d0 := (World.cell?_of_block (a := ⟨ga, i * 2, none⟩) ea).trans a0
          have d1 := (World.cell?_of_block (a := ⟨ga, i * 2 + 1, none⟩) ea).trans a1
          have hbf : fillF b f i (f i) = false := by
            cases hq : fillF b f i (f i)
            · rfl
            · rw [fillF_iff] at hq
              rcases hq with h | ⟨t, h1, h2⟩
              · rw [hF i hin] at h; simp at h
              · have := hinj t i (by omega) hin h2; omega
          obtain ⟨x, hx⟩ : ∃ x, f i = x := ⟨_, rfl⟩
          have HXX := hideIt hx
          rw [hx] at d0 hfR hbf
          have bA := one_alloc wr (.cells #[.int .i64 (x : Int), .int .u32 0] 136)
          have hFw := Nat.lt_of_lt_of_le hFl W.size
          have hkn := known_any (B.blk (bA.block FL hFw)) hfR hR
          rw [hbf] at hkn
          have HZ := hideIt (And.intro (And.intro T T0) (And.intro own (And.intro B (And.intro W bA))))
          clear HA HB hF hinj hr a0 a1 bA hx hbf T T0 own B W ea
          go_wp2_with fail
          refine hkn.mono ?_
          rintro e w5 ⟨rfl, hb5⟩
          obtain ⟨⟨T, T0⟩, own, B, W, bA⟩ := HZ.out
          have q0 : (wr.alloc (.cells #[.int .i64 (x : Int), .int .u32 0] 136)).cell? ⟨wr.heap.size, 0, none⟩ = some (.int .i64 (x : Int)) := by simp
          have q1 : (wr.alloc (.cells #[.int .i64 (x : Int), .int .u32 0] 136)).cell? ⟨wr.heap.size, 1, none⟩ = some (.int .u32 0) := by simp
          have q0 := cell_later hb5 q0
          have q1 := cell_later hb5 q1
          have b5 := then_ bA hb5
          have B5 := B.blk (b5.block FL hFw)
          have W5 := W.below b5
          have T5 : StB w5 (w.heap.size + 1) _ := T.blk (b5.block _ (by omega))
          have T50 : StB w5 w.heap.size _ := T0.blk (b5.block _ (by omega))
          have own5 : w5.ownsRow (w.heap.size + 2) 223 4 av i (actL f i) := own_one own (fun q hq => b5.block q (own.lt q hq).2)
          have f5 := B5.c x hfR
          have ff5 := B5.fz
          have hs5 : wr.heap.size < w5.heap.size := by have := hb5.size; simp at this; omega
          obtain ⟨y, hy⟩ : ∃ y, fillF b f i x = y := ⟨_, rfl⟩
          rw [hy] at f5
          have x0 : (0 : Int) ≤ x := by omega
          have x1 : (x : Int) < (R : Int) := by omega
          have HZ5 := hideIt (And.intro (And.intro T5 T50) (And.intro own5 (And.intro B5 W5)))
          clear T T0 own B W bA b5 B5 W5 T5 T50 own5 hb5 hkn hy HZ d0 d1
          go_upto_region 29 with fail
          obtain ⟨⟨T5, T50⟩, own5, B5, W5⟩ := HZ5.out
          have hF2' : FL ≠ wr.heap.size := by omega
          have T6 : StB (w5.setCell ⟨FL, x, none⟩ (.bool true)) (w.heap.size + 1) _ := T5.blk (far_set (by omega))
          have T60 : StB (w5.setCell ⟨FL, x, none⟩ (.bool true)) w.heap.size _ := T50.blk (far_set (by omega))
          have B6 := B5.put hfR
          have own6 : (w5.setCell ⟨FL, x, none⟩ (.bool true)).ownsRow (w.heap.size + 2) 223 4 av i (actL f i) := own_one own5 (fun q hq => far_set (fun e => by have := (own5.lt q hq).1; omega))
          have W6 : Wr FL w (w5.setCell ⟨FL, x, none⟩ (.bool true)) := W5.set
          have r0 : (w5.setCell ⟨FL, x, none⟩ (.bool true)).cell? ⟨wr.heap.size, 0, none⟩ = some (.int .i64 (x : Int)) := (World.cell?_of_block (a := ⟨wr.heap.size, 0, none⟩) (far_set (fun e => hF2' e.symm))).trans q0
          have r1 : (w5.setCell ⟨FL, x, none⟩ (.bool true)).cell? ⟨wr.heap.size, 1, none⟩ = some (.int .u32 0) := (World.cell?_of_block (a := ⟨wr.heap.size, 1, none⟩) (far_set (fun e => hF2' e.symm))).trans q1
          have hs6 : wr.heap.size < (w5.setCell ⟨FL, x, none⟩ (.bool true)).heap.size := by simpa using hs5
          clear T5 T50 own5 B5 W5 q0 q1 f5 ff5 HZ5
          generalize w5.setCell ⟨FL, x, none⟩ (.bool true) = w6 at *
          obtain ⟨pv, cv, rfl⟩ := own_shape own6
          have t6 := T6.c 6 (by omega)
          change w6.cell? ⟨w.heap.size + 1, 6, none⟩ = some (.slice pv i cv) at t6
          have tf := T6.fz
          have hvb : ∀ q, (Value.slice pv i cv).ownBlock = some q → w.heap.size + 1 ≠ q := fun q hq e => by have := (own6.lt q hq).1; omega
          have bN := one_alloc w6 (.cells #[.int .i64 (i : Int), .bool true, .int .i64 (x : Int), .int .u32 0] 223)
          have HO6 := hideIt own6
          have HZ6 := hideIt (And.intro (And.intro T6 T60) (And.intro B6 (And.intro W6 bN)))
          clear own6 T6 T60 B6 W6 bN
          go_wp2_with (first | (at_builtin; refine wpList_append_own_at _ rfl (.tmp 133) (.tmp 138) 189 rfl (w.heap.size + 2) 223 i9 (.agg #[.int .i64 0, .bool false, .int .i64 0, .int .u32 0]) 4 32 Tryz.underlying189 hi9 hx0 hx1 hx2 rfl (by decide) (.slice pv i cv) i (actL f i) rfl (HO6.out.alloc _) ⟨w6.heap.size, 0, none⟩ 1 1 [.int .i64 (i : Int), .bool true, .int .i64 (x : Int), .int .u32 0] rfl rfl (cell_new_4 _ _ _ _ _ _) (by simp [Value.oneCell']) (by unfold maxLen; omega) (by omega) (by simp <;> omega) ?_) | go_in)
          intro v' w7 hown' hgrow hiff hblk
          obtain ⟨p', c', rfl⟩ := own_shape hown'
          obtain ⟨⟨T6, T60⟩, B6, W6, bN⟩ := HZ6.out
          have hbs := bN.size
          have e7 : ∀ q, q < w.heap.size + 2 → w7.heap[q]? = w6.heap[q]? := fun q h2 => (hgrow.block q (by omega) (fun e => by have := (HO6.out.lt q e.symm).1; omega)).trans (bN.block q (by omega))
          have T7 : StB w7 (w.heap.size + 1) _ := T6.blk (e7 _ (by omega))
          have T70 : StB w7 w.heap.size _ := T60.blk (e7 _ (by omega))
          have B7 := B6.blk (e7 FL (by omega))
          have W7 : Wr FL w w7 := ⟨hgrow.os.trans (bN.os.trans W6.os), hgrow.tape.trans (bN.tape.trans W6.tape), hgrow.output.trans (bN.output.trans W6.output), by have := hgrow.size; omega, fun q h1 h2 => (e7 q (by omega)).trans (W6.block q h1 h2)⟩
          have hs7 : w.heap.size + 2 ≤ w7.heap.size := by have := hgrow.size; omega
          have t7 := T7.c 6 (by omega)
          have tf7 := T7.fz
          have HZ7 := hideIt (And.intro (And.intro T7 T70) (And.intro hown' (And.intro B7 W7)))
          clear hown' hgrow hiff hblk T6 T60 B6 W6 bN hbs e7 T7 T70 B7 W7 HZ6 t6 tf r0 r1
          go_wp2
          go_roundg (n - (i + 1))
          case measure => omega
          case rel =>
            obtain ⟨⟨T7, T70⟩, hown', B7, W7⟩ := HZ7.out
            refine ⟨i + 1, by omega, by go_num, rfl, .slice p' (i + 1) c', ?_, T70.blk (far_set (by omega)), ?_, ?_, ?_, by simpa using hs7⟩
            · have := T7.put (k := 6) (by omega) (.slice p' (i + 1) c')
              rw [stV_ac] at this
              exact this
            · show World.ownsRow _ _ _ _ _ _ (actL f i ++ [.int .i64 (i : Int), .bool true, .int .i64 (f i : Int), .int .u32 0])
              rw [HXX.out]
              exact own_one hown' (fun q hq => far_set (fun e => by have := (hown'.lt q hq).1; omega))
            · show BoolAt _ _ _ (onB (fillF b f i) (f i))
              rw [HXX.out]
              exact B7.blk (far_set (by omega))
            · exact W7.other (by omega)
        · have ein : i = n := by omega
          have i1 : ¬ ((i : Int) < (n : Int)) := by omega
          obtain ⟨pa, ca, rfl⟩ := own_shape own
          have s0 : wr.cell? ⟨w.heap.size + 1, 0, none⟩ = some (.pointer (some ⟨gj, ao, none⟩)) := T.c 0 (by omega)
          have s1 : wr.cell? ⟨w.heap.size + 1, 1, none⟩ = some (.int .i64 0) := T.c 1 (by omega)
          have s2 : wr.cell? ⟨w.heap.size + 1, 2, none⟩ = some (.int .u8 0) := T.c 2 (by omega)
          have s3 : wr.cell? ⟨w.heap.size + 1, 3, none⟩ = some (.int .u8 0) := T.c 3 (by omega)
          have s4 : wr.cell? ⟨w.heap.size + 1, 4, none⟩ = some (.pointer none) := T.c 4 (by omega)
          have s5 : wr.cell? ⟨w.heap.size + 1, 5, none⟩ = some (.slice none 0 0) := T.c 5 (by omega)
          have s6 : wr.cell? ⟨w.heap.size + 1, 6, none⟩ = some (.slice pa i ca) := T.c 6 (by omega)
          have s7 : wr.cell? ⟨w.heap.size + 1, 7, none⟩ = some (.slice none 0 0) := T.c 7 (by omega)
          have z0 : wr.cell? ⟨w.heap.size, 0, none⟩ = some (.pointer none) := T0.c 0 (by omega)
          have z1 : wr.cell? ⟨w.heap.size, 1, none⟩ = some (.int .i64 0) := T0.c 1 (by omega)
          have z2 : wr.cell? ⟨w.heap.size, 2, none⟩ = some (.int .u8 0) := T0.c 2 (by omega)
          have z3 : wr.cell? ⟨w.heap.size, 3, none⟩ = some (.int .u8 0) := T0.c 3 (by omega)
          have z4 : wr.cell? ⟨w.heap.size, 4, none⟩ = some (.pointer none) := T0.c 4 (by omega)
          have z5 : wr.cell? ⟨w.heap.size, 5, none⟩ = some (.slice none 0 0) := T0.c 5 (by omega)
          have z6 : wr.cell? ⟨w.heap.size, 6, none⟩ = some (.slice none 0 0) := T0.c 6 (by omega)
          have z7 : wr.cell? ⟨w.heap.size, 7, none⟩ = some (.slice none 0 0) := T0.c 7 (by omega)
          have tf := T.fz
          have uf := T0.fz
          have HZ := hideIt (And.intro own (And.intro B W))
          have HIN := hideIt ein
          have hav : (Value.slice pa i ca).ownBlock ≠ some (w.heap.size) := fun e => by have := (own.lt _ e).1; omega
          clear T T0 HA HB hF hinj hr ein hi hin B W own
          go_wp2
          refine bodyPost_ret (v := .agg #[.pointer (some ⟨gj, ao, none⟩), .int .i64 0, .int .u8 0, .int .u8 0, .pointer none, .slice none 0 0, .slice pa i ca, .slice none 0 0]) ?_ rfl ?_
          · rw [results_one_cell rfl]
            go_simp
          · obtain ⟨own, B, W⟩ := HZ.out
            have ein := HIN.out
            rw [← ein]
            exact ⟨_, rfl, own_one own (fun q hq => have HH : q ≠ w.heap.size := (fun e => by have := (own.lt q hq).1; omega); (far_set HH).trans ((far_set HH).trans ((far_set HH).trans ((far_set HH).trans ((far_set HH).trans ((far_set HH).trans ((far_set HH).trans (far_set HH)))))))), B.blk (have HH : FL ≠ w.heap.size := (by omega); (far_set HH).trans ((far_set HH).trans ((far_set HH).trans ((far_set HH).trans ((far_set HH).trans ((far_set HH).trans ((far_set HH).trans (far_set HH)))))))), ((((((((W.other (Nat.le_refl _)).other (Nat.le_refl _)).other (Nat.le_refl _)).other (Nat.le_refl _)).other (Nat.le_refl _)).other (Nat.le_refl _)).other (Nat.le_refl _)).other (Nat.le_refl _))⟩
end Go.Proofs.Qxb6500880aGreat
