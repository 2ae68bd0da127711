import Derived.Deep.CutBlock
import Derived.OwnWalk
import Derived.Maps.AppendAt
import Derived.Maps.OwnSet
import Derived.Maps.OwnOps
import Derived.Laws.ResultCell
import Derived.Test.Qxb6500880aU
set_option linter.unusedVariables false
set_option linter.unusedSimpArgs false
namespace Go.Proofs.Qxb6500880a
open Go.RowKit

def OnesAt (w : World) (v : Value) (n : Nat) : Prop := ∃ p c, v = .slice p n c ∧ n ≤ c ∧ (n = 0 ∨ ∃ g, p = some ⟨g, 0, none⟩ ∧ ∀ j, j < n → w.cell? ⟨g, j * 4, none⟩ = some (.int .u8 1) ∧ w.cell? ⟨g, j * 4 + 1, none⟩ = some (.int .i64 0) ∧ w.cell? ⟨g, j * 4 + 2, none⟩ = some (.int .i64 1) ∧ w.cell? ⟨g, j * 4 + 3, none⟩ = some (.string ByteArray.empty))
theorem OnesAt.below {w w' : World} {v : Value} {n : Nat} (h : OnesAt w v n) {k : Nat} (hb : Below k w w') (hk : w.heap.size ≤ k) : OnesAt w' v n := by
  obtain ⟨p, c, e, hc, h⟩ := h
  refine ⟨p, c, e, hc, ?_⟩
  rcases h with h | ⟨g, e, h⟩
  · exact .inl h
  · refine .inr ⟨g, e, fun j hj => ?_⟩
    obtain ⟨a, b, d, f⟩ := h j hj
    have hl : g < w.heap.size := World.block_lt_of_cell? _ _ a
    have eb := hb.block g (by omega)
    exact ⟨(World.cell?_of_block (a := ⟨g, j * 4, none⟩) eb).trans a, (World.cell?_of_block (a := ⟨g, j * 4 + 1, none⟩) eb).trans b, (World.cell?_of_block (a := ⟨g, j * 4 + 2, none⟩) eb).trans d, (World.cell?_of_block (a := ⟨g, j * 4 + 3, none⟩) eb).trans f⟩
theorem intern_any {w : World} {SB mi j : Nat} {vals : Value} (H : SymsAt w SB mi vals (decide (0 < j))) (h0 : j = 0 → vals = .slice none 0 0) (hne : SB ≠ mi) : Calls Try.prog 29 #[.pointer (some ⟨SB, 0, none⟩), tOne] w fun e w' => e = .returned (.int .u32 0) ∧ (∃ vals, SymsAt w' SB mi vals true) ∧ Ws (fun q => q = SB ∨ q = mi) w w' := by
  by_cases q : j = 0
  · subst q
    rw [h0 rfl] at H
    exact intern_first H hne
  · rw [show decide (0 < j) = true by simp; omega] at H
    refine (intern_again H).mono ?_
    rintro e w' ⟨rfl, hb⟩
    exact ⟨rfl, ⟨_, H.below hb⟩, Ws.of_below hb⟩
/-- What is there when the one fact has been loaded. -/
structure FactsDone (w w' : World) (E SB mi rb n : Nat) (c : Nat → Value) : Prop where
  s : ∃ vals, SymsAt w' SB mi vals true
  e : EngAt w' E (updV c 16 (.int .i64 1))
  r : ∃ d sv wy, RelAt w' rb (nmS true) { (rel0 n) with rows := 1, data := d, slots := sv, why := wy } ∧ SymZ w' d n ∧ SlotAt w' sv (fun j => if j = slotZ n then 1 else 0) ∧ (d.ownBlock ≠ some rb ∧ sv.ownBlock ≠ some rb ∧ (∀ q, d.ownBlock = some q → w.heap.size < q) ∧ ∀ q, sv.ownBlock = some q → w.heap.size < q)
  f : Ws (fun q => q = E ∨ q = SB ∨ q = mi ∨ q = rb) w w'
theorem FactsDone.far {w w' : World} {E SB mi rb n o : Nat} {c : Nat → Value} {v : Value} (h : FactsDone w w' E SB mi rb n c) (h1 : E ≠ w.heap.size) (h2 : SB ≠ w.heap.size) (h3 : mi ≠ w.heap.size) (h4 : rb ≠ w.heap.size) : FactsDone w (w'.setCell ⟨w.heap.size, o, none⟩ v) E SB mi rb n c := by
  obtain ⟨⟨vals, hs⟩, he, ⟨d, sv, wy, r1, r2, r3, r4, r5, r6, r7⟩, hf⟩ := h
  have W : Wr w.heap.size w' (w'.setCell ⟨w.heap.size, o, none⟩ v) := (Wr.refl _ _).set
  exact ⟨⟨vals, hs.keep (far_set h2) (far_set h3)⟩, he.blk (far_set h1), ⟨d, sv, wy, r1.blk (far_set h4), r2.wr (fun e => by have := r6 _ e; omega) W, r3.wr (fun e => by have := r7 _ e; omega) W, r4, r5, r6, r7⟩, hf.set (.inr (Nat.le_refl _))⟩
theorem FactsDone.drew {w w' : World} {E SB mi rb n : Nat} {c : Nat → Value} (h : FactsDone w w' E SB mi rb n c) : FactsDone w w'.drew E SB mi rb n c := by
  obtain ⟨⟨vals, hs⟩, he, ⟨d, sv, wy, r1, r2, r3, r4, r5, r6, r7⟩, hf⟩ := h
  have b : Below w'.heap.size w' w'.drew := below_dr (Below.refl _ _)
  exact ⟨⟨vals, hs.below b⟩, he.below b, ⟨d, sv, wy, r1.below b, r2.below b, r3.below b, r4, r5, r6, r7⟩, hf.drew⟩
theorem RowZ.of_own {w : World} {base n : Nat} {v : Value} (h : w.ownsRow base 99 1 v n (List.replicate n (.int .u32 0))) (hn : 0 < n) : RowZ w v n := by
  obtain ⟨p, c, e, hc, h'⟩ := SymZ.of_own h
  rcases h' with h' | ⟨g, off, e', h'⟩
  · omega
  · exact .inr ⟨by omega, g, off, c, by rw [e, e'], hc, h'⟩
set_option maxRecDepth 20000 in
set_option maxHeartbeats 8000000 in
theorem facts_any {w w0 : World} {CB E nb SB mi rb gd n B kk : Nat} {av : Value} {c : Nat → Value} {fn : Bool → Option Nat} (HE : EngAt w E c) (h0 : c 0 = .int .i64 (B : Int)) (h4 : c 4 = .pointer (some ⟨SB, 0, none⟩)) (h6 : c 6 = .map (some nb)) (h16 : c 16 = .int .i64 0) (HN : MapN w nb kk fn) (hfn : fn true = some rb) (HS : SymsAt w SB mi (.slice none 0 0) false) (HR : RelAt w rb (nmS true) (rel0 n)) (HC : w.cell? ⟨CB, 0, none⟩ = some (.pointer (some ⟨E, 0, none⟩)))
    (D0 : w0.cell? ⟨gd, 0, none⟩ = some (.string (nmS true))) (D1 : w0.cell? ⟨gd, 1, none⟩ = some av) (D2 : OnesAt w0 av n) (hb0 : Below w0.heap.size w0 w) (hn : n ≤ 32) (hn0 : 0 < n) (hB : B ≤ 16777216)
    (hlo : w0.heap.size ≤ CB ∧ w0.heap.size ≤ E ∧ w0.heap.size ≤ SB ∧ w0.heap.size ≤ mi ∧ w0.heap.size ≤ rb) (hd : CB ≠ SB ∧ CB ≠ mi ∧ CB ≠ rb ∧ CB ≠ E ∧ E ≠ SB ∧ E ≠ mi ∧ E ≠ rb ∧ nb ≠ SB ∧ nb ≠ mi ∧ nb ≠ rb ∧ nb ≠ E ∧ rb ≠ SB ∧ rb ≠ mi ∧ SB ≠ mi) :
    Calls Try.prog 17 #[.pointer (some ⟨CB, 0, none⟩), .slice (some ⟨gd, 0, none⟩) 1 1] w fun e w' => (B = 0 → e = .returned (.agg #[.int .u8 11, .int .i64 (-1), .int .i64 0])) ∧ (0 < B → e = .returned (.agg #[.int .u8 0, .int .i64 0, .int .i64 0])) ∧ FactsDone w w' E SB mi rb n c := by
  obtain ⟨i9, hi9, hx0, hx1, hx2⟩ := info_parts info99
  obtain ⟨hlo1, hlo2, hlo3, hlo4, hlo5⟩ := hlo
  obtain ⟨hd1, hd2, hd3, hd4, hd5, hd6, hd7, hd8, hd9, hd10, hd11, hd12, hd13, hd14⟩ := hd
  obtain ⟨pa, ca, ea, hca, D2'⟩ := D2
  have D2 : OnesAt w0 av n := ⟨pa, ca, ea, hca, D2'⟩
  clear D2'
  subst ea
  have hCl : CB < w.heap.size := World.block_lt_of_cell? _ _ HC
  have hEl := HE.lt
  have hnl := HN.lt
  have hrl := HR.lt
  obtain ⟨hSl, hml⟩ := HS.lt
  have hgl : gd < w0.heap.size := World.block_lt_of_cell? _ _ D0
  have hnf := nm_full true
  obtain ⟨nm, hnm⟩ : ∃ nm, nmS true = nm := ⟨_, rfl⟩
  rw [hnm] at hnf D0 HR
  have bZ := one_alloc w (.cells #[.int .u8 0, .int .i64 0, .int .i64 0] 45)
  have hsZ : (w.alloc (.cells #[.int .u8 0, .int .i64 0, .int .i64 0] 45)).heap.size = w.heap.size + 1 := by simp
  have z0 : (w.alloc (.cells #[.int .u8 0, .int .i64 0, .int .i64 0] 45)).cell? ⟨w.heap.size, 0, none⟩ = some (.int .u8 0) := by simp
  have z1 : (w.alloc (.cells #[.int .u8 0, .int .i64 0, .int .i64 0] 45)).cell? ⟨w.heap.size, 1, none⟩ = some (.int .i64 0) := by simp
  have z2 : (w.alloc (.cells #[.int .u8 0, .int .i64 0, .int .i64 0] 45)).cell? ⟨w.heap.size, 2, none⟩ = some (.int .i64 0) := by simp
  have zf : ∀ o, (w.alloc (.cells #[.int .u8 0, .int .i64 0, .int .i64 0] 45)).frozen? ⟨w.heap.size, o, none⟩ = false := fun o => by simp
  have HQ := hideIt (And.intro HE (And.intro HN (And.intro HS (And.intro HR (And.intro HC (And.intro D0 (And.intro D1 (And.intro D2 (And.intro hb0 bZ)))))))))
  have HZ := hideIt (And.intro z0 (And.intro z1 (And.intro z2 zf)))
  have HCC := hideIt (And.intro h0 (And.intro h4 (And.intro h6 h16)))
  have HNM := hideIt hnm
  have HSZ := hideIt hsZ
  have hw0 := hb0.size
  clear HE HN HS HR HC D0 D1 D2 hb0 bZ z0 z1 z2 zf h0 h4 h6 h16 hnm hsZ
  go_enter Try.func17, Try.ntmps17
  go_wp2_with fail
  generalize hw1 : w.alloc (.cells #[.int .u8 0, .int .i64 0, .int .i64 0] 45) = w1 at *
  go_loopg [18] 1 (fun gg v wr => ∃ i : Nat, i + gg = 1 ∧ v = .int .i64 (i : Int) ∧ Below w1.heap.size w1 wr)
  case atStart => exact ⟨0, by omega, rfl, Below.refl _ _⟩
  case round =>
    obtain ⟨i, hi, rfl, bw⟩ := hrel
    have hs1 := bw.size
    have hsz := HSZ.out
    by_cases him : i < 1
    · have hi0 : i = 0 := by omega
      subst hi0
      obtain ⟨HE, HN, HS, HR, HC, D0, D1, D2, hb0, bZ⟩ := HQ.out
      have bR := bZ.trans (bw.mono (by omega))
      have b0r : Below w0.heap.size w0 wr := hb0.trans (bR.mono (by omega))
      have d0 := cell_later b0r D0
      have d1 := cell_later b0r D1
      clear HE HN HS HR HC D0 D1 D2 hb0 bZ
      obtain ⟨wA, rfl⟩ : ∃ x, x = wr := ⟨_, rfl⟩
      go_wp2_with fail
      have bP := one_alloc wA (.cells #[.string nm, .slice pa n ca] 24)
      have hsP : (wA.alloc (.cells #[.string nm, .slice pa n ca] 24)).heap.size = wA.heap.size + 1 := by simp
      have q0 : (wA.alloc (.cells #[.string nm, .slice pa n ca] 24)).cell? ⟨wA.heap.size, 0, none⟩ = some (.string nm) := by simp
      have q1 : (wA.alloc (.cells #[.string nm, .slice pa n ca] 24)).cell? ⟨wA.heap.size, 1, none⟩ = some (.slice pa n ca) := by simp
      have HP := hideIt (And.intro bP (And.intro q0 (And.intro q1 hsP)))
      clear bP q0 q1 hsP d0 d1
      generalize wA.alloc (.cells #[.string nm, .slice pa n ca] 24) = wb at *
      generalize hp6 : wA.heap.size = p6 at *
      go_loopg [31] n (fun gg v wr => ∃ j : Nat, j + gg = n ∧ v = .int .i64 (j : Int) ∧ Below wb.heap.size wb wr)
      case atStart => exact ⟨0, by omega, rfl, Below.refl _ _⟩
      case round =>
        obtain ⟨j, hj, rfl, bj⟩ := hrel
        obtain ⟨bP, q0, q1, hsP⟩ := HP.out
        by_cases hjn : j < n
        · have i0 : (0 : Int) ≤ j := by omega
          have i1 : (j : Int) < (n : Int) := by omega
          obtain ⟨g, rfl, a0, a1, a2, a3⟩ : ∃ g, pa = some ⟨g, 0, none⟩ ∧ w0.cell? ⟨g, j * 4, none⟩ = some (.int .u8 1) ∧ w0.cell? ⟨g, j * 4 + 1, none⟩ = some (.int .i64 0) ∧ w0.cell? ⟨g, j * 4 + 2, none⟩ = some (.int .i64 1) ∧ w0.cell? ⟨g, j * 4 + 3, none⟩ = some (.string ByteArray.empty) := by
            obtain ⟨p, c, e, _, h⟩ := HQ.out.2.2.2.2.2.2.2.1
            simp only [Value.slice.injEq] at e
            obtain ⟨rfl, _, rfl⟩ := e
            rcases h with h | ⟨g, e, h⟩
            · omega
            · exact ⟨g, e, h j hjn⟩
          have b0j : Below w0.heap.size w0 wr := b0r.trans ((bP.mono (by omega)).trans (bj.mono (by omega)))
          have e0 := cell_later b0j a0
          have e1 := cell_later b0j a1
          have e2 := cell_later b0j a2
          have e3 := cell_later b0j a3
          have hcf := constFine_any (wr.alloc (.cells #[.int .u8 1, .int .i64 0, .int .i64 1, .string ByteArray.empty] 34))
          unfold tOne at hcf
          have HBJ := hideIt bj
          clear a0 a1 a2 a3 b0j bP q0 q1 hsP bj
          go_wp2_with fail
          refine hcf.mono ?_
          rintro e w5 ⟨rfl, hb5⟩
          have HB5 := hideIt (then_ (one_alloc wr (.cells #[.int .u8 1, .int .i64 0, .int .i64 1, .string ByteArray.empty] 34)) hb5)
          clear hb5 hcf e0 e1 e2 e3
          go_wp2
          go_roundg (n - (j + 1))
          case measure => omega
          case rel => exact ⟨j + 1, by omega, by go_num, then_ HBJ.out HB5.out⟩
        · have hjn' : n = j := by omega
          subst hjn'
          obtain ⟨wd, rfl⟩ : ∃ x, x = wr := ⟨_, rfl⟩
          obtain ⟨HE, HN, HS, HR, HC, D0, D1, D2, hb0, bZ⟩ := HQ.out
          have bD : Below w.heap.size w wd := bR.trans ((bP.mono (by omega)).trans (bj.mono (by omega)))
          have hlk : ∀ w', w'.heap[nb]? = wd.heap[nb]? → (Instr.lookup 64 (.map (some nb)) (.string nm) true).run Try.prog w' = .ok (.tuple #[.pointer (some ⟨rb, 0, none⟩), .bool true]) w' := fun w' e => by
            have := ((HN.below bD).blk e).look true
            rw [hfn, HNM.out] at this
            exact this
          have cb0 := cell_later bD HC
          have e6 := cell_later bD (HE.get HCC.out.2.2.1 (by omega))
          have rb1 : wd.cell? ⟨rb, 1, none⟩ = some (.int .i64 (n : Int)) := cell_later bD HR.ar
          have q0 := cell_later bj q0
          have q1 := cell_later bj q1
          have HBD := hideIt (And.intro bP (And.intro bj bw))
          have hwP : w1.heap.size ≤ p6 := hs1
          clear HE HN HS HR HC D0 D1 D2 hb0 bZ bP bj bw bR b0r
          go_upto_region 12 with fail
          refine wp_region_held_drew (S := (fun w' => w'.cell? ⟨CB, 0, none⟩ = some (.pointer (some ⟨E, 0, none⟩)) ∧ w'.cell? ⟨E, 6, none⟩ = some (.map (some nb)) ∧ w'.cell? ⟨p6, 0, none⟩ = some (.string nm) ∧ w'.heap[nb]? = wd.heap[nb]?)) (by kernel_rfl) ⟨cb0, e6, q0, rfl⟩ (fun hHeld => ?_)
          refine wpAnyH_take (i := 0) (oi := { dst := some 42, op := Go.Op.move (Go.Operand.tmp 0), type := 76, pos := _, after := #[], guard := none }) (v := ?vv17001) rfl (by kernel_rfl) (by kernel_rfl) (by kernel_rfl) (fun _ _ _ h => h) (Or.inl ⟨by rfl, ?hy17001⟩) (by assumption) ?tk17001
          case hy17001 => (intro w hSw; (try dsimp only at hSw); go_simp; (try with_reducible rfl))
          try simp only [Act.put, List.setIfInBounds_toArray, List.set_cons_zero, List.set_cons_succ]
          refine wpAnyH_take (i := 1) (oi := { dst := some 43, op := Go.Op.nilCheck (Go.Operand.tmp 42), type := 0, pos := _, after := #[{ on := 0, ground := Go.Ground.data }], guard := none }) (v := ?vv17002) rfl (by kernel_rfl) (by kernel_rfl) (by kernel_rfl) (fun _ _ _ h => h) (Or.inl ⟨by rfl, ?hy17002⟩) (by assumption) ?tk17002
          case hy17002 => (intro w hSw; (try dsimp only at hSw); go_simp; (try with_reducible rfl))
          try simp only [Act.put, List.setIfInBounds_toArray, List.set_cons_zero, List.set_cons_succ]
          refine wpAnyH_take (i := 2) (oi := { dst := some 44, op := Go.Op.fieldAddr 79 (Go.Operand.tmp 43) 0, type := 0, pos := _, after := #[{ on := 1, ground := Go.Ground.data }], guard := none }) (v := ?vv17003) rfl (by kernel_rfl) (by kernel_rfl) (by kernel_rfl) (fun _ _ _ h => h) (Or.inl ⟨by rfl, ?hy17003⟩) (by assumption) ?tk17003
          case hy17003 => (intro w hSw; (try dsimp only at hSw); go_simp; (try with_reducible rfl))
          try simp only [Act.put, List.setIfInBounds_toArray, List.set_cons_zero, List.set_cons_succ]
          refine wpAnyH_take (i := 3) (oi := { dst := some 45, op := Go.Op.load 43 (Go.Operand.tmp 44), type := 43, pos := _, after := #[{ on := 2, ground := Go.Ground.data }], guard := none }) (v := ?vv17004) rfl (by kernel_rfl) (by kernel_rfl) (by kernel_rfl) (fun _ _ _ h => h) (Or.inl ⟨by rfl, ?hy17004⟩) (by assumption) ?tk17004
          case hy17004 => (intro w hSw; (try dsimp only at hSw); go_simp; (try with_reducible rfl))
          try simp only [Act.put, List.setIfInBounds_toArray, List.set_cons_zero, List.set_cons_succ]
          refine wpAnyH_take (i := 4) (oi := { dst := some 46, op := Go.Op.nilCheck (Go.Operand.tmp 45), type := 0, pos := _, after := #[{ on := 3, ground := Go.Ground.data }], guard := none }) (v := ?vv17005) rfl (by kernel_rfl) (by kernel_rfl) (by kernel_rfl) (fun _ _ _ h => h) (Or.inl ⟨by rfl, ?hy17005⟩) (by assumption) ?tk17005
          case hy17005 => (intro w hSw; (try dsimp only at hSw); go_simp; (try with_reducible rfl))
          try simp only [Act.put, List.setIfInBounds_toArray, List.set_cons_zero, List.set_cons_succ]
          refine wpAnyH_take (i := 5) (oi := { dst := some 47, op := Go.Op.fieldAddr 75 (Go.Operand.tmp 46) 3, type := 0, pos := _, after := #[{ on := 4, ground := Go.Ground.data }], guard := none }) (v := ?vv17006) rfl (by kernel_rfl) (by kernel_rfl) (by kernel_rfl) (fun _ _ _ h => h) (Or.inl ⟨by rfl, ?hy17006⟩) (by assumption) ?tk17006
          case hy17006 => (intro w hSw; (try dsimp only at hSw); go_simp; (try with_reducible rfl))
          try simp only [Act.put, List.setIfInBounds_toArray, List.set_cons_zero, List.set_cons_succ]
          refine wpAnyH_take (i := 6) (oi := { dst := some 48, op := Go.Op.load 64 (Go.Operand.tmp 47), type := 64, pos := _, after := #[{ on := 5, ground := Go.Ground.data }], guard := none }) (v := ?vv17007) rfl (by kernel_rfl) (by kernel_rfl) (by kernel_rfl) (fun _ _ _ h => h) (Or.inl ⟨by rfl, ?hy17007⟩) (by assumption) ?tk17007
          case hy17007 => (intro w hSw; (try dsimp only at hSw); go_simp; (try with_reducible rfl))
          try simp only [Act.put, List.setIfInBounds_toArray, List.set_cons_zero, List.set_cons_succ]
          refine wpAnyH_take (i := 7) (oi := { dst := some 49, op := Go.Op.fieldAddr 24 (Go.Operand.tmp 6) 0, type := 0, pos := _, after := #[], guard := none }) (v := ?vv17008) rfl (by kernel_rfl) (by kernel_rfl) (by kernel_rfl) (fun _ _ _ h => h) (Or.inl ⟨by rfl, ?hy17008⟩) (by assumption) ?tk17008
          case hy17008 => (intro w hSw; (try dsimp only at hSw); go_simp; (try with_reducible rfl))
          try simp only [Act.put, List.setIfInBounds_toArray, List.set_cons_zero, List.set_cons_succ]
          refine wpAnyH_take (i := 8) (oi := { dst := some 50, op := Go.Op.load 9 (Go.Operand.tmp 49), type := 9, pos := _, after := #[{ on := 7, ground := Go.Ground.data }], guard := none }) (v := ?vv17009) rfl (by kernel_rfl) (by kernel_rfl) (by kernel_rfl) (fun _ _ _ h => h) (Or.inl ⟨by rfl, ?hy17009⟩) (by assumption) ?tk17009
          case hy17009 => (intro w hSw; (try dsimp only at hSw); go_simp; (try with_reducible rfl))
          try simp only [Act.put, List.setIfInBounds_toArray, List.set_cons_zero, List.set_cons_succ]
          refine wpAnyH_take (i := 9) (oi := { dst := some 51, op := Go.Op.lookup 64 (Go.Operand.tmp 48) (Go.Operand.tmp 50) true, type := 112, pos := _, after := #[{ on := 6, ground := Go.Ground.data }, { on := 8, ground := Go.Ground.data }], guard := none }) (v := ?vv17010) rfl (by kernel_rfl) (by kernel_rfl) (by kernel_rfl) (fun _ _ _ h => h) (Or.inl ⟨by rfl, ?hy17010⟩) (by assumption) ?tk17010
          case hy17010 => (intro w hSw; have hl7 := hlk w hSw.2.2.2; (try dsimp only at hSw); go_simp; (try with_reducible rfl))
          try simp only [Act.put, List.setIfInBounds_toArray, List.set_cons_zero, List.set_cons_succ]
          refine wpAnyH_take (i := 10) (oi := { dst := some 41, op := Go.Op.move (Go.Operand.tmp 51), type := 112, pos := _, after := #[{ on := 9, ground := Go.Ground.data }], guard := none }) (v := ?vv17011) rfl (by kernel_rfl) (by kernel_rfl) (by kernel_rfl) (fun _ _ _ h => h) (Or.inl ⟨by rfl, ?hy17011⟩) (by assumption) ?tk17011
          case hy17011 => (intro w hSw; (try dsimp only at hSw); go_simp; (try with_reducible rfl))
          try simp only [Act.put, List.setIfInBounds_toArray, List.set_cons_zero, List.set_cons_succ]
          refine wpAnyH_take (i := 11) (oi := { dst := some 52, op := Go.Op.extract (Go.Operand.tmp 41) 0, type := 89, pos := _, after := #[{ on := 10, ground := Go.Ground.data }], guard := none }) (v := ?vv17012) rfl (by kernel_rfl) (by kernel_rfl) (by kernel_rfl) (fun _ _ _ h => h) (Or.inl ⟨by rfl, ?hy17012⟩) (by assumption) ?tk17012
          case hy17012 => (intro w hSw; (try dsimp only at hSw); go_simp; (try with_reducible rfl))
          try simp only [Act.put, List.setIfInBounds_toArray, List.set_cons_zero, List.set_cons_succ]
          refine wpAnyH_take (i := 12) (oi := { dst := some 53, op := Go.Op.extract (Go.Operand.tmp 41) 1, type := 4, pos := _, after := #[{ on := 10, ground := Go.Ground.data }, { on := 13, ground := Go.Ground.gcOnly Go.Departure.lateStores }], guard := none }) (v := ?vv17013) rfl (by kernel_rfl) (by kernel_rfl) (by kernel_rfl) (fun _ _ _ h => h) (Or.inl ⟨by rfl, ?hy17013⟩) (by assumption) ?tk17013
          case hy17013 => (intro w hSw; (try dsimp only at hSw); go_simp; (try with_reducible rfl))
          try simp only [Act.put, List.setIfInBounds_toArray, List.set_cons_zero, List.set_cons_succ]
          refine wpAnyH_take (i := 13) (oi := { dst := some 9, op := Go.Op.assign (Go.Operand.tmp 52), type := 89, pos := _, after := #[{ on := 11, ground := Go.Ground.data }, { on := 0, ground := Go.Ground.phase }, { on := 1, ground := Go.Ground.phase }, { on := 2, ground := Go.Ground.phase }, { on := 3, ground := Go.Ground.phase }, { on := 4, ground := Go.Ground.phase }, { on := 5, ground := Go.Ground.phase }, { on := 6, ground := Go.Ground.phase }, { on := 7, ground := Go.Ground.phase }, { on := 8, ground := Go.Ground.phase }, { on := 9, ground := Go.Ground.phase }, { on := 10, ground := Go.Ground.phase }, { on := 11, ground := Go.Ground.phase }, { on := 12, ground := Go.Ground.textOnly Go.Departure.lateStores }], guard := none }) (v := ?vv17014) rfl (by kernel_rfl) (by kernel_rfl) (by kernel_rfl) (fun _ _ _ h => h) (Or.inl ⟨by rfl, ?hy17014⟩) (by assumption) ?tk17014
          case hy17014 => (intro w hSw; (try dsimp only at hSw); go_simp; (try with_reducible rfl))
          try simp only [Act.put, List.setIfInBounds_toArray, List.set_cons_zero, List.set_cons_succ]
          refine wpAnyH_take (i := 14) (oi := { dst := some 10, op := Go.Op.assign (Go.Operand.tmp 53), type := 4, pos := _, after := #[{ on := 12, ground := Go.Ground.data }, { on := 13, ground := Go.Ground.chain }, { on := 0, ground := Go.Ground.phase }, { on := 1, ground := Go.Ground.phase }, { on := 2, ground := Go.Ground.phase }, { on := 3, ground := Go.Ground.phase }, { on := 4, ground := Go.Ground.phase }, { on := 5, ground := Go.Ground.phase }, { on := 6, ground := Go.Ground.phase }, { on := 7, ground := Go.Ground.phase }, { on := 8, ground := Go.Ground.phase }, { on := 9, ground := Go.Ground.phase }, { on := 10, ground := Go.Ground.phase }, { on := 11, ground := Go.Ground.phase }, { on := 12, ground := Go.Ground.phase }, { on := 13, ground := Go.Ground.phase }], guard := none }) (v := ?vv17015) rfl (by kernel_rfl) (by kernel_rfl) (by kernel_rfl) (fun _ _ _ h => h) (Or.inl ⟨by rfl, ?hy17015⟩) (by assumption) ?tk17015
          case hy17015 => (intro w hSw; (try dsimp only at hSw); go_simp; (try with_reducible rfl))
          try simp only [Act.put, List.setIfInBounds_toArray, List.set_cons_zero, List.set_cons_succ]
          refine wpAnyH_done (by kernel_rfl) ?_ _
          clear hHeld
          go_upto_region 15 with fail
          refine wp_region_held_drew (S := (fun w' => w'.cell? ⟨rb, 1, none⟩ = some (.int .i64 (n : Int)) ∧ w'.cell? ⟨p6, 1, none⟩ = some (.slice pa n ca))) (by kernel_rfl) ⟨rb1, q1⟩ (fun hHeld => ?_)
          refine wpAnyH_take (i := 0) (oi := { dst := some 72, op := Go.Op.move (Go.Operand.tmp 9), type := 89, pos := _, after := #[], guard := none }) (v := ?vv17016) rfl (by kernel_rfl) (by kernel_rfl) (by kernel_rfl) (fun _ _ _ h => h) (Or.inl ⟨by rfl, ?hy17016⟩) (by assumption) ?tk17016
          case hy17016 => (intro w hSw; (try dsimp only at hSw); go_simp; (try with_reducible rfl))
          try simp only [Act.put, List.setIfInBounds_toArray, List.set_cons_zero, List.set_cons_succ]
          refine wpAnyH_take (i := 1) (oi := { dst := some 73, op := Go.Op.binOp Go.BinOp.eql 89 (Go.Operand.tmp 72) (Go.Operand.const (Go.Value.pointer none)) 89, type := 4, pos := _, after := #[{ on := 0, ground := Go.Ground.data }], guard := none }) (v := ?vv17017) rfl (by kernel_rfl) (by kernel_rfl) (by kernel_rfl) (fun _ _ _ h => h) (Or.inl ⟨by rfl, ?hy17017⟩) (by assumption) ?tk17017
          case hy17017 => (intro w hSw; (try dsimp only at hSw); go_simp; (try with_reducible rfl))
          try simp only [Act.put, List.setIfInBounds_toArray, List.set_cons_zero, List.set_cons_succ]
          refine wpAnyH_take (i := 2) (oi := { dst := some 74, op := Go.Op.move (Go.Operand.tmp 73), type := 4, pos := _, after := #[{ on := 1, ground := Go.Ground.data }], guard := none }) (v := ?vv17018) rfl (by kernel_rfl) (by kernel_rfl) (by kernel_rfl) (fun _ _ _ h => h) (Or.inl ⟨by rfl, ?hy17018⟩) (by assumption) ?tk17018
          case hy17018 => (intro w hSw; (try dsimp only at hSw); go_simp; (try with_reducible rfl))
          try simp only [Act.put, List.setIfInBounds_toArray, List.set_cons_zero, List.set_cons_succ]
          refine wpAnyH_take (i := 3) (oi := { dst := some 75, op := Go.Op.move (Go.Operand.tmp 9), type := 89, pos := _, after := #[{ on := 2, ground := Go.Ground.guard }], guard := some (2, false) }) (v := ?vv17019) rfl (by kernel_rfl) (by kernel_rfl) (by kernel_rfl) (fun _ _ _ h => h) (Or.inl ⟨by rfl, ?hy17019⟩) (by assumption) ?tk17019
          case hy17019 => (intro w hSw; (try dsimp only at hSw); go_simp; (try with_reducible rfl))
          try simp only [Act.put, List.setIfInBounds_toArray, List.set_cons_zero, List.set_cons_succ]
          refine wpAnyH_take (i := 4) (oi := { dst := some 76, op := Go.Op.nilCheck (Go.Operand.tmp 75), type := 0, pos := _, after := #[{ on := 3, ground := Go.Ground.data }, { on := 2, ground := Go.Ground.guard }], guard := some (2, false) }) (v := ?vv17020) rfl (by kernel_rfl) (by kernel_rfl) (by kernel_rfl) (fun _ _ _ h => h) (Or.inl ⟨by rfl, ?hy17020⟩) (by assumption) ?tk17020
          case hy17020 => (intro w hSw; (try dsimp only at hSw); go_simp; (try with_reducible rfl))
          try simp only [Act.put, List.setIfInBounds_toArray, List.set_cons_zero, List.set_cons_succ]
          refine wpAnyH_take (i := 5) (oi := { dst := some 77, op := Go.Op.fieldAddr 88 (Go.Operand.tmp 76) 1, type := 0, pos := _, after := #[{ on := 4, ground := Go.Ground.data }, { on := 2, ground := Go.Ground.guard }], guard := some (2, false) }) (v := ?vv17021) rfl (by kernel_rfl) (by kernel_rfl) (by kernel_rfl) (fun _ _ _ h => h) (Or.inl ⟨by rfl, ?hy17021⟩) (by assumption) ?tk17021
          case hy17021 => (intro w hSw; (try dsimp only at hSw); go_simp; (try with_reducible rfl))
          try simp only [Act.put, List.setIfInBounds_toArray, List.set_cons_zero, List.set_cons_succ]
          refine wpAnyH_take (i := 6) (oi := { dst := some 78, op := Go.Op.load 3 (Go.Operand.tmp 77), type := 3, pos := _, after := #[{ on := 5, ground := Go.Ground.data }, { on := 2, ground := Go.Ground.guard }], guard := some (2, false) }) (v := ?vv17022) rfl (by kernel_rfl) (by kernel_rfl) (by kernel_rfl) (fun _ _ _ h => h) (Or.inl ⟨by rfl, ?hy17022⟩) (by assumption) ?tk17022
          case hy17022 => (intro w hSw; (try dsimp only at hSw); go_simp; (try with_reducible rfl))
          try simp only [Act.put, List.setIfInBounds_toArray, List.set_cons_zero, List.set_cons_succ]
          refine wpAnyH_take (i := 7) (oi := { dst := some 79, op := Go.Op.fieldAddr 24 (Go.Operand.tmp 6) 1, type := 0, pos := _, after := #[{ on := 2, ground := Go.Ground.guard }], guard := some (2, false) }) (v := ?vv17023) rfl (by kernel_rfl) (by kernel_rfl) (by kernel_rfl) (fun _ _ _ h => h) (Or.inl ⟨by rfl, ?hy17023⟩) (by assumption) ?tk17023
          case hy17023 => (intro w hSw; (try dsimp only at hSw); go_simp; (try with_reducible rfl))
          try simp only [Act.put, List.setIfInBounds_toArray, List.set_cons_zero, List.set_cons_succ]
          refine wpAnyH_take (i := 8) (oi := { dst := some 80, op := Go.Op.load 22 (Go.Operand.tmp 79), type := 22, pos := _, after := #[{ on := 7, ground := Go.Ground.data }, { on := 2, ground := Go.Ground.guard }], guard := some (2, false) }) (v := ?vv17024) rfl (by kernel_rfl) (by kernel_rfl) (by kernel_rfl) (fun _ _ _ h => h) (Or.inl ⟨by rfl, ?hy17024⟩) (by assumption) ?tk17024
          case hy17024 => (intro w hSw; (try dsimp only at hSw); go_simp; (try with_reducible rfl))
          try simp only [Act.put, List.setIfInBounds_toArray, List.set_cons_zero, List.set_cons_succ]
          refine wpAnyH_take (i := 9) (oi := { dst := some 81, op := Go.Op.call { callee := Go.Callee.builtin Go.Builtin.len, args := #[Go.Operand.tmp 80], argTypes := #[22] }, type := 3, pos := _, after := #[{ on := 8, ground := Go.Ground.data }, { on := 2, ground := Go.Ground.guard }], guard := some (2, false) }) (v := ?vv17025) rfl (by kernel_rfl) (by kernel_rfl) (by kernel_rfl) (fun _ _ _ h => h) (Or.inl ⟨by rfl, ?hy17025⟩) (by assumption) ?tk17025
          case hy17025 => (intro w hSw; (try dsimp only at hSw); go_simp; (try with_reducible rfl))
          try simp only [Act.put, List.setIfInBounds_toArray, List.set_cons_zero, List.set_cons_succ]
          refine wpAnyH_take (i := 10) (oi := { dst := some 82, op := Go.Op.binOp Go.BinOp.neq 3 (Go.Operand.tmp 78) (Go.Operand.tmp 81) 3, type := 4, pos := _, after := #[{ on := 6, ground := Go.Ground.data }, { on := 9, ground := Go.Ground.data }, { on := 2, ground := Go.Ground.guard }], guard := some (2, false) }) (v := ?vv17026) rfl (by kernel_rfl) (by kernel_rfl) (by kernel_rfl) (fun _ _ _ h => h) (Or.inl ⟨by rfl, ?hy17026⟩) (by assumption) ?tk17026
          case hy17026 => (intro w hSw; (try dsimp only at hSw); go_simp; (try with_reducible rfl))
          try simp only [Act.put, List.setIfInBounds_toArray, List.set_cons_zero, List.set_cons_succ]
          refine wpAnyH_take (i := 11) (oi := { dst := some 83, op := Go.Op.pick (Go.Operand.tmp 74) (Go.Operand.const (Go.Value.bool true)) (Go.Operand.tmp 82), type := 4, pos := _, after := #[{ on := 2, ground := Go.Ground.data }, { on := 10, ground := Go.Ground.data }], guard := none }) (v := ?vv17027) rfl (by kernel_rfl) (by kernel_rfl) (by kernel_rfl) (fun _ _ _ h => h) (Or.inl ⟨by rfl, ?hy17027⟩) (by assumption) ?tk17027
          case hy17027 => (intro w hSw; (try dsimp only at hSw); go_simp; (try with_reducible rfl))
          try simp only [Act.put, List.setIfInBounds_toArray, List.set_cons_zero, List.set_cons_succ]
          refine wpAnyH_done (by kernel_rfl) ?_ _
          go_wp2
          go_roundg 0
          case measure => omega
          case rel =>
            obtain ⟨bP, bj, bw⟩ := HBD.out
            obtain ⟨_, _, _, hsP⟩ := HP.out
            refine ⟨1, by omega, by go_num, ?_⟩
            have b1 : Below w1.heap.size w1 wd := bw.trans ((bP.mono (by omega)).trans (bj.mono (by omega)))
            exact below_dr (below_dr b1)
    · have hi0 : i = 1 := by omega
      subst hi0
      obtain ⟨HE, HN, HS, HR, HC, D0, D1, D2, hb0, bZ⟩ := HQ.out
      have bR := bZ.trans (bw.mono (by omega))
      have b0r : Below w0.heap.size w0 wr := hb0.trans (bR.mono (by omega))
      have d0 := cell_later b0r D0
      have d1 := cell_later b0r D1
      obtain ⟨wA, rfl⟩ : ∃ x, x = wr := ⟨_, rfl⟩
      have HE1 := HE.below bR
      have HN1 := HN.below bR
      have HS1 := HS.below bR
      have HR1 := HR.below bR
      have HC1 := cell_later bR HC
      have HX := hideIt (And.intro HE1 (And.intro HN1 (And.intro HS1 (And.intro HR1 (And.intro HC1 (And.intro D2 (And.intro bR b0r)))))))
      obtain ⟨z0, z1, z2, zf⟩ := HZ.out
      have HZ1 := hideIt (And.intro (cell_later bw z0) (And.intro (cell_later bw z1) (And.intro (cell_later bw z2) (fun o => (World.frozen?_of_block (a := ⟨w.heap.size, o, none⟩) (bw.block w.heap.size (by omega))).trans (zf o)))))
      clear HE HN HS HR HC D0 D1 D2 hb0 bZ HE1 HN1 HS1 HR1 HC1 bw bR b0r z0 z1 z2 zf HQ HZ
      go_wp2_with fail
      go_loopg [89, 11] 1 (fun gg v r wr => ∃ i : Nat, i + gg = 1 ∧ v = .int .i64 (i : Int) ∧ (i = 0 → r = .slice none 0 0 ∧ wA = wr) ∧ (i = 1 → (0 < B ∧ FactsDone w wr E SB mi rb n c ∧ wr.cell? ⟨w.heap.size, 0, none⟩ = some (.int .u8 0) ∧ wr.cell? ⟨w.heap.size, 1, none⟩ = some (.int .i64 0) ∧ wr.cell? ⟨w.heap.size, 2, none⟩ = some (.int .i64 0) ∧ ∀ o, wr.frozen? ⟨w.heap.size, o, none⟩ = false)))
      case atStart => exact ⟨0, by omega, rfl, fun _ => ⟨rfl, rfl⟩, fun h => by omega⟩
      case round =>
        obtain ⟨i, hi', rfl, hI0, hI1⟩ := hrel
        by_cases him : i < 1
        · have hi0 : i = 0 := by omega
          subst hi0
          obtain ⟨rfl, rfl⟩ := hI0 rfl
          clear hI0 hI1
          go_wp2_with fail
          have bP := one_alloc wA (.cells #[.string nm, .slice pa n ca] 24)
          have hsP : (wA.alloc (.cells #[.string nm, .slice pa n ca] 24)).heap.size = wA.heap.size + 1 := by simp
          have q0 : (wA.alloc (.cells #[.string nm, .slice pa n ca] 24)).cell? ⟨wA.heap.size, 0, none⟩ = some (.string nm) := by simp
          have HP := hideIt (And.intro bP (And.intro q0 hsP))
          clear bP q0 hsP d0 d1
          generalize wA.alloc (.cells #[.string nm, .slice pa n ca] 24) = wb at *
          generalize hp13 : wA.heap.size = p13 at *
          obtain ⟨base, hbase⟩ : ∃ base, wb.heap.size = base := ⟨_, rfl⟩
          have hbp : base = p13 + 1 := by rw [← hbase]; exact HP.out.2.2
          go_loopg [98, 11] n (fun gg v r wr => ∃ j : Nat, j + gg = n ∧ v = .int .i64 (j : Int) ∧ wr.ownsRow base 99 1 r j (List.replicate j (.int .u32 0)) ∧ (∃ vals, SymsAt wr SB mi vals (decide (0 < j)) ∧ (j = 0 → vals = .slice none 0 0)) ∧ Ws (fun q => q = SB ∨ q = mi ∨ base ≤ q) wb wr)
          case atStart =>
            obtain ⟨bP, q0, hsP⟩ := HP.out
            obtain ⟨HE, HN, HS, HR, HC, D2, bR, b0r⟩ := HX.out
            rw [← hp13] at bP
            exact ⟨0, by omega, rfl, ⟨rfl, .inl ⟨rfl, rfl⟩⟩, ⟨_, HS.below bP, fun _ => rfl⟩, Ws.refl _ _⟩
          case round =>
            obtain ⟨j, hj, rfl, own, ⟨vals, HSj, hvals⟩, WS⟩ := hrel
            obtain ⟨bP, q0, hsP⟩ := HP.out
            obtain ⟨HE, HN, HS, HR, HC, D2, bR, b0r⟩ := HX.out
            rw [← hp13] at bP
            have hsj := WS.size
            have kj : ∀ q, q < base → q ≠ SB → q ≠ mi → wr.heap[q]? = wb.heap[q]? := fun q h1 h2 h3 => WS.block q (by omega) (fun e => by omega)
            have kA : ∀ q, q < p13 → q ≠ SB → q ≠ mi → wr.heap[q]? = wA.heap[q]? := fun q h1 h2 h3 => (kj q (by omega) h2 h3).trans (bP.block q (by omega))
            by_cases hjn : j < n
            · have i0 : (0 : Int) ≤ j := by omega
              have i1 : (j : Int) < (n : Int) := by omega
              obtain ⟨g, rfl, a0, a1, a2, a3⟩ : ∃ g, pa = some ⟨g, 0, none⟩ ∧ w0.cell? ⟨g, j * 4, none⟩ = some (.int .u8 1) ∧ w0.cell? ⟨g, j * 4 + 1, none⟩ = some (.int .i64 0) ∧ w0.cell? ⟨g, j * 4 + 2, none⟩ = some (.int .i64 1) ∧ w0.cell? ⟨g, j * 4 + 3, none⟩ = some (.string ByteArray.empty) := by
                obtain ⟨p, c, e, _, h⟩ := D2
                simp only [Value.slice.injEq] at e
                obtain ⟨rfl, _, rfl⟩ := e
                rcases h with h | ⟨g, e, h⟩
                · omega
                · exact ⟨g, e, h j hjn⟩
              have hs0 := b0r.size
              have b0j : Below w0.heap.size w0 wr := ⟨WS.os.trans (bP.os.trans b0r.os), WS.tape.trans (bP.tape.trans b0r.tape), WS.output.trans (bP.output.trans b0r.output), by omega, fun q hq => (kA q (by omega) (by omega) (by omega)).trans (b0r.block q hq)⟩
              have a0 := cell_later b0j a0
              have a1 := cell_later b0j a1
              have a2 := cell_later b0j a2
              have a3 := cell_later b0j a3
              obtain ⟨pr, cr, hr⟩ := own_shape own
              subst hr
              have bT := one_alloc wr (.cells #[.int .u8 1, .int .i64 0, .int .i64 1, .string ByteArray.empty] 34)
              have hrC : some CB ≠ (Value.slice pr j cr).ownBlock := fun e => by have := (own.lt CB e.symm).1; omega
              have hrE : some E ≠ (Value.slice pr j cr).ownBlock := fun e => by have := (own.lt E e.symm).1; omega
              have hrP : some wr.heap.size ≠ (Value.slice pr j cr).ownBlock := fun e => by have := (own.lt _ e.symm).2; omega
              have cb0 := cell_later bT ((World.cell?_of_block (a := ⟨CB, 0, none⟩) (kA CB (by omega) hd1 hd2)).trans HC)
              have e4 := cell_later bT ((World.cell?_of_block (a := ⟨E, 4, none⟩) (kA E (by omega) hd5 hd6)).trans (HE.get HCC.out.2.1 (by omega)))
              have hint := intern_any (w := World.drew (wr.alloc (.cells #[.int .u8 1, .int .i64 0, .int .i64 1, .string ByteArray.empty] 34))) ((HSj.below bT).keep rfl rfl) hvals hd14
              unfold tOne at hint
              have HOWN := hideIt (own_one (own.alloc (.cells #[.int .u8 1, .int .i64 0, .int .i64 1, .string ByteArray.empty] 34)) (w' := World.drew (wr.alloc (.cells #[.int .u8 1, .int .i64 0, .int .i64 1, .string ByteArray.empty] 34))) (fun _ _ => rfl))
              have HJ := hideIt (And.intro own (And.intro WS bT))
              have hsT : (wr.alloc (.cells #[.int .u8 1, .int .i64 0, .int .i64 1, .string ByteArray.empty] 34)).heap.size = wr.heap.size + 1 := by simp
              have hCBd : CB < (wr.alloc (.cells #[.int .u8 1, .int .i64 0, .int .i64 1, .string ByteArray.empty] 34)).heap.size := by omega
              have hEd : E < (wr.alloc (.cells #[.int .u8 1, .int .i64 0, .int .i64 1, .string ByteArray.empty] 34)).heap.size := by omega
              have hP15 : wr.heap.size < (wr.alloc (.cells #[.int .u8 1, .int .i64 0, .int .i64 1, .string ByteArray.empty] 34)).heap.size := by omega
              have hbd : base ≤ (wr.alloc (.cells #[.int .u8 1, .int .i64 0, .int .i64 1, .string ByteArray.empty] 34)).heap.size := by omega
              have HST := hideIt hsT
              clear HE HN HS HR HC D2 bR b0r bP q0 hsP own HSj hvals WS kj kA b0j bT hsT
              go_upto_region 26 with fail
              have t0 : (wr.alloc (.cells #[.int .u8 1, .int .i64 0, .int .i64 1, .string ByteArray.empty] 34)).cell? ⟨wr.heap.size, 0, none⟩ = some (.int .u8 1) := by simp
              have t1 : (wr.alloc (.cells #[.int .u8 1, .int .i64 0, .int .i64 1, .string ByteArray.empty] 34)).cell? ⟨wr.heap.size, 1, none⟩ = some (.int .i64 0) := by simp
              have t2 : (wr.alloc (.cells #[.int .u8 1, .int .i64 0, .int .i64 1, .string ByteArray.empty] 34)).cell? ⟨wr.heap.size, 2, none⟩ = some (.int .i64 1) := by simp
              have t3 : (wr.alloc (.cells #[.int .u8 1, .int .i64 0, .int .i64 1, .string ByteArray.empty] 34)).cell? ⟨wr.heap.size, 3, none⟩ = some (.string ByteArray.empty) := by simp
              clear a0 a1 a2 a3
              generalize wr.alloc (.cells #[.int .u8 1, .int .i64 0, .int .i64 1, .string ByteArray.empty] 34) = wd at *
              generalize hp15 : wr.heap.size = p15 at *
              have hPS : p15 ≠ SB := by omega
              have hPM : p15 ≠ mi := by omega
              refine wp_region_held_drew (S := (fun w' => w'.cell? ⟨CB, 0, none⟩ = some (.pointer (some ⟨E, 0, none⟩)) ∧ w'.cell? ⟨E, 4, none⟩ = some (.pointer (some ⟨SB, 0, none⟩)) ∧ w'.cell? ⟨p15, 0, none⟩ = some (.int .u8 1) ∧ w'.cell? ⟨p15, 1, none⟩ = some (.int .i64 0) ∧ w'.cell? ⟨p15, 2, none⟩ = some (.int .i64 1) ∧ w'.cell? ⟨p15, 3, none⟩ = some (.string ByteArray.empty))) (by kernel_rfl) ⟨cb0, e4, t0, t1, t2, t3⟩ (fun hHeld => ?_)
              refine wpAnyH_take (i := 0) (oi := { dst := some 102, op := Go.Op.move (Go.Operand.tmp 11), type := 72, pos := _, after := #[], guard := none }) (v := ?vv17028) rfl (by kernel_rfl) (by kernel_rfl) (by kernel_rfl) (fun _ _ _ h => h) (Or.inl ⟨by rfl, ?hy17028⟩) (by assumption) ?tk17028
              case hy17028 => (intro w hSw; (try dsimp only at hSw); go_simp; (try with_reducible rfl))
              try simp only [Act.put, List.setIfInBounds_toArray, List.set_cons_zero, List.set_cons_succ]
              refine wpAnyH_take (i := 1) (oi := { dst := some 103, op := Go.Op.move (Go.Operand.tmp 0), type := 76, pos := _, after := #[], guard := none }) (v := ?vv17029) rfl (by kernel_rfl) (by kernel_rfl) (by kernel_rfl) (fun _ _ _ h => h) (Or.inl ⟨by rfl, ?hy17029⟩) (by assumption) ?tk17029
              case hy17029 => (intro w hSw; (try dsimp only at hSw); go_simp; (try with_reducible rfl))
              try simp only [Act.put, List.setIfInBounds_toArray, List.set_cons_zero, List.set_cons_succ]
              refine wpAnyH_take (i := 2) (oi := { dst := some 104, op := Go.Op.nilCheck (Go.Operand.tmp 103), type := 0, pos := _, after := #[{ on := 1, ground := Go.Ground.data }], guard := none }) (v := ?vv17030) rfl (by kernel_rfl) (by kernel_rfl) (by kernel_rfl) (fun _ _ _ h => h) (Or.inl ⟨by rfl, ?hy17030⟩) (by assumption) ?tk17030
              case hy17030 => (intro w hSw; (try dsimp only at hSw); go_simp; (try with_reducible rfl))
              try simp only [Act.put, List.setIfInBounds_toArray, List.set_cons_zero, List.set_cons_succ]
              refine wpAnyH_take (i := 3) (oi := { dst := some 105, op := Go.Op.fieldAddr 79 (Go.Operand.tmp 104) 0, type := 0, pos := _, after := #[{ on := 2, ground := Go.Ground.data }], guard := none }) (v := ?vv17031) rfl (by kernel_rfl) (by kernel_rfl) (by kernel_rfl) (fun _ _ _ h => h) (Or.inl ⟨by rfl, ?hy17031⟩) (by assumption) ?tk17031
              case hy17031 => (intro w hSw; (try dsimp only at hSw); go_simp; (try with_reducible rfl))
              try simp only [Act.put, List.setIfInBounds_toArray, List.set_cons_zero, List.set_cons_succ]
              refine wpAnyH_take (i := 4) (oi := { dst := some 106, op := Go.Op.load 43 (Go.Operand.tmp 105), type := 43, pos := _, after := #[{ on := 3, ground := Go.Ground.data }], guard := none }) (v := ?vv17032) rfl (by kernel_rfl) (by kernel_rfl) (by kernel_rfl) (fun _ _ _ h => h) (Or.inl ⟨by rfl, ?hy17032⟩) (by assumption) ?tk17032
              case hy17032 => (intro w hSw; (try dsimp only at hSw); go_simp; (try with_reducible rfl))
              try simp only [Act.put, List.setIfInBounds_toArray, List.set_cons_zero, List.set_cons_succ]
              refine wpAnyH_take (i := 5) (oi := { dst := some 107, op := Go.Op.nilCheck (Go.Operand.tmp 106), type := 0, pos := _, after := #[{ on := 4, ground := Go.Ground.data }], guard := none }) (v := ?vv17033) rfl (by kernel_rfl) (by kernel_rfl) (by kernel_rfl) (fun _ _ _ h => h) (Or.inl ⟨by rfl, ?hy17033⟩) (by assumption) ?tk17033
              case hy17033 => (intro w hSw; (try dsimp only at hSw); go_simp; (try with_reducible rfl))
              try simp only [Act.put, List.setIfInBounds_toArray, List.set_cons_zero, List.set_cons_succ]
              refine wpAnyH_take (i := 6) (oi := { dst := some 108, op := Go.Op.fieldAddr 75 (Go.Operand.tmp 107) 1, type := 0, pos := _, after := #[{ on := 5, ground := Go.Ground.data }], guard := none }) (v := ?vv17034) rfl (by kernel_rfl) (by kernel_rfl) (by kernel_rfl) (fun _ _ _ h => h) (Or.inl ⟨by rfl, ?hy17034⟩) (by assumption) ?tk17034
              case hy17034 => (intro w hSw; (try dsimp only at hSw); go_simp; (try with_reducible rfl))
              try simp only [Act.put, List.setIfInBounds_toArray, List.set_cons_zero, List.set_cons_succ]
              refine wpAnyH_take (i := 7) (oi := { dst := some 109, op := Go.Op.load 62 (Go.Operand.tmp 108), type := 62, pos := _, after := #[{ on := 6, ground := Go.Ground.data }], guard := none }) (v := ?vv17035) rfl (by kernel_rfl) (by kernel_rfl) (by kernel_rfl) (fun _ _ _ h => h) (Or.inl ⟨by rfl, ?hy17035⟩) (by assumption) ?tk17035
              case hy17035 => (intro w hSw; (try dsimp only at hSw); go_simp; (try with_reducible rfl))
              try simp only [Act.put, List.setIfInBounds_toArray, List.set_cons_zero, List.set_cons_succ]
              refine wpAnyH_take (i := 8) (oi := { dst := some 110, op := Go.Op.load 34 (Go.Operand.tmp 15), type := 34, pos := _, after := #[], guard := none }) (v := ?vv17036) rfl (by kernel_rfl) (by kernel_rfl) (by kernel_rfl) (fun _ _ _ h => h) (Or.inl ⟨by rfl, ?hy17036⟩) (by assumption) ?tk17036
              case hy17036 => (intro w hSw; (try dsimp only at hSw); go_simp; (try with_reducible rfl))
              try simp only [Act.put, List.setIfInBounds_toArray, List.set_cons_zero, List.set_cons_succ]
              refine wpAnyH_ready (rs := [9]) (by kernel_rfl) (by simp) ?_
              refine AllReadyH.cons (o := { dst := some 111, op := Go.Op.call { callee := Go.Callee.value (Go.Operand.func 29), args := #[Go.Operand.tmp 109, Go.Operand.tmp 110], argTypes := #[62, 34] }, type := 99, pos := _, after := #[{ on := 7, ground := Go.Ground.data }, { on := 8, ground := Go.Ground.data }], guard := none }) rfl (fun K' hK' => ?_) AllReadyH.nil
              go_simp
              go_at_call 29
              refine hint.mono ?_
              rintro e w5 ⟨rfl, ⟨vals5, HS5⟩, W5⟩
              have k5 : ∀ q, q < wd.heap.size → q ≠ SB → q ≠ mi → w5.heap[q]? = wd.heap[q]? := fun q h1 h2 h3 => W5.block q h1 (fun e => by omega)
              have own5 := own_one HOWN.out (fun q hq => k5 q (HOWN.out.lt q hq).2 (by have := (HOWN.out.lt q hq).1; omega) (by have := (HOWN.out.lt q hq).1; omega))
              have eCB := k5 CB hCBd hd1 hd2
              have eE := k5 E hEd hd5 hd6
              have eP := k5 p15 hP15 hPS hPM
              have f0 := (World.cell?_of_block (a := ⟨CB, 0, none⟩) eCB).trans cb0
              have f1 := (World.cell?_of_block (a := ⟨E, 4, none⟩) eE).trans e4
              have f2 := (World.cell?_of_block (a := ⟨p15, 0, none⟩) eP).trans t0
              have f3 := (World.cell?_of_block (a := ⟨p15, 1, none⟩) eP).trans t1
              have f4 := (World.cell?_of_block (a := ⟨p15, 2, none⟩) eP).trans t2
              have f5 := (World.cell?_of_block (a := ⟨p15, 3, none⟩) eP).trans t3
              have hb5 : base ≤ w5.heap.size := by have h := W5.size; exact Nat.le_trans hbd h
              have HX5 := hideIt (And.intro HS5 (And.intro W5 own5))
              have HO5 := hideIt own5
              clear own5 HS5 W5 k5 eCB eE eP hint
              clear hHeld
              refine hK'.out _ _ ⟨f0, f1, f2, f3, f4, f5⟩ (fun hHeld => ?_)
              clear hK' K'
              try simp only [Act.put, List.setIfInBounds_toArray, List.set_cons_zero, List.set_cons_succ]
              refine wpAnyH_ready (rs := [10]) (by kernel_rfl) (by simp) ?_
              refine AllReadyH.cons (o := { dst := some 112, op := Go.Op.buildSlice 72 1 #[(0, Go.Operand.tmp 111)], type := 72, pos := _, after := #[{ on := 9, ground := Go.Ground.data }], guard := none }) rfl (fun K' hK' => ?_) AllReadyH.nil
              go_simp
              clear hHeld
              refine hK'.out _ _ ⟨cell_later (one_alloc _ _) f0, cell_later (one_alloc _ _) f1, cell_later (one_alloc _ _) f2, cell_later (one_alloc _ _) f3, cell_later (one_alloc _ _) f4, cell_later (one_alloc _ _) f5⟩ (fun hHeld => ?_)
              clear hK' K'
              try simp only [Act.put, List.setIfInBounds_toArray, List.set_cons_zero, List.set_cons_succ]
              refine wpAnyH_ready (rs := [11]) (by kernel_rfl) (by simp) ?_
              refine AllReadyH.cons (o := { dst := some 113, op := Go.Op.call { callee := Go.Callee.builtin Go.Builtin.append, args := #[Go.Operand.tmp 102, Go.Operand.tmp 112], argTypes := #[72, 72] }, type := 72, pos := _, after := #[{ on := 0, ground := Go.Ground.data }, { on := 10, ground := Go.Ground.data }, { on := 9, ground := Go.Ground.chain }], guard := none }) rfl (fun K' hK' => ?_) AllReadyH.nil
              refine ite_take (by rfl) ?_
              refine wp_append_own_at (.tmp 102) (.tmp 112) 72 rfl base 99 i9 (.int .u32 0) 1 4 Try.underlying72 hi9 hx0 hx1 hx2 rfl (by decide) (.slice pr j cr) j (List.replicate j (.int .u32 0)) rfl (HO5.out.alloc _) ⟨w5.heap.size, 0, none⟩ 1 1 [.int .u32 0] rfl rfl (cell_new1 _ _ _) (by simp [Value.oneCell']) (by unfold maxLen; omega) (by omega) (by simp <;> omega) ?_
              intro v' w6 hown' hgrow hblk
              obtain ⟨p', c', rfl⟩ := own_shape hown'
              have h0 := hgrow.cell (a := ⟨CB, 0, none⟩) (hHeld.1) hrC
              have h1 := hgrow.cell (a := ⟨E, 4, none⟩) (hHeld.2.1) hrE
              have h2 := hgrow.cell (a := ⟨p15, 0, none⟩) (hHeld.2.2.1) hrP
              have h3 := hgrow.cell (a := ⟨p15, 1, none⟩) (hHeld.2.2.2.1) hrP
              have h4 := hgrow.cell (a := ⟨p15, 2, none⟩) (hHeld.2.2.2.2.1) hrP
              have h5 := hgrow.cell (a := ⟨p15, 3, none⟩) (hHeld.2.2.2.2.2) hrP
              have HG := hideIt (And.intro hown' (And.intro hgrow hblk))
              clear hown' hgrow hblk
              clear hHeld
              refine hK'.out _ _ ⟨h0, h1, h2, h3, h4, h5⟩ (fun hHeld => ?_)
              clear hK' K'
              try simp only [Act.put, List.setIfInBounds_toArray, List.set_cons_zero, List.set_cons_succ]
              refine wpAnyH_take (i := 12) (oi := { dst := some 11, op := Go.Op.assign (Go.Operand.tmp 113), type := 72, pos := _, after := #[{ on := 11, ground := Go.Ground.data }, { on := 11, ground := Go.Ground.chain }, { on := 0, ground := Go.Ground.phase }, { on := 1, ground := Go.Ground.phase }, { on := 2, ground := Go.Ground.phase }, { on := 3, ground := Go.Ground.phase }, { on := 4, ground := Go.Ground.phase }, { on := 5, ground := Go.Ground.phase }, { on := 6, ground := Go.Ground.phase }, { on := 7, ground := Go.Ground.phase }, { on := 8, ground := Go.Ground.phase }, { on := 9, ground := Go.Ground.phase }, { on := 10, ground := Go.Ground.phase }, { on := 11, ground := Go.Ground.phase }], guard := none }) (v := ?vv17037) rfl (by kernel_rfl) (by kernel_rfl) (by kernel_rfl) (fun _ _ _ h => h) (Or.inl ⟨by rfl, ?hy17037⟩) (by assumption) ?tk17037
              case hy17037 => (intro w hSw; (try dsimp only at hSw); go_simp; (try with_reducible rfl))
              try simp only [Act.put, List.setIfInBounds_toArray, List.set_cons_zero, List.set_cons_succ]
              refine wpAnyH_done (by kernel_rfl) ?_ _
              go_wp2
              go_roundg (n - (j + 1))
              case measure => omega
              case rel =>
                obtain ⟨own, WS, bT⟩ := HJ.out
                obtain ⟨HS5, W5, own5⟩ := HX5.out
                obtain ⟨own6, hgrow, hblk⟩ := HG.out
                rw [← hp15] at bT
                have hsT := HST.out
                have bN := one_alloc w5 (.cells #[.int .u32 0] 99)
                have hsN : (w5.alloc (.cells #[.int .u32 0] 99)).heap.size = w5.heap.size + 1 := by simp
                have hs5 : wd.heap.size ≤ w5.heap.size := W5.size
                have k6 : ∀ q, q < w5.heap.size → some q ≠ (Value.slice pr j cr).ownBlock → w6.heap[q]? = w5.heap[q]? := fun q h1 h2 => (hgrow.block q (by omega) h2).trans (bN.block q h1)
                have hqo : ∀ q, (Value.slice pr j cr).ownBlock = some q → base ≤ q := fun q hq => (own.lt q hq).1
                refine ⟨j + 1, by omega, by go_num, ?_, ⟨vals5, ?_, fun h => by omega⟩, ?_⟩
                · rw [List.replicate_succ']
                  exact own6
                · rw [show decide (0 < j + 1) = true by simp]
                  have := HS5.lt
                  exact HS5.keep (k6 SB this.1 (fun e => by have := hqo SB e.symm; omega)) (k6 mi this.2 (fun e => by have := hqo mi e.symm; omega))
                · refine ⟨?_, ?_, ?_, ?_, fun q h1 h2 => ?_⟩
                  · exact hgrow.os.trans (bN.os.trans (W5.os.trans (bT.os.trans WS.os)))
                  · exact hgrow.tape.trans (bN.tape.trans (W5.tape.trans (bT.tape.trans WS.tape)))
                  · exact hgrow.output.trans (bN.output.trans (W5.output.trans (bT.output.trans WS.output)))
                  · have := hgrow.size
                    have := WS.size
                    omega
                  · have h3 : q < wr.heap.size := by have := WS.size; omega
                    exact (k6 q (by omega) (fun e => h2 (.inr (.inr (hqo q e.symm))))).trans ((W5.block q (by show q < wd.heap.size; omega) (fun e => by rcases e with e | e; exact h2 (.inl e); exact h2 (.inr (.inl e)))).trans ((bT.block q h3).trans (WS.block q h1 h2)))
            · have hjn' : n = j := by omega
              subst hjn'
              obtain ⟨pr, cr, hr⟩ := own_shape own
              subst hr
              have hsA := bP.size
              have hro : ∀ q, (Value.slice pr n cr).ownBlock = some q → base ≤ q := fun q hq => (own.lt q hq).1
              have hvb : (Value.slice pr n cr).ownBlock ≠ some rb := fun e => by have := hro rb e; omega
              have RZ := RowZ.of_own own hn0
              have HRr := HR.blk (kA rb (by omega) hd12 hd13)
              have HEr := HE.blk (kA E (by omega) hd5 hd6)
              have HNr := HN.blk (kA nb (by omega) hd8 hd9)
              have hins := insert_new (w := World.drew wr) (HRr.blk rfl) rfl rfl rfl rfl (RZ.wr hvb ((Wr.refl rb wr).drew)) hvb (by omega) (-1)
              have hlk : ∀ w', w'.heap[nb]? = wr.heap[nb]? → (Instr.lookup 64 (.map (some nb)) (.string nm) false).run Try.prog w' = .ok (.pointer (some ⟨rb, 0, none⟩)) w' := fun w' e => by
                have := (HNr.blk e).look1 true
                rw [hfn, HNM.out] at this
                exact this
              have cb0 := (World.cell?_of_block (a := ⟨CB, 0, none⟩) (kA CB (by omega) hd1 hd2)).trans HC
              have e6 := HEr.get HCC.out.2.2.1 (by omega)
              have q0 := (World.cell?_of_block (a := ⟨p13, 0, none⟩) (kj p13 (by omega) (by omega) (by omega))).trans q0
              have hCBd : CB < wr.heap.size := by omega
              have hEd : E < wr.heap.size := by omega
              have hnbd : nb < wr.heap.size := by omega
              have hp13l : p13 < wr.heap.size := by omega
              have hp13r : p13 ≠ rb := by omega
              have kZ := kA w.heap.size (by omega) (by omega) (by omega)
              have HJ := hideIt (And.intro HEr (And.intro HSj (And.intro WS (And.intro bP (And.intro bR kZ)))))
              clear HE HN HS HR HC D2 bR b0r bP hsP own HSj hvals WS kj kA RZ HRr HEr HNr hvb kZ
              go_upto_region 28 with fail
              refine wp_region_held_drew (S := (fun w' => w'.cell? ⟨CB, 0, none⟩ = some (.pointer (some ⟨E, 0, none⟩)) ∧ w'.cell? ⟨E, 6, none⟩ = some (.map (some nb)) ∧ w'.cell? ⟨p13, 0, none⟩ = some (.string nm) ∧ w'.heap[nb]? = wr.heap[nb]?)) (by kernel_rfl) ⟨cb0, e6, q0, rfl⟩ (fun hHeld => ?_)
              refine wpAnyH_take (i := 0) (oi := { dst := some 115, op := Go.Op.move (Go.Operand.tmp 0), type := 76, pos := _, after := #[], guard := none }) (v := ?vv17038) rfl (by kernel_rfl) (by kernel_rfl) (by kernel_rfl) (fun _ _ _ h => h) (Or.inl ⟨by rfl, ?hy17038⟩) (by assumption) ?tk17038
              case hy17038 => (intro w hSw; (try dsimp only at hSw); go_simp; (try with_reducible rfl))
              try simp only [Act.put, List.setIfInBounds_toArray, List.set_cons_zero, List.set_cons_succ]
              refine wpAnyH_take (i := 1) (oi := { dst := some 116, op := Go.Op.nilCheck (Go.Operand.tmp 115), type := 0, pos := _, after := #[{ on := 0, ground := Go.Ground.data }], guard := none }) (v := ?vv17039) rfl (by kernel_rfl) (by kernel_rfl) (by kernel_rfl) (fun _ _ _ h => h) (Or.inl ⟨by rfl, ?hy17039⟩) (by assumption) ?tk17039
              case hy17039 => (intro w hSw; (try dsimp only at hSw); go_simp; (try with_reducible rfl))
              try simp only [Act.put, List.setIfInBounds_toArray, List.set_cons_zero, List.set_cons_succ]
              refine wpAnyH_take (i := 2) (oi := { dst := some 117, op := Go.Op.fieldAddr 79 (Go.Operand.tmp 116) 0, type := 0, pos := _, after := #[{ on := 1, ground := Go.Ground.data }], guard := none }) (v := ?vv17040) rfl (by kernel_rfl) (by kernel_rfl) (by kernel_rfl) (fun _ _ _ h => h) (Or.inl ⟨by rfl, ?hy17040⟩) (by assumption) ?tk17040
              case hy17040 => (intro w hSw; (try dsimp only at hSw); go_simp; (try with_reducible rfl))
              try simp only [Act.put, List.setIfInBounds_toArray, List.set_cons_zero, List.set_cons_succ]
              refine wpAnyH_take (i := 3) (oi := { dst := some 118, op := Go.Op.load 43 (Go.Operand.tmp 117), type := 43, pos := _, after := #[{ on := 2, ground := Go.Ground.data }], guard := none }) (v := ?vv17041) rfl (by kernel_rfl) (by kernel_rfl) (by kernel_rfl) (fun _ _ _ h => h) (Or.inl ⟨by rfl, ?hy17041⟩) (by assumption) ?tk17041
              case hy17041 => (intro w hSw; (try dsimp only at hSw); go_simp; (try with_reducible rfl))
              try simp only [Act.put, List.setIfInBounds_toArray, List.set_cons_zero, List.set_cons_succ]
              refine wpAnyH_take (i := 4) (oi := { dst := some 119, op := Go.Op.nilCheck (Go.Operand.tmp 118), type := 0, pos := _, after := #[{ on := 3, ground := Go.Ground.data }], guard := none }) (v := ?vv17042) rfl (by kernel_rfl) (by kernel_rfl) (by kernel_rfl) (fun _ _ _ h => h) (Or.inl ⟨by rfl, ?hy17042⟩) (by assumption) ?tk17042
              case hy17042 => (intro w hSw; (try dsimp only at hSw); go_simp; (try with_reducible rfl))
              try simp only [Act.put, List.setIfInBounds_toArray, List.set_cons_zero, List.set_cons_succ]
              refine wpAnyH_take (i := 5) (oi := { dst := some 120, op := Go.Op.fieldAddr 75 (Go.Operand.tmp 119) 3, type := 0, pos := _, after := #[{ on := 4, ground := Go.Ground.data }], guard := none }) (v := ?vv17043) rfl (by kernel_rfl) (by kernel_rfl) (by kernel_rfl) (fun _ _ _ h => h) (Or.inl ⟨by rfl, ?hy17043⟩) (by assumption) ?tk17043
              case hy17043 => (intro w hSw; (try dsimp only at hSw); go_simp; (try with_reducible rfl))
              try simp only [Act.put, List.setIfInBounds_toArray, List.set_cons_zero, List.set_cons_succ]
              refine wpAnyH_take (i := 6) (oi := { dst := some 121, op := Go.Op.load 64 (Go.Operand.tmp 120), type := 64, pos := _, after := #[{ on := 5, ground := Go.Ground.data }], guard := none }) (v := ?vv17044) rfl (by kernel_rfl) (by kernel_rfl) (by kernel_rfl) (fun _ _ _ h => h) (Or.inl ⟨by rfl, ?hy17044⟩) (by assumption) ?tk17044
              case hy17044 => (intro w hSw; (try dsimp only at hSw); go_simp; (try with_reducible rfl))
              try simp only [Act.put, List.setIfInBounds_toArray, List.set_cons_zero, List.set_cons_succ]
              refine wpAnyH_take (i := 7) (oi := { dst := some 122, op := Go.Op.fieldAddr 24 (Go.Operand.tmp 13) 0, type := 0, pos := _, after := #[], guard := none }) (v := ?vv17045) rfl (by kernel_rfl) (by kernel_rfl) (by kernel_rfl) (fun _ _ _ h => h) (Or.inl ⟨by rfl, ?hy17045⟩) (by assumption) ?tk17045
              case hy17045 => (intro w hSw; (try dsimp only at hSw); go_simp; (try with_reducible rfl))
              try simp only [Act.put, List.setIfInBounds_toArray, List.set_cons_zero, List.set_cons_succ]
              refine wpAnyH_take (i := 8) (oi := { dst := some 123, op := Go.Op.load 9 (Go.Operand.tmp 122), type := 9, pos := _, after := #[{ on := 7, ground := Go.Ground.data }], guard := none }) (v := ?vv17046) rfl (by kernel_rfl) (by kernel_rfl) (by kernel_rfl) (fun _ _ _ h => h) (Or.inl ⟨by rfl, ?hy17046⟩) (by assumption) ?tk17046
              case hy17046 => (intro w hSw; (try dsimp only at hSw); go_simp; (try with_reducible rfl))
              try simp only [Act.put, List.setIfInBounds_toArray, List.set_cons_zero, List.set_cons_succ]
              refine wpAnyH_take (i := 9) (oi := { dst := some 124, op := Go.Op.lookup 64 (Go.Operand.tmp 121) (Go.Operand.tmp 123) false, type := 89, pos := _, after := #[{ on := 6, ground := Go.Ground.data }, { on := 8, ground := Go.Ground.data }], guard := none }) (v := ?vv17047) rfl (by kernel_rfl) (by kernel_rfl) (by kernel_rfl) (fun _ _ _ h => h) (Or.inl ⟨by rfl, ?hy17047⟩) (by assumption) ?tk17047
              case hy17047 => (intro w hSw; have hl7 := hlk w hSw.2.2.2; (try dsimp only at hSw); go_simp; (try with_reducible rfl))
              try simp only [Act.put, List.setIfInBounds_toArray, List.set_cons_zero, List.set_cons_succ]
              refine wpAnyH_take (i := 10) (oi := { dst := some 125, op := Go.Op.move (Go.Operand.tmp 11), type := 72, pos := _, after := #[], guard := none }) (v := ?vv17048) rfl (by kernel_rfl) (by kernel_rfl) (by kernel_rfl) (fun _ _ _ h => h) (Or.inl ⟨by rfl, ?hy17048⟩) (by assumption) ?tk17048
              case hy17048 => (intro w hSw; (try dsimp only at hSw); go_simp; (try with_reducible rfl))
              try simp only [Act.put, List.setIfInBounds_toArray, List.set_cons_zero, List.set_cons_succ]
              refine wpAnyH_ready (rs := [11]) (by kernel_rfl) (by simp) ?_
              refine AllReadyH.cons (o := { dst := some 126, op := Go.Op.call { callee := Go.Callee.value (Go.Operand.func 30), args := #[Go.Operand.tmp 124, Go.Operand.tmp 125, Go.Operand.const (Go.Value.int Go.IntKind.i32 (-1))], argTypes := #[89, 72, 21] }, type := 4, pos := _, after := #[{ on := 9, ground := Go.Ground.data }, { on := 10, ground := Go.Ground.data }], guard := none }) rfl (fun K' hK' => ?_) AllReadyH.nil
              go_simp
              go_at_call 30
              refine hins.mono ?_
              rintro e w5 ⟨rfl, HI5, W5⟩
              have eCB := W5.block CB hCBd hd3
              have eE := W5.block E hEd hd7
              have eP := W5.block p13 hp13l hp13r
              have eN := W5.block nb hnbd hd10
              have f0 := (World.cell?_of_block (a := ⟨CB, 0, none⟩) eCB).trans cb0
              have f1 := (World.cell?_of_block (a := ⟨E, 6, none⟩) eE).trans e6
              have f2 := (World.cell?_of_block (a := ⟨p13, 0, none⟩) eP).trans q0
              have HX5 := hideIt (And.intro HI5 W5)
              clear HI5 W5 eCB eE eP hins
              clear hHeld
              refine hK'.out _ _ ⟨f0, f1, f2, eN⟩ (fun hHeld => ?_)
              clear hK' K'
              try simp only [Act.put, List.setIfInBounds_toArray, List.set_cons_zero, List.set_cons_succ]
              refine wpAnyH_take (i := 12) (oi := { dst := some 127, op := Go.Op.unOp Go.UnOp.not 4 (Go.Operand.tmp 126), type := 4, pos := _, after := #[{ on := 11, ground := Go.Ground.data }], guard := none }) (v := ?vv17049) rfl (by kernel_rfl) (by kernel_rfl) (by kernel_rfl) (fun _ _ _ h => h) (Or.inl ⟨by rfl, ?hy17049⟩) (by assumption) ?tk17049
              case hy17049 => (intro w hSw; (try dsimp only at hSw); go_simp; (try with_reducible rfl))
              try simp only [Act.put, List.setIfInBounds_toArray, List.set_cons_zero, List.set_cons_succ]
              refine wpAnyH_done (by kernel_rfl) ?_ _
              clear hHeld
              obtain ⟨HEr, HSj, WS, bP, bR, kZ⟩ := HJ.out
              have W5 := HX5.out.2
              have HE5 : EngAt w5 E c := HEr.blk (W5.block E hEd hd7)
              have g16 := HE5.get HCC.out.2.2.2 (by omega)
              have gB := HE5.get HCC.out.1 (by omega)
              have fzE := HE5.fz
              obtain ⟨z0, z1, z2, zf⟩ := HZ1.out
              have kZ5 : w5.heap[w.heap.size]? = wA.heap[w.heap.size]? := (W5.block w.heap.size (by show w.heap.size < wr.heap.size; omega) (by omega)).trans kZ
              have y0 := (World.cell?_of_block (a := ⟨w.heap.size, 0, none⟩) kZ5).trans z0
              have y1 := (World.cell?_of_block (a := ⟨w.heap.size, 1, none⟩) kZ5).trans z1
              have y2 := (World.cell?_of_block (a := ⟨w.heap.size, 2, none⟩) kZ5).trans z2
              have yf : ∀ o, w5.frozen? ⟨w.heap.size, o, none⟩ = false := fun o => (World.frozen?_of_block (a := ⟨w.heap.size, o, none⟩) kZ5).trans (zf o)
              clear HEr HSj WS bP bR kZ W5 HE5 z0 z1 z2 zf kZ5 e6 cb0 q0 hlk
              go_upto_region 30 with fail
              have WE : Wr E w5 (w5.setCell ⟨E, 16, none⟩ (.int .i64 1)) := (Wr.refl _ _).set
              have g16' : (w5.setCell ⟨E, 16, none⟩ (.int .i64 1)).cell? ⟨E, 16, none⟩ = some (.int .i64 1) := World.cell?_setCell_same _ _ _ g16
              have gB' : (w5.setCell ⟨E, 16, none⟩ (.int .i64 1)).cell? ⟨E, 0, none⟩ = some (.int .i64 (B : Int)) := (World.cell?_setCell_other _ _ _ _ (by simp)).trans gB
              have eCB6 : (w5.setCell ⟨E, 16, none⟩ (.int .i64 1)).heap[CB]? = w5.heap[CB]? := far_set hd4
              have g0 := (World.cell?_of_block (a := ⟨CB, 0, none⟩) eCB6).trans f0
              have eZ6 : (w5.setCell ⟨E, 16, none⟩ (.int .i64 1)).heap[w.heap.size]? = w5.heap[w.heap.size]? := far_set (by omega)
              have y0 := (World.cell?_of_block (a := ⟨w.heap.size, 0, none⟩) eZ6).trans y0
              have y1 := (World.cell?_of_block (a := ⟨w.heap.size, 1, none⟩) eZ6).trans y1
              have y2 := (World.cell?_of_block (a := ⟨w.heap.size, 2, none⟩) eZ6).trans y2
              have yf : ∀ o, (w5.setCell ⟨E, 16, none⟩ (.int .i64 1)).frozen? ⟨w.heap.size, o, none⟩ = false := fun o => (World.frozen?_of_block (a := ⟨w.heap.size, o, none⟩) eZ6).trans (yf o)
              have FD : FactsDone w (w5.setCell ⟨E, 16, none⟩ (.int .i64 1)) E SB mi rb n c := by
                obtain ⟨HEr, HSj, WS, bP, bR, kZ⟩ := HJ.out
                obtain ⟨⟨d, sv, wy, r1, r2, r3, r4, r5, r6, r7⟩, W5⟩ := HX5.out
                have hsA := bP.size
                have r6' : ∀ q, d.ownBlock = some q → wr.heap.size ≤ q := r6
                have r7' : ∀ q, sv.ownBlock = some q → wr.heap.size ≤ q := r7
                rw [show decide (0 < n) = true by simp; omega] at HSj
                have hSl' : SB < wr.heap.size := by omega
                have hml' : mi < wr.heap.size := by omega
                rw [← HNM.out] at r1
                refine ⟨⟨vals, HSj.keep ((far_set (fun e => hd5 e.symm)).trans (W5.block SB hSl' (fun e => hd12 e.symm))) ((far_set (fun e => hd6 e.symm)).trans (W5.block mi hml' (fun e => hd13 e.symm)))⟩, (HEr.blk (W5.block E hEd hd7)).put (by omega) _, ⟨d, sv, wy, r1.blk (far_set (fun e => hd7 e.symm)), r2.wr (fun e => by have := r6' _ e; omega) WE, r3.wr (fun e => by have := r7' _ e; omega) WE, r4, r5, fun q hq => by have := r6' q hq; omega, fun q hq => by have := r7' q hq; omega⟩, ?_⟩
                have hW : Ws (fun q => q = E ∨ q = SB ∨ q = mi ∨ q = rb) w wr := (Ws.of_below bR).trans ⟨WS.os.trans bP.os, WS.tape.trans bP.tape, WS.output.trans bP.output, by omega, fun q h1 h2 => (WS.block q (by omega) (fun e => by rcases e with e | e | e; exact h2 (.inr (.inl e)); exact h2 (.inr (.inr (.inl e))); omega)).trans (bP.block q h1)⟩
                exact ((hW.drew).trans (Ws.of_wr W5 (.inr (.inr (.inr rfl))))).set (.inl (.inl rfl))
              have HFD := hideIt FD
              clear g16 gB fzE WE eCB6 eZ6 f0 f1 f2 eN FD
              generalize w5.setCell ⟨E, 16, none⟩ (.int .i64 1) = w6 at *
              refine wp_region_held_drew (S := (fun w' => w'.cell? ⟨CB, 0, none⟩ = some (.pointer (some ⟨E, 0, none⟩)) ∧ w'.cell? ⟨E, 16, none⟩ = some (.int .i64 1) ∧ w'.cell? ⟨E, 0, none⟩ = some (.int .i64 (B : Int)))) (by kernel_rfl) ⟨g0, g16', gB'⟩ (fun hHeld => ?_)
              refine wpAnyH_take (i := 0) (oi := { dst := some 140, op := Go.Op.move (Go.Operand.tmp 0), type := 76, pos := _, after := #[], guard := none }) (v := ?vv17050) rfl (by kernel_rfl) (by kernel_rfl) (by kernel_rfl) (fun _ _ _ h => h) (Or.inl ⟨by rfl, ?hy17050⟩) (by assumption) ?tk17050
              case hy17050 => (intro w hSw; (try dsimp only at hSw); go_simp; (try with_reducible rfl))
              try simp only [Act.put, List.setIfInBounds_toArray, List.set_cons_zero, List.set_cons_succ]
              refine wpAnyH_take (i := 1) (oi := { dst := some 141, op := Go.Op.nilCheck (Go.Operand.tmp 140), type := 0, pos := _, after := #[{ on := 0, ground := Go.Ground.data }], guard := none }) (v := ?vv17051) rfl (by kernel_rfl) (by kernel_rfl) (by kernel_rfl) (fun _ _ _ h => h) (Or.inl ⟨by rfl, ?hy17051⟩) (by assumption) ?tk17051
              case hy17051 => (intro w hSw; (try dsimp only at hSw); go_simp; (try with_reducible rfl))
              try simp only [Act.put, List.setIfInBounds_toArray, List.set_cons_zero, List.set_cons_succ]
              refine wpAnyH_take (i := 2) (oi := { dst := some 142, op := Go.Op.fieldAddr 79 (Go.Operand.tmp 141) 0, type := 0, pos := _, after := #[{ on := 1, ground := Go.Ground.data }], guard := none }) (v := ?vv17052) rfl (by kernel_rfl) (by kernel_rfl) (by kernel_rfl) (fun _ _ _ h => h) (Or.inl ⟨by rfl, ?hy17052⟩) (by assumption) ?tk17052
              case hy17052 => (intro w hSw; (try dsimp only at hSw); go_simp; (try with_reducible rfl))
              try simp only [Act.put, List.setIfInBounds_toArray, List.set_cons_zero, List.set_cons_succ]
              refine wpAnyH_take (i := 3) (oi := { dst := some 143, op := Go.Op.load 43 (Go.Operand.tmp 142), type := 43, pos := _, after := #[{ on := 2, ground := Go.Ground.data }], guard := none }) (v := ?vv17053) rfl (by kernel_rfl) (by kernel_rfl) (by kernel_rfl) (fun _ _ _ h => h) (Or.inl ⟨by rfl, ?hy17053⟩) (by assumption) ?tk17053
              case hy17053 => (intro w hSw; (try dsimp only at hSw); go_simp; (try with_reducible rfl))
              try simp only [Act.put, List.setIfInBounds_toArray, List.set_cons_zero, List.set_cons_succ]
              refine wpAnyH_take (i := 4) (oi := { dst := some 144, op := Go.Op.nilCheck (Go.Operand.tmp 143), type := 0, pos := _, after := #[{ on := 3, ground := Go.Ground.data }], guard := none }) (v := ?vv17054) rfl (by kernel_rfl) (by kernel_rfl) (by kernel_rfl) (fun _ _ _ h => h) (Or.inl ⟨by rfl, ?hy17054⟩) (by assumption) ?tk17054
              case hy17054 => (intro w hSw; (try dsimp only at hSw); go_simp; (try with_reducible rfl))
              try simp only [Act.put, List.setIfInBounds_toArray, List.set_cons_zero, List.set_cons_succ]
              refine wpAnyH_take (i := 5) (oi := { dst := some 145, op := Go.Op.fieldAddr 75 (Go.Operand.tmp 144) 10, type := 0, pos := _, after := #[{ on := 4, ground := Go.Ground.data }], guard := none }) (v := ?vv17055) rfl (by kernel_rfl) (by kernel_rfl) (by kernel_rfl) (fun _ _ _ h => h) (Or.inl ⟨by rfl, ?hy17055⟩) (by assumption) ?tk17055
              case hy17055 => (intro w hSw; (try dsimp only at hSw); go_simp; (try with_reducible rfl))
              try simp only [Act.put, List.setIfInBounds_toArray, List.set_cons_zero, List.set_cons_succ]
              refine wpAnyH_take (i := 6) (oi := { dst := some 146, op := Go.Op.fieldAddr 71 (Go.Operand.tmp 145) 1, type := 0, pos := _, after := #[{ on := 5, ground := Go.Ground.data }], guard := none }) (v := ?vv17056) rfl (by kernel_rfl) (by kernel_rfl) (by kernel_rfl) (fun _ _ _ h => h) (Or.inl ⟨by rfl, ?hy17056⟩) (by assumption) ?tk17056
              case hy17056 => (intro w hSw; (try dsimp only at hSw); go_simp; (try with_reducible rfl))
              try simp only [Act.put, List.setIfInBounds_toArray, List.set_cons_zero, List.set_cons_succ]
              refine wpAnyH_take (i := 7) (oi := { dst := some 147, op := Go.Op.load 3 (Go.Operand.tmp 146), type := 3, pos := _, after := #[{ on := 6, ground := Go.Ground.data }], guard := none }) (v := ?vv17057) rfl (by kernel_rfl) (by kernel_rfl) (by kernel_rfl) (fun _ _ _ h => h) (Or.inl ⟨by rfl, ?hy17057⟩) (by assumption) ?tk17057
              case hy17057 => (intro w hSw; (try dsimp only at hSw); go_simp; (try with_reducible rfl))
              try simp only [Act.put, List.setIfInBounds_toArray, List.set_cons_zero, List.set_cons_succ]
              refine wpAnyH_take (i := 8) (oi := { dst := some 148, op := Go.Op.move (Go.Operand.tmp 0), type := 76, pos := _, after := #[], guard := none }) (v := ?vv17058) rfl (by kernel_rfl) (by kernel_rfl) (by kernel_rfl) (fun _ _ _ h => h) (Or.inl ⟨by rfl, ?hy17058⟩) (by assumption) ?tk17058
              case hy17058 => (intro w hSw; (try dsimp only at hSw); go_simp; (try with_reducible rfl))
              try simp only [Act.put, List.setIfInBounds_toArray, List.set_cons_zero, List.set_cons_succ]
              refine wpAnyH_take (i := 9) (oi := { dst := some 149, op := Go.Op.nilCheck (Go.Operand.tmp 148), type := 0, pos := _, after := #[{ on := 8, ground := Go.Ground.data }], guard := none }) (v := ?vv17059) rfl (by kernel_rfl) (by kernel_rfl) (by kernel_rfl) (fun _ _ _ h => h) (Or.inl ⟨by rfl, ?hy17059⟩) (by assumption) ?tk17059
              case hy17059 => (intro w hSw; (try dsimp only at hSw); go_simp; (try with_reducible rfl))
              try simp only [Act.put, List.setIfInBounds_toArray, List.set_cons_zero, List.set_cons_succ]
              refine wpAnyH_take (i := 10) (oi := { dst := some 150, op := Go.Op.fieldAddr 79 (Go.Operand.tmp 149) 0, type := 0, pos := _, after := #[{ on := 9, ground := Go.Ground.data }], guard := none }) (v := ?vv17060) rfl (by kernel_rfl) (by kernel_rfl) (by kernel_rfl) (fun _ _ _ h => h) (Or.inl ⟨by rfl, ?hy17060⟩) (by assumption) ?tk17060
              case hy17060 => (intro w hSw; (try dsimp only at hSw); go_simp; (try with_reducible rfl))
              try simp only [Act.put, List.setIfInBounds_toArray, List.set_cons_zero, List.set_cons_succ]
              refine wpAnyH_take (i := 11) (oi := { dst := some 151, op := Go.Op.load 43 (Go.Operand.tmp 150), type := 43, pos := _, after := #[{ on := 10, ground := Go.Ground.data }], guard := none }) (v := ?vv17061) rfl (by kernel_rfl) (by kernel_rfl) (by kernel_rfl) (fun _ _ _ h => h) (Or.inl ⟨by rfl, ?hy17061⟩) (by assumption) ?tk17061
              case hy17061 => (intro w hSw; (try dsimp only at hSw); go_simp; (try with_reducible rfl))
              try simp only [Act.put, List.setIfInBounds_toArray, List.set_cons_zero, List.set_cons_succ]
              refine wpAnyH_take (i := 12) (oi := { dst := some 152, op := Go.Op.nilCheck (Go.Operand.tmp 151), type := 0, pos := _, after := #[{ on := 11, ground := Go.Ground.data }], guard := none }) (v := ?vv17062) rfl (by kernel_rfl) (by kernel_rfl) (by kernel_rfl) (fun _ _ _ h => h) (Or.inl ⟨by rfl, ?hy17062⟩) (by assumption) ?tk17062
              case hy17062 => (intro w hSw; (try dsimp only at hSw); go_simp; (try with_reducible rfl))
              try simp only [Act.put, List.setIfInBounds_toArray, List.set_cons_zero, List.set_cons_succ]
              refine wpAnyH_take (i := 13) (oi := { dst := some 153, op := Go.Op.fieldAddr 75 (Go.Operand.tmp 152) 0, type := 0, pos := _, after := #[{ on := 12, ground := Go.Ground.data }], guard := none }) (v := ?vv17063) rfl (by kernel_rfl) (by kernel_rfl) (by kernel_rfl) (fun _ _ _ h => h) (Or.inl ⟨by rfl, ?hy17063⟩) (by assumption) ?tk17063
              case hy17063 => (intro w hSw; (try dsimp only at hSw); go_simp; (try with_reducible rfl))
              try simp only [Act.put, List.setIfInBounds_toArray, List.set_cons_zero, List.set_cons_succ]
              refine wpAnyH_take (i := 14) (oi := { dst := some 154, op := Go.Op.fieldAddr 52 (Go.Operand.tmp 153) 0, type := 0, pos := _, after := #[{ on := 13, ground := Go.Ground.data }], guard := none }) (v := ?vv17064) rfl (by kernel_rfl) (by kernel_rfl) (by kernel_rfl) (fun _ _ _ h => h) (Or.inl ⟨by rfl, ?hy17064⟩) (by assumption) ?tk17064
              case hy17064 => (intro w hSw; (try dsimp only at hSw); go_simp; (try with_reducible rfl))
              try simp only [Act.put, List.setIfInBounds_toArray, List.set_cons_zero, List.set_cons_succ]
              refine wpAnyH_take (i := 15) (oi := { dst := some 155, op := Go.Op.load 3 (Go.Operand.tmp 154), type := 3, pos := _, after := #[{ on := 14, ground := Go.Ground.data }], guard := none }) (v := ?vv17065) rfl (by kernel_rfl) (by kernel_rfl) (by kernel_rfl) (fun _ _ _ h => h) (Or.inl ⟨by rfl, ?hy17065⟩) (by assumption) ?tk17065
              case hy17065 => (intro w hSw; (try dsimp only at hSw); go_simp; (try with_reducible rfl))
              try simp only [Act.put, List.setIfInBounds_toArray, List.set_cons_zero, List.set_cons_succ]
              refine wpAnyH_take (i := 16) (oi := { dst := some 156, op := Go.Op.binOp Go.BinOp.gtr 3 (Go.Operand.tmp 147) (Go.Operand.tmp 155) 3, type := 4, pos := _, after := #[{ on := 7, ground := Go.Ground.data }, { on := 15, ground := Go.Ground.data }], guard := none }) (v := ?vv17066) rfl (by kernel_rfl) (by kernel_rfl) (by kernel_rfl) (fun _ _ _ h => h) (Or.inl ⟨by rfl, ?hy17066⟩) (by assumption) ?tk17066
              case hy17066 => (intro w hSw; (try dsimp only at hSw); go_simp; (try with_reducible rfl))
              try simp only [Act.put, List.setIfInBounds_toArray, List.set_cons_zero, List.set_cons_succ]
              refine wpAnyH_done (by kernel_rfl) ?_ _
              clear hHeld
              by_cases hB0 : B = 0
              · have hb1 : (1 : Int) > (B : Int) := by omega
                have hb2 : (B : Int) < 1 := by omega
                go_wp2
                refine bodyPost_ret (v := .agg #[.int .u8 11, .int .i64 (-1), .int .i64 0]) ?_ rfl ?_
                · rw [results_one_cell rfl]
                  go_simp
                · exact ⟨fun _ => rfl, fun h => by omega, (((HFD.out.far (by omega) (by omega) (by omega) (by omega)).far (by omega) (by omega) (by omega) (by omega)).far (by omega) (by omega) (by omega) (by omega)).drew⟩
              · have hb1 : ¬ ((1 : Int) > (B : Int)) := by omega
                have hb2 : ¬ ((B : Int) < 1) := by omega
                go_wp2
                go_roundg 0
                case measure => omega
                case rel =>
                  exact ⟨1, by omega, by go_num, fun h => by omega, fun _ => ⟨by omega, HFD.out.drew, y0, y1, y2, yf⟩⟩
        · have hi0 : i = 1 := by omega
          subst hi0
          obtain ⟨hBp, FD, y0, y1, y2, yf⟩ := hI1 rfl
          have HFD := hideIt FD
          clear FD hI0 hI1 d0 d1
          go_wp2
          refine bodyPost_ret (v := .agg #[.int .u8 0, .int .i64 0, .int .i64 0]) ?_ rfl ?_
          · rw [results_one_cell rfl]
            go_simp
          · exact ⟨fun h => by omega, fun _ => rfl, ((HFD.out.far (by omega) (by omega) (by omega) (by omega)).far (by omega) (by omega) (by omega) (by omega)).far (by omega) (by omega) (by omega) (by omega)⟩
end Go.Proofs.Qxb6500880a
