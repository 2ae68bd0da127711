import Derived.Deep.CutBlock
import Derived.OwnWalk
import Derived.Maps.AppendAt
import Derived.Maps.OwnSet
import Derived.Maps.OwnOps
import Derived.Laws.ResultCell
import Derived.Test.Qxb6500880aGreatVc
set_option linter.unusedVariables false
set_option linter.unusedSimpArgs false
namespace Go.Proofs.Qxb6500880aGreat
open Go.RowKit

set_option maxRecDepth 20000 in
set_option maxHeartbeats 8000000 in
theorem facts_any {w w0 : World} {CB E nb SB mi gd nF cF base : Nat} {rb ar nn : Nat → Nat} {fk : Nat → Fin 4} {fv : Nat → Nat → Nat} {av : Nat → Value} {c : Nat → Value} (T : Tab w E nb base rb ar 3 c) (h0 : c 0 = .int .i64 4096) (h4 : c 4 = .pointer (some ⟨SB, 0, none⟩)) (h16 : c 16 = .int .i64 0) (HS : SymsAt w SB mi (.slice none 0 0) 0) (HC : w.cell? ⟨CB, 0, none⟩ = some (.pointer (some ⟨E, 0, none⟩)))
    (D : DbAt w0 gd nF fk nn fv av) (K : DbOk nF fk nn fv ar) (hb0 : Below w0.heap.size w0 w) (hlo : w0.heap.size ≤ CB ∧ w0.heap.size ≤ E ∧ w0.heap.size ≤ nb ∧ w0.heap.size ≤ SB ∧ w0.heap.size ≤ mi) (O : Olds w E nb CB SB mi base rb c) :
    Calls Tryz.prog 17 #[.pointer (some ⟨CB, 0, none⟩), .slice (some ⟨gd, 0, none⟩) nF cF] w fun e w' => e = .returned (.agg #[.int .u8 0, .int .i64 0, .int .i64 0]) ∧ ∃ w1 rb' c' x, P2 w w1 w' E nb CB SB mi rb rb' ar c c' fk fv nF 64 x ∧ (∀ k, k ≠ 5 → c' k = c k) ∧ (∀ j, j < 3 → rb' j = rb j) ∧ w.heap.size < rb' 3 := by
  obtain ⟨i9, hi9, hx0, hx1, hx2⟩ := info_parts info109
  obtain ⟨hlo1, hlo2, hlo3, hlo4, hlo5⟩ := hlo
  obtain ⟨hB1, hB2, hB3, hB4, hB5, hB6⟩ := O.b
  obtain ⟨hd1, hd2, hd3, hd4, hd5, hd6, hd7, hd8, hd9, hd10⟩ := O.d
  have hnF0 := K.lo
  have hnF1 := K.hi
  have hgl : gd < w0.heap.size := World.block_lt_of_cell? _ _ (D.c 0 (by omega)).1
  have bZ := one_alloc w (.cells #[.int .u8 0, .int .i64 0, .int .i64 0] 61)
  have hsZ : (w.alloc (.cells #[.int .u8 0, .int .i64 0, .int .i64 0] 61)).heap.size = w.heap.size + 1 := by simp
  have z0 : (w.alloc (.cells #[.int .u8 0, .int .i64 0, .int .i64 0] 61)).cell? ⟨w.heap.size, 0, none⟩ = some (.int .u8 0) := by simp
  have z1 : (w.alloc (.cells #[.int .u8 0, .int .i64 0, .int .i64 0] 61)).cell? ⟨w.heap.size, 1, none⟩ = some (.int .i64 0) := by simp
  have z2 : (w.alloc (.cells #[.int .u8 0, .int .i64 0, .int .i64 0] 61)).cell? ⟨w.heap.size, 2, none⟩ = some (.int .i64 0) := by simp
  have zf : ∀ o, (w.alloc (.cells #[.int .u8 0, .int .i64 0, .int .i64 0] 61)).frozen? ⟨w.heap.size, o, none⟩ = false := fun o => by simp
  have PP : P1 w (w.alloc (.cells #[.int .u8 0, .int .i64 0, .int .i64 0] 61)) (w.alloc (.cells #[.int .u8 0, .int .i64 0, .int .i64 0] 61)) E nb base rb ar c 0 rb c := ⟨T.below bZ, fun _ _ => rfl, fun _ _ => rfl, fun h => absurd rfl h, .inl rfl, Ws.refl _ _⟩
  have HQ := hideIt (And.intro HS (And.intro HC (And.intro D (And.intro K (And.intro hb0 bZ)))))
  have HZ := hideIt (And.intro z0 (And.intro z1 (And.intro z2 zf)))
  have HCC := hideIt (And.intro h0 (And.intro h4 (And.intro T.c6 h16)))
  have HPP := hideIt PP
  have HO := hideIt O
  have HSZ := hideIt hsZ
  have hw0 := hb0.size
  clear T HS HC D K hb0 bZ z0 z1 z2 zf h0 h4 h16 PP O hsZ
  go_enter Tryz.func17, Tryz.ntmps17
  go_wp2_with fail
  generalize hw1 : w.alloc (.cells #[.int .u8 0, .int .i64 0, .int .i64 0] 61) = w1 at *
  go_loopg [18] nF (fun gg v wr => ∃ i : Nat, i + gg = nF ∧ v = .int .i64 (i : Int) ∧ ∃ rb' c', P1 w w1 wr E nb base rb ar c i rb' c')
  case atStart => exact ⟨0, by omega, rfl, rb, c, HPP.out⟩
  case round =>
    clear HPP
    obtain ⟨i, hi, rfl, rb', c', PP⟩ := hrel
    have hsr := PP.W.size
    have hsz := HSZ.out
    have k1 : ∀ q, q < w1.heap.size → q ≠ E → q ≠ nb → (c 5).ownBlock ≠ some q → wr.heap[q]? = w1.heap[q]? := fun q h1 h2 h3 h4 => PP.W.block q h1 (fun z => by rcases z with z | z | z; exact h2 z; exact h3 z; exact h4 z)
    have c5b : ∀ q, q < base → (c 5).ownBlock ≠ some q := fun q hq e => by have := (HO.out.c5 q e).1; omega
    by_cases him : i < nF
    · obtain ⟨HS, HC, D, K, hb0, bZ⟩ := HQ.out
      have bw0 : Below w0.heap.size w0 w1 := hb0.trans (bZ.mono (by omega))
      have b0r : Below w0.heap.size w0 wr := ⟨PP.W.os.trans bw0.os, PP.W.tape.trans bw0.tape, PP.W.output.trans bw0.output, by omega, fun q hq => (k1 q (by omega) (by omega) (by omega) (c5b q (by omega))).trans (bw0.block q hq)⟩
      obtain ⟨D0, D1, D2⟩ := (D.below b0r (Nat.le_refl _)).c i him
      have hnn := K.na i him
      have hn1 := K.a1 (fk i).val (fk i).isLt
      have hn0 := K.a0 (fk i).val (fk i).isLt
      obtain ⟨n, HN⟩ : ∃ n, Hid (nn i = n) := ⟨_, hideIt rfl⟩
      rw [HN.out] at hnn D2
      rw [← hnn] at hn1 hn0
      obtain ⟨pa, ca, ea, hca, D2'⟩ := D2
      have D2 : IntsAt wr (av i) n (fv i) := ⟨pa, ca, ea, hca, D2'⟩
      clear D2'
      rw [ea] at D1 D2
      have hnf := nm_full (fk i)
      obtain ⟨nm, hnm⟩ : ∃ nm, nmS (fk i) = nm := ⟨_, rfl⟩
      rw [hnm] at hnf D0
      have i0 : (0 : Int) ≤ i := by omega
      have i1 : (i : Int) < (nF : Int) := by omega
      have HCr := (World.cell?_of_block (a := ⟨CB, 0, none⟩) (k1 CB (by omega) hd1 hd2 (c5b CB hB1))).trans (cell_later bZ HC)
      have HX := hideIt (And.intro PP (And.intro D2 (And.intro hnm (And.intro hnn HCr))))
      clear HS HC D K hb0 bZ bw0 b0r PP k1 D2 hnm hnn HCr
      obtain ⟨wA, rfl⟩ : ∃ x, x = wr := ⟨_, rfl⟩
      go_wp2_with fail
      have bP := one_alloc wA (.cells #[.string nm, .slice pa n ca] 34)
      have hsP : (wA.alloc (.cells #[.string nm, .slice pa n ca] 34)).heap.size = wA.heap.size + 1 := by simp
      have q0 : (wA.alloc (.cells #[.string nm, .slice pa n ca] 34)).cell? ⟨wA.heap.size, 0, none⟩ = some (.string nm) := by simp
      have q1 : (wA.alloc (.cells #[.string nm, .slice pa n ca] 34)).cell? ⟨wA.heap.size, 1, none⟩ = some (.slice pa n ca) := by simp
      have HP := hideIt (And.intro bP (And.intro q0 (And.intro q1 hsP)))
      clear bP q0 q1 hsP D0 D1
      generalize wA.alloc (.cells #[.string nm, .slice pa n ca] 34) = wb at *
      generalize hp6 : wA.heap.size = p6 at *
      go_loopg [31] n (fun gg v wr => ∃ j : Nat, j + gg = n ∧ v = .int .i64 (j : Int) ∧ Below wb.heap.size wb wr)
      case atStart => exact ⟨0, by omega, rfl, Below.refl _ _⟩
      case round =>
        obtain ⟨j, hj, rfl, bj⟩ := hrel
        obtain ⟨bP, q0, q1, hsP⟩ := HP.out
        have bAj : Below wA.heap.size wA wr := by rw [hp6]; exact bP.trans (bj.mono (by omega))
        by_cases hjn : j < n
        · have j0 : (0 : Int) ≤ j := by omega
          have j1 : (j : Int) < (n : Int) := by omega
          obtain ⟨g, rfl, a0, a1, a2, a3⟩ : ∃ g, pa = some ⟨g, 0, none⟩ ∧ wr.cell? ⟨g, j * 4, none⟩ = some (.int .u8 1) ∧ wr.cell? ⟨g, j * 4 + 1, none⟩ = some (.int .i64 0) ∧ wr.cell? ⟨g, j * 4 + 2, none⟩ = some (.int .i64 (fv i j : Int)) ∧ wr.cell? ⟨g, j * 4 + 3, none⟩ = some (.string ByteArray.empty) := by
            obtain ⟨p, c, e, _, h⟩ := HX.out.2.1.below bAj (Nat.le_refl _)
            simp only [Value.slice.injEq] at e
            obtain ⟨rfl, _, rfl⟩ := e
            rcases h with h | ⟨g, e, h⟩
            · omega
            · exact ⟨g, e, h j hjn⟩
          obtain ⟨vx, HVX⟩ : ∃ vx, Hid (fv i j = vx) := ⟨_, hideIt rfl⟩
          rw [HVX.out] at a2
          have hcf := constFine_any vx (wr.alloc (.cells #[.int .u8 1, .int .i64 0, .int .i64 (vx : Int), .string ByteArray.empty] 26))
          unfold tInt at hcf
          have HBJ := hideIt bj
          clear bP q0 q1 hsP bj bAj
          go_wp2_with fail
          refine hcf.mono ?_
          rintro e w5 ⟨rfl, hb5⟩
          have HB5 := hideIt (then_ (one_alloc wr (.cells #[.int .u8 1, .int .i64 0, .int .i64 (vx : Int), .string ByteArray.empty] 26)) hb5)
          clear hb5 hcf a0 a1 a2 a3
          go_wp2
          go_roundg (n - (j + 1))
          case measure => omega
          case rel => exact ⟨j + 1, by omega, by go_num, then_ HBJ.out HB5.out⟩
        · have hjn' : n = j := by omega
          subst hjn'
          obtain ⟨wd, rfl⟩ : ∃ x, x = wr := ⟨_, rfl⟩
          obtain ⟨PP, D2, hnm, hnn, HCr⟩ := HX.out
          have PD := PP.below bAj
          have cb0 := cell_later bAj HCr
          have e6 := PD.T.e.get PD.T.c6 (by omega)
          have q0 := cell_later bj q0
          have q1 := cell_later bj q1
          have hsd := bAj.size
          have hp6d : p6 < wd.heap.size := by have := bj.size; omega
          have hCBd : CB < wd.heap.size := by omega
          have hp6E : p6 ≠ E := by omega
          have hp6n : p6 ≠ nb := by omega
          have h5p := PP.T.own
          have hc5p : (c' 5).ownBlock ≠ some p6 := fun e => by have := (h5p.lt _ e).2; omega
          have hc5CB : (c' 5).ownBlock ≠ some CB := fun e => by have := (h5p.lt _ e).1; omega
          have HPD := hideIt (And.intro PD (And.intro hnm (And.intro hnn bAj)))
          clear bP bj bAj h5p
          by_cases hi0 : i = 0
          · have K := HQ.out.2.2.2.1
            have hk3 : fk i = kf 3 := (K.n0 i (by omega)).1
            have T3 : Tab wd E nb base rb' ar 3 c' := by have := PD.T; rw [if_pos hi0] at this; exact this
            have hlk : ∀ w', w'.heap[nb]? = wd.heap[nb]? → (Instr.lookup 75 (.map (some nb)) (.string nm) true).run Tryz.prog w' = .ok (.tuple #[.pointer none, .bool false]) w' := fun w' e => by
              have := (T3.m.blk e).look (fk i)
              rw [hk3, fnK_out rb' (by omega), ← hk3, hnm] at this
              exact this
            have hadd := addRelation_any (w := World.drew (World.drew wd)) (A := n) (fk i) (T3.e.blk rfl) T3.c6 (T3.m.blk rfl) (own_one T3.own (fun _ _ => rfl)) hB2 hB3 (by show _ ≤ wd.heap.size; omega) hd5 (by omega) (by omega)
            rw [hnm] at hadd
            have hn32 : (n : Int) ≤ 32 := by omega
            have HT3 := hideIt (And.intro T3 hk3)
            clear PD HCr D2 hnm hnn PP T3 K hk3
            go_upto_region 12 with fail
            refine wp_region_held_drew (S := (fun w' => w'.cell? ⟨CB, 0, none⟩ = some (.pointer (some ⟨E, 0, none⟩)) ∧ w'.cell? ⟨E, 6, none⟩ = some (.map (some nb)) ∧ w'.cell? ⟨p6, 0, none⟩ = some (.string nm) ∧ w'.heap[nb]? = wd.heap[nb]?)) (by kernel_rfl) ⟨cb0, e6, q0, rfl⟩ (fun hHeld => ?_)
            refine wpAnyH_take (i := 0) (oi := { dst := some 42, op := Go.Op.move (Go.Operand.tmp 0), type := 87, pos := _, after := #[], guard := none }) (v := ?vv17050) rfl (by kernel_rfl) (by kernel_rfl) (by kernel_rfl) (fun _ _ _ h => h) (Or.inl ⟨by rfl, ?hy17050⟩) (by assumption) ?tk17050
            case hy17050 => (intro w hSw; (try dsimp only at hSw); go_simp; (try with_reducible rfl))
            try simp only [Act.put, List.setIfInBounds_toArray, List.set_cons_zero, List.set_cons_succ]
            refine wpAnyH_take (i := 1) (oi := { dst := some 43, op := Go.Op.nilCheck (Go.Operand.tmp 42), type := 0, pos := _, after := #[{ on := 0, ground := Go.Ground.data }], guard := none }) (v := ?vv17051) rfl (by kernel_rfl) (by kernel_rfl) (by kernel_rfl) (fun _ _ _ h => h) (Or.inl ⟨by rfl, ?hy17051⟩) (by assumption) ?tk17051
            case hy17051 => (intro w hSw; (try dsimp only at hSw); go_simp; (try with_reducible rfl))
            try simp only [Act.put, List.setIfInBounds_toArray, List.set_cons_zero, List.set_cons_succ]
            refine wpAnyH_take (i := 2) (oi := { dst := some 44, op := Go.Op.fieldAddr 90 (Go.Operand.tmp 43) 0, type := 0, pos := _, after := #[{ on := 1, ground := Go.Ground.data }], guard := none }) (v := ?vv17052) rfl (by kernel_rfl) (by kernel_rfl) (by kernel_rfl) (fun _ _ _ h => h) (Or.inl ⟨by rfl, ?hy17052⟩) (by assumption) ?tk17052
            case hy17052 => (intro w hSw; (try dsimp only at hSw); go_simp; (try with_reducible rfl))
            try simp only [Act.put, List.setIfInBounds_toArray, List.set_cons_zero, List.set_cons_succ]
            refine wpAnyH_take (i := 3) (oi := { dst := some 45, op := Go.Op.load 58 (Go.Operand.tmp 44), type := 58, pos := _, after := #[{ on := 2, ground := Go.Ground.data }], guard := none }) (v := ?vv17053) rfl (by kernel_rfl) (by kernel_rfl) (by kernel_rfl) (fun _ _ _ h => h) (Or.inl ⟨by rfl, ?hy17053⟩) (by assumption) ?tk17053
            case hy17053 => (intro w hSw; (try dsimp only at hSw); go_simp; (try with_reducible rfl))
            try simp only [Act.put, List.setIfInBounds_toArray, List.set_cons_zero, List.set_cons_succ]
            refine wpAnyH_take (i := 4) (oi := { dst := some 46, op := Go.Op.nilCheck (Go.Operand.tmp 45), type := 0, pos := _, after := #[{ on := 3, ground := Go.Ground.data }], guard := none }) (v := ?vv17054) rfl (by kernel_rfl) (by kernel_rfl) (by kernel_rfl) (fun _ _ _ h => h) (Or.inl ⟨by rfl, ?hy17054⟩) (by assumption) ?tk17054
            case hy17054 => (intro w hSw; (try dsimp only at hSw); go_simp; (try with_reducible rfl))
            try simp only [Act.put, List.setIfInBounds_toArray, List.set_cons_zero, List.set_cons_succ]
            refine wpAnyH_take (i := 5) (oi := { dst := some 47, op := Go.Op.fieldAddr 86 (Go.Operand.tmp 46) 3, type := 0, pos := _, after := #[{ on := 4, ground := Go.Ground.data }], guard := none }) (v := ?vv17055) rfl (by kernel_rfl) (by kernel_rfl) (by kernel_rfl) (fun _ _ _ h => h) (Or.inl ⟨by rfl, ?hy17055⟩) (by assumption) ?tk17055
            case hy17055 => (intro w hSw; (try dsimp only at hSw); go_simp; (try with_reducible rfl))
            try simp only [Act.put, List.setIfInBounds_toArray, List.set_cons_zero, List.set_cons_succ]
            refine wpAnyH_take (i := 6) (oi := { dst := some 48, op := Go.Op.load 75 (Go.Operand.tmp 47), type := 75, pos := _, after := #[{ on := 5, ground := Go.Ground.data }], guard := none }) (v := ?vv17056) rfl (by kernel_rfl) (by kernel_rfl) (by kernel_rfl) (fun _ _ _ h => h) (Or.inl ⟨by rfl, ?hy17056⟩) (by assumption) ?tk17056
            case hy17056 => (intro w hSw; (try dsimp only at hSw); go_simp; (try with_reducible rfl))
            try simp only [Act.put, List.setIfInBounds_toArray, List.set_cons_zero, List.set_cons_succ]
            refine wpAnyH_take (i := 7) (oi := { dst := some 49, op := Go.Op.fieldAddr 34 (Go.Operand.tmp 6) 0, type := 0, pos := _, after := #[], guard := none }) (v := ?vv17057) rfl (by kernel_rfl) (by kernel_rfl) (by kernel_rfl) (fun _ _ _ h => h) (Or.inl ⟨by rfl, ?hy17057⟩) (by assumption) ?tk17057
            case hy17057 => (intro w hSw; (try dsimp only at hSw); go_simp; (try with_reducible rfl))
            try simp only [Act.put, List.setIfInBounds_toArray, List.set_cons_zero, List.set_cons_succ]
            refine wpAnyH_take (i := 8) (oi := { dst := some 50, op := Go.Op.load 9 (Go.Operand.tmp 49), type := 9, pos := _, after := #[{ on := 7, ground := Go.Ground.data }], guard := none }) (v := ?vv17058) rfl (by kernel_rfl) (by kernel_rfl) (by kernel_rfl) (fun _ _ _ h => h) (Or.inl ⟨by rfl, ?hy17058⟩) (by assumption) ?tk17058
            case hy17058 => (intro w hSw; (try dsimp only at hSw); go_simp; (try with_reducible rfl))
            try simp only [Act.put, List.setIfInBounds_toArray, List.set_cons_zero, List.set_cons_succ]
            refine wpAnyH_take (i := 9) (oi := { dst := some 51, op := Go.Op.lookup 75 (Go.Operand.tmp 48) (Go.Operand.tmp 50) true, type := 117, pos := _, after := #[{ on := 6, ground := Go.Ground.data }, { on := 8, ground := Go.Ground.data }], guard := none }) (v := ?vv17059) rfl (by kernel_rfl) (by kernel_rfl) (by kernel_rfl) (fun _ _ _ h => h) (Or.inl ⟨by rfl, ?hy17059⟩) (by assumption) ?tk17059
            case hy17059 => (intro w hSw; have hl7 := hlk w hSw.2.2.2; (try dsimp only at hSw); go_simp; (try with_reducible rfl))
            try simp only [Act.put, List.setIfInBounds_toArray, List.set_cons_zero, List.set_cons_succ]
            refine wpAnyH_take (i := 10) (oi := { dst := some 41, op := Go.Op.move (Go.Operand.tmp 51), type := 117, pos := _, after := #[{ on := 9, ground := Go.Ground.data }], guard := none }) (v := ?vv17060) rfl (by kernel_rfl) (by kernel_rfl) (by kernel_rfl) (fun _ _ _ h => h) (Or.inl ⟨by rfl, ?hy17060⟩) (by assumption) ?tk17060
            case hy17060 => (intro w hSw; (try dsimp only at hSw); go_simp; (try with_reducible rfl))
            try simp only [Act.put, List.setIfInBounds_toArray, List.set_cons_zero, List.set_cons_succ]
            refine wpAnyH_take (i := 11) (oi := { dst := some 52, op := Go.Op.extract (Go.Operand.tmp 41) 0, type := 99, pos := _, after := #[{ on := 10, ground := Go.Ground.data }], guard := none }) (v := ?vv17061) rfl (by kernel_rfl) (by kernel_rfl) (by kernel_rfl) (fun _ _ _ h => h) (Or.inl ⟨by rfl, ?hy17061⟩) (by assumption) ?tk17061
            case hy17061 => (intro w hSw; (try dsimp only at hSw); go_simp; (try with_reducible rfl))
            try simp only [Act.put, List.setIfInBounds_toArray, List.set_cons_zero, List.set_cons_succ]
            refine wpAnyH_take (i := 12) (oi := { dst := some 53, op := Go.Op.extract (Go.Operand.tmp 41) 1, type := 4, pos := _, after := #[{ on := 10, ground := Go.Ground.data }, { on := 13, ground := Go.Ground.gcOnly Go.Departure.lateStores }], guard := none }) (v := ?vv17062) rfl (by kernel_rfl) (by kernel_rfl) (by kernel_rfl) (fun _ _ _ h => h) (Or.inl ⟨by rfl, ?hy17062⟩) (by assumption) ?tk17062
            case hy17062 => (intro w hSw; (try dsimp only at hSw); go_simp; (try with_reducible rfl))
            try simp only [Act.put, List.setIfInBounds_toArray, List.set_cons_zero, List.set_cons_succ]
            refine wpAnyH_take (i := 13) (oi := { dst := some 9, op := Go.Op.assign (Go.Operand.tmp 52), type := 99, pos := _, after := #[{ on := 11, ground := Go.Ground.data }, { on := 0, ground := Go.Ground.phase }, { on := 1, ground := Go.Ground.phase }, { on := 2, ground := Go.Ground.phase }, { on := 3, ground := Go.Ground.phase }, { on := 4, ground := Go.Ground.phase }, { on := 5, ground := Go.Ground.phase }, { on := 6, ground := Go.Ground.phase }, { on := 7, ground := Go.Ground.phase }, { on := 8, ground := Go.Ground.phase }, { on := 9, ground := Go.Ground.phase }, { on := 10, ground := Go.Ground.phase }, { on := 11, ground := Go.Ground.phase }, { on := 12, ground := Go.Ground.textOnly Go.Departure.lateStores }], guard := none }) (v := ?vv17063) rfl (by kernel_rfl) (by kernel_rfl) (by kernel_rfl) (fun _ _ _ h => h) (Or.inl ⟨by rfl, ?hy17063⟩) (by assumption) ?tk17063
            case hy17063 => (intro w hSw; (try dsimp only at hSw); go_simp; (try with_reducible rfl))
            try simp only [Act.put, List.setIfInBounds_toArray, List.set_cons_zero, List.set_cons_succ]
            refine wpAnyH_take (i := 14) (oi := { dst := some 10, op := Go.Op.assign (Go.Operand.tmp 53), type := 4, pos := _, after := #[{ on := 12, ground := Go.Ground.data }, { on := 13, ground := Go.Ground.chain }, { on := 0, ground := Go.Ground.phase }, { on := 1, ground := Go.Ground.phase }, { on := 2, ground := Go.Ground.phase }, { on := 3, ground := Go.Ground.phase }, { on := 4, ground := Go.Ground.phase }, { on := 5, ground := Go.Ground.phase }, { on := 6, ground := Go.Ground.phase }, { on := 7, ground := Go.Ground.phase }, { on := 8, ground := Go.Ground.phase }, { on := 9, ground := Go.Ground.phase }, { on := 10, ground := Go.Ground.phase }, { on := 11, ground := Go.Ground.phase }, { on := 12, ground := Go.Ground.phase }, { on := 13, ground := Go.Ground.phase }], guard := none }) (v := ?vv17064) rfl (by kernel_rfl) (by kernel_rfl) (by kernel_rfl) (fun _ _ _ h => h) (Or.inl ⟨by rfl, ?hy17064⟩) (by assumption) ?tk17064
            case hy17064 => (intro w hSw; (try dsimp only at hSw); go_simp; (try with_reducible rfl))
            try simp only [Act.put, List.setIfInBounds_toArray, List.set_cons_zero, List.set_cons_succ]
            refine wpAnyH_done (by kernel_rfl) ?_ _
            clear hHeld
            go_upto_region 14 with fail
            refine wp_region_held_drew (S := (fun w' => w'.cell? ⟨CB, 0, none⟩ = some (.pointer (some ⟨E, 0, none⟩)) ∧ w'.cell? ⟨p6, 0, none⟩ = some (.string nm) ∧ w'.cell? ⟨p6, 1, none⟩ = some (.slice pa n ca))) (by kernel_rfl) ⟨cb0, q0, q1⟩ (fun hHeld => ?_)
            refine wpAnyH_take (i := 0) (oi := { dst := some 62, op := Go.Op.move (Go.Operand.tmp 0), type := 87, pos := _, after := #[], guard := none }) (v := ?vv17001) rfl (by kernel_rfl) (by kernel_rfl) (by kernel_rfl) (fun _ _ _ h => h) (Or.inl ⟨by rfl, ?hy17001⟩) (by assumption) ?tk17001
            case hy17001 => (intro w hSw; (try dsimp only at hSw); go_simp; (try with_reducible rfl))
            try simp only [Act.put, List.setIfInBounds_toArray, List.set_cons_zero, List.set_cons_succ]
            refine wpAnyH_take (i := 1) (oi := { dst := some 63, op := Go.Op.nilCheck (Go.Operand.tmp 62), type := 0, pos := _, after := #[{ on := 0, ground := Go.Ground.data }], guard := none }) (v := ?vv17002) rfl (by kernel_rfl) (by kernel_rfl) (by kernel_rfl) (fun _ _ _ h => h) (Or.inl ⟨by rfl, ?hy17002⟩) (by assumption) ?tk17002
            case hy17002 => (intro w hSw; (try dsimp only at hSw); go_simp; (try with_reducible rfl))
            try simp only [Act.put, List.setIfInBounds_toArray, List.set_cons_zero, List.set_cons_succ]
            refine wpAnyH_take (i := 2) (oi := { dst := some 64, op := Go.Op.fieldAddr 90 (Go.Operand.tmp 63) 0, type := 0, pos := _, after := #[{ on := 1, ground := Go.Ground.data }], guard := none }) (v := ?vv17003) rfl (by kernel_rfl) (by kernel_rfl) (by kernel_rfl) (fun _ _ _ h => h) (Or.inl ⟨by rfl, ?hy17003⟩) (by assumption) ?tk17003
            case hy17003 => (intro w hSw; (try dsimp only at hSw); go_simp; (try with_reducible rfl))
            try simp only [Act.put, List.setIfInBounds_toArray, List.set_cons_zero, List.set_cons_succ]
            refine wpAnyH_take (i := 3) (oi := { dst := some 65, op := Go.Op.load 58 (Go.Operand.tmp 64), type := 58, pos := _, after := #[{ on := 2, ground := Go.Ground.data }], guard := none }) (v := ?vv17004) rfl (by kernel_rfl) (by kernel_rfl) (by kernel_rfl) (fun _ _ _ h => h) (Or.inl ⟨by rfl, ?hy17004⟩) (by assumption) ?tk17004
            case hy17004 => (intro w hSw; (try dsimp only at hSw); go_simp; (try with_reducible rfl))
            try simp only [Act.put, List.setIfInBounds_toArray, List.set_cons_zero, List.set_cons_succ]
            refine wpAnyH_take (i := 4) (oi := { dst := some 66, op := Go.Op.fieldAddr 34 (Go.Operand.tmp 6) 0, type := 0, pos := _, after := #[], guard := none }) (v := ?vv17005) rfl (by kernel_rfl) (by kernel_rfl) (by kernel_rfl) (fun _ _ _ h => h) (Or.inl ⟨by rfl, ?hy17005⟩) (by assumption) ?tk17005
            case hy17005 => (intro w hSw; (try dsimp only at hSw); go_simp; (try with_reducible rfl))
            try simp only [Act.put, List.setIfInBounds_toArray, List.set_cons_zero, List.set_cons_succ]
            refine wpAnyH_take (i := 5) (oi := { dst := some 67, op := Go.Op.load 9 (Go.Operand.tmp 66), type := 9, pos := _, after := #[{ on := 4, ground := Go.Ground.data }], guard := none }) (v := ?vv17006) rfl (by kernel_rfl) (by kernel_rfl) (by kernel_rfl) (fun _ _ _ h => h) (Or.inl ⟨by rfl, ?hy17006⟩) (by assumption) ?tk17006
            case hy17006 => (intro w hSw; (try dsimp only at hSw); go_simp; (try with_reducible rfl))
            try simp only [Act.put, List.setIfInBounds_toArray, List.set_cons_zero, List.set_cons_succ]
            refine wpAnyH_take (i := 6) (oi := { dst := some 68, op := Go.Op.fieldAddr 34 (Go.Operand.tmp 6) 1, type := 0, pos := _, after := #[], guard := none }) (v := ?vv17007) rfl (by kernel_rfl) (by kernel_rfl) (by kernel_rfl) (fun _ _ _ h => h) (Or.inl ⟨by rfl, ?hy17007⟩) (by assumption) ?tk17007
            case hy17007 => (intro w hSw; (try dsimp only at hSw); go_simp; (try with_reducible rfl))
            try simp only [Act.put, List.setIfInBounds_toArray, List.set_cons_zero, List.set_cons_succ]
            refine wpAnyH_take (i := 7) (oi := { dst := some 69, op := Go.Op.load 30 (Go.Operand.tmp 68), type := 30, pos := _, after := #[{ on := 6, ground := Go.Ground.data }], guard := none }) (v := ?vv17008) rfl (by kernel_rfl) (by kernel_rfl) (by kernel_rfl) (fun _ _ _ h => h) (Or.inl ⟨by rfl, ?hy17008⟩) (by assumption) ?tk17008
            case hy17008 => (intro w hSw; (try dsimp only at hSw); go_simp; (try with_reducible rfl))
            try simp only [Act.put, List.setIfInBounds_toArray, List.set_cons_zero, List.set_cons_succ]
            refine wpAnyH_take (i := 8) (oi := { dst := some 70, op := Go.Op.call { callee := Go.Callee.builtin Go.Builtin.len, args := #[Go.Operand.tmp 69], argTypes := #[30] }, type := 3, pos := _, after := #[{ on := 7, ground := Go.Ground.data }], guard := none }) (v := ?vv17009) rfl (by kernel_rfl) (by kernel_rfl) (by kernel_rfl) (fun _ _ _ h => h) (Or.inl ⟨by rfl, ?hy17009⟩) (by assumption) ?tk17009
            case hy17009 => (intro w hSw; (try dsimp only at hSw); go_simp; (try with_reducible rfl))
            try simp only [Act.put, List.setIfInBounds_toArray, List.set_cons_zero, List.set_cons_succ]
            refine wpAnyH_ready (rs := [9]) (by kernel_rfl) (by simp) ?_
            refine AllReadyH.cons (o := { dst := some 71, op := Go.Op.call { callee := Go.Callee.value (Go.Operand.func 24), args := #[Go.Operand.tmp 65, Go.Operand.tmp 67, Go.Operand.tmp 70, Go.Operand.const (Go.Value.int Go.IntKind.i64 0)], argTypes := #[58, 9, 3, 3] }, type := 99, pos := _, after := #[{ on := 3, ground := Go.Ground.data }, { on := 5, ground := Go.Ground.data }, { on := 8, ground := Go.Ground.data }], guard := none }) rfl (fun K' hK' => ?_) AllReadyH.nil
            go_simp
            go_at_call 24
            refine hadd.mono ?_
            rintro e w5 ⟨rfl, HR5, ⟨v5, HE5, own5, hv5, hvs5⟩, HN5, W5⟩
            have k5 : ∀ q, q < wd.heap.size → q ≠ E → q ≠ nb → (c' 5).ownBlock ≠ some q → w5.heap[q]? = wd.heap[q]? := fun q h1 h2 h3 h4 => W5.block q h1 (fun z => by rcases z with z | z | z; exact h2 z; exact h3 z; exact h4 z)
            have eCB := k5 CB hCBd hd1 hd2 hc5CB
            have eP := k5 p6 hp6d hp6E hp6n hc5p
            have cb0 := (World.cell?_of_block (a := ⟨CB, 0, none⟩) eCB).trans cb0
            have q0 := (World.cell?_of_block (a := ⟨p6, 0, none⟩) eP).trans q0
            have q1 := (World.cell?_of_block (a := ⟨p6, 1, none⟩) eP).trans q1
            have rb1 : w5.cell? ⟨wd.heap.size, 1, none⟩ = some (.int .i64 (n : Int)) := HR5.ar
            have HX5 := hideIt (And.intro HR5 (And.intro HE5 (And.intro own5 (And.intro hv5 (And.intro hvs5 (And.intro HN5 W5))))))
            clear HR5 HE5 own5 hv5 hvs5 HN5 W5 k5 eCB eP hadd
            clear hHeld
            refine hK'.out _ _ ⟨cb0, q0, q1⟩ (fun hHeld => ?_)
            clear hK' K'
            try simp only [Act.put, List.setIfInBounds_toArray, List.set_cons_zero, List.set_cons_succ]
            refine wpAnyH_take (i := 10) (oi := { dst := some 9, op := Go.Op.assign (Go.Operand.tmp 71), type := 99, pos := _, after := #[{ on := 9, ground := Go.Ground.data }, { on := 9, ground := Go.Ground.chain }, { on := 0, ground := Go.Ground.phase }, { on := 1, ground := Go.Ground.phase }, { on := 2, ground := Go.Ground.phase }, { on := 3, ground := Go.Ground.phase }, { on := 4, ground := Go.Ground.phase }, { on := 5, ground := Go.Ground.phase }, { on := 6, ground := Go.Ground.phase }, { on := 7, ground := Go.Ground.phase }, { on := 8, ground := Go.Ground.phase }, { on := 9, ground := Go.Ground.phase }], guard := none }) (v := ?vv17010) rfl (by kernel_rfl) (by kernel_rfl) (by kernel_rfl) (fun _ _ _ h => h) (Or.inl ⟨by rfl, ?hy17010⟩) (by assumption) ?tk17010
            case hy17010 => (intro w hSw; (try dsimp only at hSw); go_simp; (try with_reducible rfl))
            try simp only [Act.put, List.setIfInBounds_toArray, List.set_cons_zero, List.set_cons_succ]
            refine wpAnyH_done (by kernel_rfl) ?_ _
            clear hHeld
            go_upto_region 15 with fail
            refine wp_region_held_drew (S := (fun w' => w'.cell? ⟨wd.heap.size, 1, none⟩ = some (.int .i64 (n : Int)) ∧ w'.cell? ⟨p6, 1, none⟩ = some (.slice pa n ca))) (by kernel_rfl) ⟨rb1, q1⟩ (fun hHeld => ?_)
            refine wpAnyH_take (i := 0) (oi := { dst := some 72, op := Go.Op.move (Go.Operand.tmp 9), type := 99, pos := _, after := #[], guard := none }) (v := ?vv17065) rfl (by kernel_rfl) (by kernel_rfl) (by kernel_rfl) (fun _ _ _ h => h) (Or.inl ⟨by rfl, ?hy17065⟩) (by assumption) ?tk17065
            case hy17065 => (intro w hSw; (try dsimp only at hSw); go_simp; (try with_reducible rfl))
            try simp only [Act.put, List.setIfInBounds_toArray, List.set_cons_zero, List.set_cons_succ]
            refine wpAnyH_take (i := 1) (oi := { dst := some 73, op := Go.Op.binOp Go.BinOp.eql 99 (Go.Operand.tmp 72) (Go.Operand.const (Go.Value.pointer none)) 99, type := 4, pos := _, after := #[{ on := 0, ground := Go.Ground.data }], guard := none }) (v := ?vv17066) rfl (by kernel_rfl) (by kernel_rfl) (by kernel_rfl) (fun _ _ _ h => h) (Or.inl ⟨by rfl, ?hy17066⟩) (by assumption) ?tk17066
            case hy17066 => (intro w hSw; (try dsimp only at hSw); go_simp; (try with_reducible rfl))
            try simp only [Act.put, List.setIfInBounds_toArray, List.set_cons_zero, List.set_cons_succ]
            refine wpAnyH_take (i := 2) (oi := { dst := some 74, op := Go.Op.move (Go.Operand.tmp 73), type := 4, pos := _, after := #[{ on := 1, ground := Go.Ground.data }], guard := none }) (v := ?vv17067) rfl (by kernel_rfl) (by kernel_rfl) (by kernel_rfl) (fun _ _ _ h => h) (Or.inl ⟨by rfl, ?hy17067⟩) (by assumption) ?tk17067
            case hy17067 => (intro w hSw; (try dsimp only at hSw); go_simp; (try with_reducible rfl))
            try simp only [Act.put, List.setIfInBounds_toArray, List.set_cons_zero, List.set_cons_succ]
            refine wpAnyH_take (i := 3) (oi := { dst := some 75, op := Go.Op.move (Go.Operand.tmp 9), type := 99, pos := _, after := #[{ on := 2, ground := Go.Ground.guard }], guard := some (2, false) }) (v := ?vv17068) rfl (by kernel_rfl) (by kernel_rfl) (by kernel_rfl) (fun _ _ _ h => h) (Or.inl ⟨by rfl, ?hy17068⟩) (by assumption) ?tk17068
            case hy17068 => (intro w hSw; (try dsimp only at hSw); go_simp; (try with_reducible rfl))
            try simp only [Act.put, List.setIfInBounds_toArray, List.set_cons_zero, List.set_cons_succ]
            refine wpAnyH_take (i := 4) (oi := { dst := some 76, op := Go.Op.nilCheck (Go.Operand.tmp 75), type := 0, pos := _, after := #[{ on := 3, ground := Go.Ground.data }, { on := 2, ground := Go.Ground.guard }], guard := some (2, false) }) (v := ?vv17069) rfl (by kernel_rfl) (by kernel_rfl) (by kernel_rfl) (fun _ _ _ h => h) (Or.inl ⟨by rfl, ?hy17069⟩) (by assumption) ?tk17069
            case hy17069 => (intro w hSw; (try dsimp only at hSw); go_simp; (try with_reducible rfl))
            try simp only [Act.put, List.setIfInBounds_toArray, List.set_cons_zero, List.set_cons_succ]
            refine wpAnyH_take (i := 5) (oi := { dst := some 77, op := Go.Op.fieldAddr 98 (Go.Operand.tmp 76) 1, type := 0, pos := _, after := #[{ on := 4, ground := Go.Ground.data }, { on := 2, ground := Go.Ground.guard }], guard := some (2, false) }) (v := ?vv17070) rfl (by kernel_rfl) (by kernel_rfl) (by kernel_rfl) (fun _ _ _ h => h) (Or.inl ⟨by rfl, ?hy17070⟩) (by assumption) ?tk17070
            case hy17070 => (intro w hSw; (try dsimp only at hSw); go_simp; (try with_reducible rfl))
            try simp only [Act.put, List.setIfInBounds_toArray, List.set_cons_zero, List.set_cons_succ]
            refine wpAnyH_take (i := 6) (oi := { dst := some 78, op := Go.Op.load 3 (Go.Operand.tmp 77), type := 3, pos := _, after := #[{ on := 5, ground := Go.Ground.data }, { on := 2, ground := Go.Ground.guard }], guard := some (2, false) }) (v := ?vv17071) rfl (by kernel_rfl) (by kernel_rfl) (by kernel_rfl) (fun _ _ _ h => h) (Or.inl ⟨by rfl, ?hy17071⟩) (by assumption) ?tk17071
            case hy17071 => (intro w hSw; (try dsimp only at hSw); go_simp; (try with_reducible rfl))
            try simp only [Act.put, List.setIfInBounds_toArray, List.set_cons_zero, List.set_cons_succ]
            refine wpAnyH_take (i := 7) (oi := { dst := some 79, op := Go.Op.fieldAddr 34 (Go.Operand.tmp 6) 1, type := 0, pos := _, after := #[{ on := 2, ground := Go.Ground.guard }], guard := some (2, false) }) (v := ?vv17072) rfl (by kernel_rfl) (by kernel_rfl) (by kernel_rfl) (fun _ _ _ h => h) (Or.inl ⟨by rfl, ?hy17072⟩) (by assumption) ?tk17072
            case hy17072 => (intro w hSw; (try dsimp only at hSw); go_simp; (try with_reducible rfl))
            try simp only [Act.put, List.setIfInBounds_toArray, List.set_cons_zero, List.set_cons_succ]
            refine wpAnyH_take (i := 8) (oi := { dst := some 80, op := Go.Op.load 30 (Go.Operand.tmp 79), type := 30, pos := _, after := #[{ on := 7, ground := Go.Ground.data }, { on := 2, ground := Go.Ground.guard }], guard := some (2, false) }) (v := ?vv17073) rfl (by kernel_rfl) (by kernel_rfl) (by kernel_rfl) (fun _ _ _ h => h) (Or.inl ⟨by rfl, ?hy17073⟩) (by assumption) ?tk17073
            case hy17073 => (intro w hSw; (try dsimp only at hSw); go_simp; (try with_reducible rfl))
            try simp only [Act.put, List.setIfInBounds_toArray, List.set_cons_zero, List.set_cons_succ]
            refine wpAnyH_take (i := 9) (oi := { dst := some 81, op := Go.Op.call { callee := Go.Callee.builtin Go.Builtin.len, args := #[Go.Operand.tmp 80], argTypes := #[30] }, type := 3, pos := _, after := #[{ on := 8, ground := Go.Ground.data }, { on := 2, ground := Go.Ground.guard }], guard := some (2, false) }) (v := ?vv17074) rfl (by kernel_rfl) (by kernel_rfl) (by kernel_rfl) (fun _ _ _ h => h) (Or.inl ⟨by rfl, ?hy17074⟩) (by assumption) ?tk17074
            case hy17074 => (intro w hSw; (try dsimp only at hSw); go_simp; (try with_reducible rfl))
            try simp only [Act.put, List.setIfInBounds_toArray, List.set_cons_zero, List.set_cons_succ]
            refine wpAnyH_take (i := 10) (oi := { dst := some 82, op := Go.Op.binOp Go.BinOp.neq 3 (Go.Operand.tmp 78) (Go.Operand.tmp 81) 3, type := 4, pos := _, after := #[{ on := 6, ground := Go.Ground.data }, { on := 9, ground := Go.Ground.data }, { on := 2, ground := Go.Ground.guard }], guard := some (2, false) }) (v := ?vv17075) rfl (by kernel_rfl) (by kernel_rfl) (by kernel_rfl) (fun _ _ _ h => h) (Or.inl ⟨by rfl, ?hy17075⟩) (by assumption) ?tk17075
            case hy17075 => (intro w hSw; (try dsimp only at hSw); go_simp; (try with_reducible rfl))
            try simp only [Act.put, List.setIfInBounds_toArray, List.set_cons_zero, List.set_cons_succ]
            refine wpAnyH_take (i := 11) (oi := { dst := some 83, op := Go.Op.pick (Go.Operand.tmp 74) (Go.Operand.const (Go.Value.bool true)) (Go.Operand.tmp 82), type := 4, pos := _, after := #[{ on := 2, ground := Go.Ground.data }, { on := 10, ground := Go.Ground.data }], guard := none }) (v := ?vv17076) rfl (by kernel_rfl) (by kernel_rfl) (by kernel_rfl) (fun _ _ _ h => h) (Or.inl ⟨by rfl, ?hy17076⟩) (by assumption) ?tk17076
            case hy17076 => (intro w hSw; (try dsimp only at hSw); go_simp; (try with_reducible rfl))
            try simp only [Act.put, List.setIfInBounds_toArray, List.set_cons_zero, List.set_cons_succ]
            refine wpAnyH_done (by kernel_rfl) ?_ _
            clear hHeld
            go_wp2
            go_roundg (nF - (i + 1))
            case measure => omega
            case rel =>
              obtain ⟨PD, hnm, hnn, bAj⟩ := HPD.out
              obtain ⟨T3, hk3⟩ := HT3.out
              obtain ⟨HR5, HE5, own5, hv5, hvs5, HN5, W5⟩ := HX5.out
              have T3' : Tab (World.drew (World.drew wd)) E nb base rb' ar 3 c' := T3.keep (fun q _ _ => rfl)
              have han : ar 3 = n := by rw [hnn, hk3, kf_nat (by omega)]
              rw [← hnm, hk3, ← han] at HR5
              rw [hk3] at HN5
              have T5 := T3'.next (by omega) (by show base ≤ wd.heap.size; omega) hB2 hB3 HR5 HE5 own5 hv5 HN5 W5 hvs5
              have hsW := W5.size
              have hwd : (World.drew (World.drew wd)).heap.size = wd.heap.size := rfl
              have e5 : updV c' 5 v5 5 = v5 := if_pos rfl
              refine ⟨i + 1, by omega, by go_num, updN rb' 3 wd.heap.size, updV c' 5 v5, ⟨?_, fun k hk => (updV_other c' v5 hk).trans (PD.hc k hk), fun j hj => (updN_other rb' _ (by omega)).trans (PD.hr j hj), fun _ => by rw [updN_same]; omega, ?_, ?_⟩⟩
              · rw [if_neg (by omega)]
                exact T5.keep (fun q _ _ => rfl)
              · rw [e5]
                rcases hvs5 with z | z
                · rcases PD.v5 with y | y
                  · exact .inl (z.trans y)
                  · exact .inr (fun q hq => y q (z ▸ hq))
                · exact .inr (fun q hq => by have := z q hq; omega)
              · have W6 : Ws (fun q => q = E ∨ q = nb ∨ (c 5).ownBlock = some q) w1 w5 := (PD.W.drew.drew).then W5 (fun q hq => by
                  rcases hq with z | z | z
                  · exact .inl (.inl z)
                  · exact .inl (.inr (.inl z))
                  · rcases PD.v5 with y | y
                    · exact .inl (.inr (.inr (y ▸ z)))
                    · have := y q z
                      exact .inr (by omega))
                exact W6.drew
          · have T4 : Tab wd E nb base rb' ar 4 c' := by have := PD.T; rw [if_neg hi0] at this; exact this
            obtain ⟨rq, hrq⟩ : ∃ rq, rb' (fk i).val = rq := ⟨_, rfl⟩
            have hR := (T4.r (fk i).val (fk i).isLt).1
            have rb1 : wd.cell? ⟨rq, 1, none⟩ = some (.int .i64 (n : Int)) := by rw [← hrq, hnn]; exact hR.ar
            have hlk : ∀ w', w'.heap[nb]? = wd.heap[nb]? → (Instr.lookup 75 (.map (some nb)) (.string nm) true).run Tryz.prog w' = .ok (.tuple #[.pointer (some ⟨rq, 0, none⟩), .bool true]) w' := fun w' e => by
              have := (T4.m.blk e).look (fk i)
              rw [fnK_four, hnm, hrq] at this
              exact this
            clear PD HCr D2 hnm hnn PP T4 hR
            go_upto_region 12 with fail
            refine wp_region_held_drew (S := (fun w' => w'.cell? ⟨CB, 0, none⟩ = some (.pointer (some ⟨E, 0, none⟩)) ∧ w'.cell? ⟨E, 6, none⟩ = some (.map (some nb)) ∧ w'.cell? ⟨p6, 0, none⟩ = some (.string nm) ∧ w'.heap[nb]? = wd.heap[nb]?)) (by kernel_rfl) ⟨cb0, e6, q0, rfl⟩ (fun hHeld => ?_)
            refine wpAnyH_take (i := 0) (oi := { dst := some 42, op := Go.Op.move (Go.Operand.tmp 0), type := 87, pos := _, after := #[], guard := none }) (v := ?vv17077) rfl (by kernel_rfl) (by kernel_rfl) (by kernel_rfl) (fun _ _ _ h => h) (Or.inl ⟨by rfl, ?hy17077⟩) (by assumption) ?tk17077
            case hy17077 => (intro w hSw; (try dsimp only at hSw); go_simp; (try with_reducible rfl))
            try simp only [Act.put, List.setIfInBounds_toArray, List.set_cons_zero, List.set_cons_succ]
            refine wpAnyH_take (i := 1) (oi := { dst := some 43, op := Go.Op.nilCheck (Go.Operand.tmp 42), type := 0, pos := _, after := #[{ on := 0, ground := Go.Ground.data }], guard := none }) (v := ?vv17078) rfl (by kernel_rfl) (by kernel_rfl) (by kernel_rfl) (fun _ _ _ h => h) (Or.inl ⟨by rfl, ?hy17078⟩) (by assumption) ?tk17078
            case hy17078 => (intro w hSw; (try dsimp only at hSw); go_simp; (try with_reducible rfl))
            try simp only [Act.put, List.setIfInBounds_toArray, List.set_cons_zero, List.set_cons_succ]
            refine wpAnyH_take (i := 2) (oi := { dst := some 44, op := Go.Op.fieldAddr 90 (Go.Operand.tmp 43) 0, type := 0, pos := _, after := #[{ on := 1, ground := Go.Ground.data }], guard := none }) (v := ?vv17079) rfl (by kernel_rfl) (by kernel_rfl) (by kernel_rfl) (fun _ _ _ h => h) (Or.inl ⟨by rfl, ?hy17079⟩) (by assumption) ?tk17079
            case hy17079 => (intro w hSw; (try dsimp only at hSw); go_simp; (try with_reducible rfl))
            try simp only [Act.put, List.setIfInBounds_toArray, List.set_cons_zero, List.set_cons_succ]
            refine wpAnyH_take (i := 3) (oi := { dst := some 45, op := Go.Op.load 58 (Go.Operand.tmp 44), type := 58, pos := _, after := #[{ on := 2, ground := Go.Ground.data }], guard := none }) (v := ?vv17080) rfl (by kernel_rfl) (by kernel_rfl) (by kernel_rfl) (fun _ _ _ h => h) (Or.inl ⟨by rfl, ?hy17080⟩) (by assumption) ?tk17080
            case hy17080 => (intro w hSw; (try dsimp only at hSw); go_simp; (try with_reducible rfl))
            try simp only [Act.put, List.setIfInBounds_toArray, List.set_cons_zero, List.set_cons_succ]
            refine wpAnyH_take (i := 4) (oi := { dst := some 46, op := Go.Op.nilCheck (Go.Operand.tmp 45), type := 0, pos := _, after := #[{ on := 3, ground := Go.Ground.data }], guard := none }) (v := ?vv17081) rfl (by kernel_rfl) (by kernel_rfl) (by kernel_rfl) (fun _ _ _ h => h) (Or.inl ⟨by rfl, ?hy17081⟩) (by assumption) ?tk17081
            case hy17081 => (intro w hSw; (try dsimp only at hSw); go_simp; (try with_reducible rfl))
            try simp only [Act.put, List.setIfInBounds_toArray, List.set_cons_zero, List.set_cons_succ]
            refine wpAnyH_take (i := 5) (oi := { dst := some 47, op := Go.Op.fieldAddr 86 (Go.Operand.tmp 46) 3, type := 0, pos := _, after := #[{ on := 4, ground := Go.Ground.data }], guard := none }) (v := ?vv17082) rfl (by kernel_rfl) (by kernel_rfl) (by kernel_rfl) (fun _ _ _ h => h) (Or.inl ⟨by rfl, ?hy17082⟩) (by assumption) ?tk17082
            case hy17082 => (intro w hSw; (try dsimp only at hSw); go_simp; (try with_reducible rfl))
            try simp only [Act.put, List.setIfInBounds_toArray, List.set_cons_zero, List.set_cons_succ]
            refine wpAnyH_take (i := 6) (oi := { dst := some 48, op := Go.Op.load 75 (Go.Operand.tmp 47), type := 75, pos := _, after := #[{ on := 5, ground := Go.Ground.data }], guard := none }) (v := ?vv17083) rfl (by kernel_rfl) (by kernel_rfl) (by kernel_rfl) (fun _ _ _ h => h) (Or.inl ⟨by rfl, ?hy17083⟩) (by assumption) ?tk17083
            case hy17083 => (intro w hSw; (try dsimp only at hSw); go_simp; (try with_reducible rfl))
            try simp only [Act.put, List.setIfInBounds_toArray, List.set_cons_zero, List.set_cons_succ]
            refine wpAnyH_take (i := 7) (oi := { dst := some 49, op := Go.Op.fieldAddr 34 (Go.Operand.tmp 6) 0, type := 0, pos := _, after := #[], guard := none }) (v := ?vv17084) rfl (by kernel_rfl) (by kernel_rfl) (by kernel_rfl) (fun _ _ _ h => h) (Or.inl ⟨by rfl, ?hy17084⟩) (by assumption) ?tk17084
            case hy17084 => (intro w hSw; (try dsimp only at hSw); go_simp; (try with_reducible rfl))
            try simp only [Act.put, List.setIfInBounds_toArray, List.set_cons_zero, List.set_cons_succ]
            refine wpAnyH_take (i := 8) (oi := { dst := some 50, op := Go.Op.load 9 (Go.Operand.tmp 49), type := 9, pos := _, after := #[{ on := 7, ground := Go.Ground.data }], guard := none }) (v := ?vv17085) rfl (by kernel_rfl) (by kernel_rfl) (by kernel_rfl) (fun _ _ _ h => h) (Or.inl ⟨by rfl, ?hy17085⟩) (by assumption) ?tk17085
            case hy17085 => (intro w hSw; (try dsimp only at hSw); go_simp; (try with_reducible rfl))
            try simp only [Act.put, List.setIfInBounds_toArray, List.set_cons_zero, List.set_cons_succ]
            refine wpAnyH_take (i := 9) (oi := { dst := some 51, op := Go.Op.lookup 75 (Go.Operand.tmp 48) (Go.Operand.tmp 50) true, type := 117, pos := _, after := #[{ on := 6, ground := Go.Ground.data }, { on := 8, ground := Go.Ground.data }], guard := none }) (v := ?vv17086) rfl (by kernel_rfl) (by kernel_rfl) (by kernel_rfl) (fun _ _ _ h => h) (Or.inl ⟨by rfl, ?hy17086⟩) (by assumption) ?tk17086
            case hy17086 => (intro w hSw; have hl7 := hlk w hSw.2.2.2; (try dsimp only at hSw); go_simp; (try with_reducible rfl))
            try simp only [Act.put, List.setIfInBounds_toArray, List.set_cons_zero, List.set_cons_succ]
            refine wpAnyH_take (i := 10) (oi := { dst := some 41, op := Go.Op.move (Go.Operand.tmp 51), type := 117, pos := _, after := #[{ on := 9, ground := Go.Ground.data }], guard := none }) (v := ?vv17087) rfl (by kernel_rfl) (by kernel_rfl) (by kernel_rfl) (fun _ _ _ h => h) (Or.inl ⟨by rfl, ?hy17087⟩) (by assumption) ?tk17087
            case hy17087 => (intro w hSw; (try dsimp only at hSw); go_simp; (try with_reducible rfl))
            try simp only [Act.put, List.setIfInBounds_toArray, List.set_cons_zero, List.set_cons_succ]
            refine wpAnyH_take (i := 11) (oi := { dst := some 52, op := Go.Op.extract (Go.Operand.tmp 41) 0, type := 99, pos := _, after := #[{ on := 10, ground := Go.Ground.data }], guard := none }) (v := ?vv17088) rfl (by kernel_rfl) (by kernel_rfl) (by kernel_rfl) (fun _ _ _ h => h) (Or.inl ⟨by rfl, ?hy17088⟩) (by assumption) ?tk17088
            case hy17088 => (intro w hSw; (try dsimp only at hSw); go_simp; (try with_reducible rfl))
            try simp only [Act.put, List.setIfInBounds_toArray, List.set_cons_zero, List.set_cons_succ]
            refine wpAnyH_take (i := 12) (oi := { dst := some 53, op := Go.Op.extract (Go.Operand.tmp 41) 1, type := 4, pos := _, after := #[{ on := 10, ground := Go.Ground.data }, { on := 13, ground := Go.Ground.gcOnly Go.Departure.lateStores }], guard := none }) (v := ?vv17089) rfl (by kernel_rfl) (by kernel_rfl) (by kernel_rfl) (fun _ _ _ h => h) (Or.inl ⟨by rfl, ?hy17089⟩) (by assumption) ?tk17089
            case hy17089 => (intro w hSw; (try dsimp only at hSw); go_simp; (try with_reducible rfl))
            try simp only [Act.put, List.setIfInBounds_toArray, List.set_cons_zero, List.set_cons_succ]
            refine wpAnyH_take (i := 13) (oi := { dst := some 9, op := Go.Op.assign (Go.Operand.tmp 52), type := 99, pos := _, after := #[{ on := 11, ground := Go.Ground.data }, { on := 0, ground := Go.Ground.phase }, { on := 1, ground := Go.Ground.phase }, { on := 2, ground := Go.Ground.phase }, { on := 3, ground := Go.Ground.phase }, { on := 4, ground := Go.Ground.phase }, { on := 5, ground := Go.Ground.phase }, { on := 6, ground := Go.Ground.phase }, { on := 7, ground := Go.Ground.phase }, { on := 8, ground := Go.Ground.phase }, { on := 9, ground := Go.Ground.phase }, { on := 10, ground := Go.Ground.phase }, { on := 11, ground := Go.Ground.phase }, { on := 12, ground := Go.Ground.textOnly Go.Departure.lateStores }], guard := none }) (v := ?vv17090) rfl (by kernel_rfl) (by kernel_rfl) (by kernel_rfl) (fun _ _ _ h => h) (Or.inl ⟨by rfl, ?hy17090⟩) (by assumption) ?tk17090
            case hy17090 => (intro w hSw; (try dsimp only at hSw); go_simp; (try with_reducible rfl))
            try simp only [Act.put, List.setIfInBounds_toArray, List.set_cons_zero, List.set_cons_succ]
            refine wpAnyH_take (i := 14) (oi := { dst := some 10, op := Go.Op.assign (Go.Operand.tmp 53), type := 4, pos := _, after := #[{ on := 12, ground := Go.Ground.data }, { on := 13, ground := Go.Ground.chain }, { on := 0, ground := Go.Ground.phase }, { on := 1, ground := Go.Ground.phase }, { on := 2, ground := Go.Ground.phase }, { on := 3, ground := Go.Ground.phase }, { on := 4, ground := Go.Ground.phase }, { on := 5, ground := Go.Ground.phase }, { on := 6, ground := Go.Ground.phase }, { on := 7, ground := Go.Ground.phase }, { on := 8, ground := Go.Ground.phase }, { on := 9, ground := Go.Ground.phase }, { on := 10, ground := Go.Ground.phase }, { on := 11, ground := Go.Ground.phase }, { on := 12, ground := Go.Ground.phase }, { on := 13, ground := Go.Ground.phase }], guard := none }) (v := ?vv17091) rfl (by kernel_rfl) (by kernel_rfl) (by kernel_rfl) (fun _ _ _ h => h) (Or.inl ⟨by rfl, ?hy17091⟩) (by assumption) ?tk17091
            case hy17091 => (intro w hSw; (try dsimp only at hSw); go_simp; (try with_reducible rfl))
            try simp only [Act.put, List.setIfInBounds_toArray, List.set_cons_zero, List.set_cons_succ]
            refine wpAnyH_done (by kernel_rfl) ?_ _
            clear hHeld
            go_upto_region 15 with fail
            refine wp_region_held_drew (S := (fun w' => w'.cell? ⟨rq, 1, none⟩ = some (.int .i64 (n : Int)) ∧ w'.cell? ⟨p6, 1, none⟩ = some (.slice pa n ca))) (by kernel_rfl) ⟨rb1, q1⟩ (fun hHeld => ?_)
            refine wpAnyH_take (i := 0) (oi := { dst := some 72, op := Go.Op.move (Go.Operand.tmp 9), type := 99, pos := _, after := #[], guard := none }) (v := ?vv17092) rfl (by kernel_rfl) (by kernel_rfl) (by kernel_rfl) (fun _ _ _ h => h) (Or.inl ⟨by rfl, ?hy17092⟩) (by assumption) ?tk17092
            case hy17092 => (intro w hSw; (try dsimp only at hSw); go_simp; (try with_reducible rfl))
            try simp only [Act.put, List.setIfInBounds_toArray, List.set_cons_zero, List.set_cons_succ]
            refine wpAnyH_take (i := 1) (oi := { dst := some 73, op := Go.Op.binOp Go.BinOp.eql 99 (Go.Operand.tmp 72) (Go.Operand.const (Go.Value.pointer none)) 99, type := 4, pos := _, after := #[{ on := 0, ground := Go.Ground.data }], guard := none }) (v := ?vv17093) rfl (by kernel_rfl) (by kernel_rfl) (by kernel_rfl) (fun _ _ _ h => h) (Or.inl ⟨by rfl, ?hy17093⟩) (by assumption) ?tk17093
            case hy17093 => (intro w hSw; (try dsimp only at hSw); go_simp; (try with_reducible rfl))
            try simp only [Act.put, List.setIfInBounds_toArray, List.set_cons_zero, List.set_cons_succ]
            refine wpAnyH_take (i := 2) (oi := { dst := some 74, op := Go.Op.move (Go.Operand.tmp 73), type := 4, pos := _, after := #[{ on := 1, ground := Go.Ground.data }], guard := none }) (v := ?vv17094) rfl (by kernel_rfl) (by kernel_rfl) (by kernel_rfl) (fun _ _ _ h => h) (Or.inl ⟨by rfl, ?hy17094⟩) (by assumption) ?tk17094
            case hy17094 => (intro w hSw; (try dsimp only at hSw); go_simp; (try with_reducible rfl))
            try simp only [Act.put, List.setIfInBounds_toArray, List.set_cons_zero, List.set_cons_succ]
            refine wpAnyH_take (i := 3) (oi := { dst := some 75, op := Go.Op.move (Go.Operand.tmp 9), type := 99, pos := _, after := #[{ on := 2, ground := Go.Ground.guard }], guard := some (2, false) }) (v := ?vv17095) rfl (by kernel_rfl) (by kernel_rfl) (by kernel_rfl) (fun _ _ _ h => h) (Or.inl ⟨by rfl, ?hy17095⟩) (by assumption) ?tk17095
            case hy17095 => (intro w hSw; (try dsimp only at hSw); go_simp; (try with_reducible rfl))
            try simp only [Act.put, List.setIfInBounds_toArray, List.set_cons_zero, List.set_cons_succ]
            refine wpAnyH_take (i := 4) (oi := { dst := some 76, op := Go.Op.nilCheck (Go.Operand.tmp 75), type := 0, pos := _, after := #[{ on := 3, ground := Go.Ground.data }, { on := 2, ground := Go.Ground.guard }], guard := some (2, false) }) (v := ?vv17096) rfl (by kernel_rfl) (by kernel_rfl) (by kernel_rfl) (fun _ _ _ h => h) (Or.inl ⟨by rfl, ?hy17096⟩) (by assumption) ?tk17096
            case hy17096 => (intro w hSw; (try dsimp only at hSw); go_simp; (try with_reducible rfl))
            try simp only [Act.put, List.setIfInBounds_toArray, List.set_cons_zero, List.set_cons_succ]
            refine wpAnyH_take (i := 5) (oi := { dst := some 77, op := Go.Op.fieldAddr 98 (Go.Operand.tmp 76) 1, type := 0, pos := _, after := #[{ on := 4, ground := Go.Ground.data }, { on := 2, ground := Go.Ground.guard }], guard := some (2, false) }) (v := ?vv17097) rfl (by kernel_rfl) (by kernel_rfl) (by kernel_rfl) (fun _ _ _ h => h) (Or.inl ⟨by rfl, ?hy17097⟩) (by assumption) ?tk17097
            case hy17097 => (intro w hSw; (try dsimp only at hSw); go_simp; (try with_reducible rfl))
            try simp only [Act.put, List.setIfInBounds_toArray, List.set_cons_zero, List.set_cons_succ]
            refine wpAnyH_take (i := 6) (oi := { dst := some 78, op := Go.Op.load 3 (Go.Operand.tmp 77), type := 3, pos := _, after := #[{ on := 5, ground := Go.Ground.data }, { on := 2, ground := Go.Ground.guard }], guard := some (2, false) }) (v := ?vv17098) rfl (by kernel_rfl) (by kernel_rfl) (by kernel_rfl) (fun _ _ _ h => h) (Or.inl ⟨by rfl, ?hy17098⟩) (by assumption) ?tk17098
            case hy17098 => (intro w hSw; (try dsimp only at hSw); go_simp; (try with_reducible rfl))
            try simp only [Act.put, List.setIfInBounds_toArray, List.set_cons_zero, List.set_cons_succ]
            refine wpAnyH_take (i := 7) (oi := { dst := some 79, op := Go.Op.fieldAddr 34 (Go.Operand.tmp 6) 1, type := 0, pos := _, after := #[{ on := 2, ground := Go.Ground.guard }], guard := some (2, false) }) (v := ?vv17099) rfl (by kernel_rfl) (by kernel_rfl) (by kernel_rfl) (fun _ _ _ h => h) (Or.inl ⟨by rfl, ?hy17099⟩) (by assumption) ?tk17099
            case hy17099 => (intro w hSw; (try dsimp only at hSw); go_simp; (try with_reducible rfl))
            try simp only [Act.put, List.setIfInBounds_toArray, List.set_cons_zero, List.set_cons_succ]
            refine wpAnyH_take (i := 8) (oi := { dst := some 80, op := Go.Op.load 30 (Go.Operand.tmp 79), type := 30, pos := _, after := #[{ on := 7, ground := Go.Ground.data }, { on := 2, ground := Go.Ground.guard }], guard := some (2, false) }) (v := ?vv17100) rfl (by kernel_rfl) (by kernel_rfl) (by kernel_rfl) (fun _ _ _ h => h) (Or.inl ⟨by rfl, ?hy17100⟩) (by assumption) ?tk17100
            case hy17100 => (intro w hSw; (try dsimp only at hSw); go_simp; (try with_reducible rfl))
            try simp only [Act.put, List.setIfInBounds_toArray, List.set_cons_zero, List.set_cons_succ]
            refine wpAnyH_take (i := 9) (oi := { dst := some 81, op := Go.Op.call { callee := Go.Callee.builtin Go.Builtin.len, args := #[Go.Operand.tmp 80], argTypes := #[30] }, type := 3, pos := _, after := #[{ on := 8, ground := Go.Ground.data }, { on := 2, ground := Go.Ground.guard }], guard := some (2, false) }) (v := ?vv17101) rfl (by kernel_rfl) (by kernel_rfl) (by kernel_rfl) (fun _ _ _ h => h) (Or.inl ⟨by rfl, ?hy17101⟩) (by assumption) ?tk17101
            case hy17101 => (intro w hSw; (try dsimp only at hSw); go_simp; (try with_reducible rfl))
            try simp only [Act.put, List.setIfInBounds_toArray, List.set_cons_zero, List.set_cons_succ]
            refine wpAnyH_take (i := 10) (oi := { dst := some 82, op := Go.Op.binOp Go.BinOp.neq 3 (Go.Operand.tmp 78) (Go.Operand.tmp 81) 3, type := 4, pos := _, after := #[{ on := 6, ground := Go.Ground.data }, { on := 9, ground := Go.Ground.data }, { on := 2, ground := Go.Ground.guard }], guard := some (2, false) }) (v := ?vv17102) rfl (by kernel_rfl) (by kernel_rfl) (by kernel_rfl) (fun _ _ _ h => h) (Or.inl ⟨by rfl, ?hy17102⟩) (by assumption) ?tk17102
            case hy17102 => (intro w hSw; (try dsimp only at hSw); go_simp; (try with_reducible rfl))
            try simp only [Act.put, List.setIfInBounds_toArray, List.set_cons_zero, List.set_cons_succ]
            refine wpAnyH_take (i := 11) (oi := { dst := some 83, op := Go.Op.pick (Go.Operand.tmp 74) (Go.Operand.const (Go.Value.bool true)) (Go.Operand.tmp 82), type := 4, pos := _, after := #[{ on := 2, ground := Go.Ground.data }, { on := 10, ground := Go.Ground.data }], guard := none }) (v := ?vv17103) rfl (by kernel_rfl) (by kernel_rfl) (by kernel_rfl) (fun _ _ _ h => h) (Or.inl ⟨by rfl, ?hy17103⟩) (by assumption) ?tk17103
            case hy17103 => (intro w hSw; (try dsimp only at hSw); go_simp; (try with_reducible rfl))
            try simp only [Act.put, List.setIfInBounds_toArray, List.set_cons_zero, List.set_cons_succ]
            refine wpAnyH_done (by kernel_rfl) ?_ _
            clear hHeld
            go_wp2
            go_roundg (nF - (i + 1))
            case measure => omega
            case rel =>
              exact ⟨i + 1, by omega, by go_num, rb', c', (HPD.out.1.below (below_dr (below_dr (Below.refl _ _)))).next hi0⟩
    · have hin : nF = i := by omega
      subst hin
      obtain ⟨wB, rfl⟩ : ∃ x, x = wr := ⟨_, rfl⟩
      obtain ⟨HS, HC, D, K, hb0, bZ⟩ := HQ.out
      have hwB : w.heap.size < wB.heap.size := by omega
      have HSr : SymsAt wB SB mi (.slice none 0 0) 0 := (HS.below bZ).keep (fun q hq hl => by
        have hq2 : q = SB ∨ q = mi := by
          rcases hq with z | z | z
          · exact .inl z
          · exact .inr z
          · simp [Value.ownBlock] at z
        exact k1 q hl (by omega) (by omega) (c5b q (by omega)))
      have HCr := (World.cell?_of_block (a := ⟨CB, 0, none⟩) (k1 CB (by omega) hd1 hd2 (c5b CB hB1))).trans (cell_later bZ HC)
      have PS : P2 w w1 wB E nb CB SB mi rb rb' ar c c' fk fv 0 0 (fx0 ar) := PP.start (by omega) HO.out HCC.out.2.2.2 HSr HCr bZ (by omega) K.a0 K.a1
      have HPS0 := hideIt PS
      have HC' := hideIt (And.intro PP.hc (And.intro PP.hr (PP.h3 (by omega))))
      clear HS HC D K hb0 bZ HSr HCr PS PP k1 c5b
      go_wp2_with fail
      go_loopg [89, 11] nF (fun gg v r wr => ∃ j : Nat, j + gg = nF ∧ v = .int .i64 (j : Int) ∧ ∃ x : FX, r = x.row ∧ P2 w w1 wr E nb CB SB mi rb rb' ar c c' fk fv j (min j 64) x ∧ w.heap.size < wr.heap.size)
      case atStart => exact ⟨0, by omega, rfl, _, rfl, HPS0.out, hwB⟩
      case round =>
        clear HPS0
        obtain ⟨i, hi, rfl, x, rfl, PP, hwr⟩ := hrel
        have b0r : Below w0.heap.size w0 wr := PP.b0 HO.out HQ.out.2.2.2.2.1 ⟨hlo1, hlo2, hlo3, hlo4, hlo5⟩
        obtain ⟨pr0, cr0, hrow, hown0, hpn0⟩ := own_cut PP.F.ro
        by_cases him : i < nF
        · obtain ⟨D0, D1, D2⟩ := (HQ.out.2.2.1.below b0r (Nat.le_refl _)).c i him
          have K := HQ.out.2.2.2.1
          have hnn := K.na i him
          have hn1 := K.a1 (fk i).val (fk i).isLt
          have hn0 := K.a0 (fk i).val (fk i).isLt
          obtain ⟨n, HN⟩ : ∃ n, Hid (nn i = n) := ⟨_, hideIt rfl⟩
          have hstep : ∀ t, t < n → fv i t ≤ kI i t ∧ max (kI i t) (fv i t + 1) = kI i (t + 1) ∧ kI i t ≤ 64 := fun t ht => K.step him (by rw [HN.out]; exact ht)
          have hval : ∀ t, t < n → fv i t < 64 := fun t ht => K.v i t him (by rw [HN.out]; exact ht)
          rw [HN.out] at hnn D2
          rw [← hnn] at hn1 hn0
          obtain ⟨pa, ca, ea, hca, D2'⟩ := D2
          have D2 : IntsAt wr (av i) n (fv i) := ⟨pa, ca, ea, hca, D2'⟩
          clear D2'
          rw [ea] at D1 D2
          have HEA := hideIt ea
          clear ea
          obtain ⟨nm, hnm⟩ : ∃ nm, nmS (fk i) = nm := ⟨_, rfl⟩
          rw [hnm] at D0
          have i0 : (0 : Int) ≤ i := by omega
          have i1 : (i : Int) < (nF : Int) := by omega
          have hsl0 := fun w' => slice0 (n := x.rn) (c := cr0) (p := pr0) w'
          rw [hrow]
          have bP := one_alloc wr (.cells #[.string nm, .slice pa n ca] 34)
          have hsP : (wr.alloc (.cells #[.string nm, .slice pa n ca] 34)).heap.size = wr.heap.size + 1 := by simp
          have q0 : (wr.alloc (.cells #[.string nm, .slice pa n ca] 34)).cell? ⟨wr.heap.size, 0, none⟩ = some (.string nm) := by simp
          have hrowb : (Value.slice pr0 0 cr0).ownBlock = x.row.ownBlock := by rw [hrow]; cases pr0 <;> rfl
          have P0 := (PP.below bP hwr).rowp (row := .slice pr0 0 cr0) (rn := 0) (rx := []) HO.out (by omega) (own_keep hown0 (fun q _ hl => bP.block q hl)) (fun q hq => .inl (hrowb ▸ hq)) (Ws.refl _ _)
          have hp13f : ∀ k, 3 ≤ k → k < 10 → ¬ fpF E nb CB SB mi rb' c' { x with row := .slice pr0 0 cr0, rn := 0, rx := [] } k wr.heap.size := fun k h1 h2 hq => by
            have hq' : fpF E nb CB SB mi rb' c' x k wr.heap.size := by
              match k, hq with
              | 0, hq => exact hq
              | 1, hq => exact hq
              | 2, hq => exact hq
              | 3, hq => exact hq
              | 4, hq => exact hrowb.symm.trans hq
              | 5, hq => exact hq
              | k + 6, hq => exact hq
            have := PP.F.flt k _ h2 hq'
            omega
          have hCB13 : wr.heap.size ≠ CB ∧ wr.heap.size ≠ E ∧ wr.heap.size ≠ nb := ⟨by omega, by omega, by omega⟩
          have HX := hideIt (And.intro P0 (And.intro D2 (And.intro hnm (And.intro hnn (And.intro q0 (And.intro hp13f (And.intro hsP (And.intro hstep (And.intro hval bP)))))))))
          clear PP b0r D2 hnm hnn P0 bP hsP q0 hp13f hrow hown0 hpn0 hrowb K hstep hval
          obtain ⟨wA, rfl⟩ : ∃ x, x = wr := ⟨_, rfl⟩
          go_wp2_with fail
          clear D0 D1
          generalize wA.alloc (.cells #[.string nm, .slice pa n ca] 34) = wb at *
          generalize hp13 : wA.heap.size = p13 at *
          go_loopg [98, 11] n (fun gg v r wr => ∃ t : Nat, t + gg = n ∧ v = .int .i64 (t : Int) ∧ ∃ y : FX, r = y.row ∧ y.rn = t ∧ y.rx = symL (fv i) t ∧ P2 w w1 wr E nb CB SB mi rb rb' ar c c' fk fv i (kI i t) y ∧ wr.cell? ⟨p13, 0, none⟩ = some (.string nm) ∧ (∀ k, 3 ≤ k → k < 10 → ¬ fpF E nb CB SB mi rb' c' y k p13) ∧ p13 < wr.heap.size)
          case atStart =>
            obtain ⟨P0, D2, hnm, hnn, q0, hp13f, hsP, _⟩ := HX.out
            have ek : kI i 0 = min i 64 := if_pos rfl
            exact ⟨0, by omega, rfl, _, rfl, rfl, rfl, by rw [ek]; exact P0, q0, hp13f, by omega⟩
          case round =>
            obtain ⟨t, ht, rfl, y, hyr, hyn, hyx, PP, q0, hp13f, hp13d⟩ := hrel
            obtain ⟨P0, D2, hnm, hnn, _, _, hsP, hstep, hval, bP⟩ := HX.out
            have b0r : Below w0.heap.size w0 wr := PP.b0 HO.out HQ.out.2.2.2.2.1 ⟨hlo1, hlo2, hlo3, hlo4, hlo5⟩
            have D2r := ((HQ.out.2.2.1.below b0r (Nat.le_refl _)).c i him).2.2
            rw [HN.out, HEA.out] at D2r
            have hro := PP.F.ro
            rw [← hyr, hyn, hyx] at hro
            obtain ⟨pr, cr, hr⟩ := own_shape hro
            subst hr
            have hwr : w.heap.size < wr.heap.size := by omega
            by_cases htn : t < n
            · have t0 : (0 : Int) ≤ t := by omega
              have t1 : (t : Int) < (n : Int) := by omega
              obtain ⟨g, rfl, a0, a1, a2, a3⟩ : ∃ g, pa = some ⟨g, 0, none⟩ ∧ wr.cell? ⟨g, t * 4, none⟩ = some (.int .u8 1) ∧ wr.cell? ⟨g, t * 4 + 1, none⟩ = some (.int .i64 0) ∧ wr.cell? ⟨g, t * 4 + 2, none⟩ = some (.int .i64 (fv i t : Int)) ∧ wr.cell? ⟨g, t * 4 + 3, none⟩ = some (.string ByteArray.empty) := by
                obtain ⟨p, c, e, _, h⟩ := D2r
                simp only [Value.slice.injEq] at e
                obtain ⟨rfl, _, rfl⟩ := e
                rcases h with h | ⟨g, e, h⟩
                · omega
                · exact ⟨g, e, h t htn⟩
              obtain ⟨hs1, hs2, hs3⟩ := hstep t htn
              obtain ⟨vx, HVX⟩ : ∃ vx, Hid (fv i t = vx) := ⟨_, hideIt rfl⟩
              rw [HVX.out] at a2 hs1 hs2
              have bT := one_alloc wr (.cells #[.int .u8 1, .int .i64 0, .int .i64 (vx : Int), .string ByteArray.empty] 26)
              have hsT : (wr.alloc (.cells #[.int .u8 1, .int .i64 0, .int .i64 (vx : Int), .string ByteArray.empty] 26)).heap.size = wr.heap.size + 1 := by simp
              have PT := (PP.below bT hwr).below (below_dr (Below.refl _ _)) (by omega)
              have hint := intern_any (w := World.drew (wr.alloc (.cells #[.int .u8 1, .int .i64 0, .int .i64 (vx : Int), .string ByteArray.empty] 26))) PT.F.sy (by rw [PT.k]; exact hs1) (by rw [PT.k]; omega)
              rw [PT.k] at hint
              unfold tInt at hint
              have HST := hideIt hs2
              have HPD := hideIt PT
              have cb0 := (PP.below bT hwr).F.cb
              have he4 : updV c' 16 (.int .i64 (y.nt : Int)) 4 = .pointer (some ⟨SB, 0, none⟩) := (updV_other _ _ (by omega)).trans ((HC'.out.1 4 (by omega)).trans HCC.out.2.1)
              have e4 := (PP.below bT hwr).F.e.get he4 (by omega)
              have HE4 := hideIt he4
              have hwd : w.heap.size < (World.drew (wr.alloc (.cells #[.int .u8 1, .int .i64 0, .int .i64 (vx : Int), .string ByteArray.empty] 26))).heap.size := by show w.heap.size < (wr.alloc (.cells #[.int .u8 1, .int .i64 0, .int .i64 (vx : Int), .string ByteArray.empty] 26)).heap.size; omega
              have HPS := hideIt (show ¬ fpS SB mi y.vals wr.heap.size from fun z => by have := PP.F.flt 3 _ (by omega) z; omega)
              have HP13S := hideIt (show ¬ fpS SB mi y.vals p13 from hp13f 3 (by omega) (by omega))
              have hP15 : wr.heap.size < (wr.alloc (.cells #[.int .u8 1, .int .i64 0, .int .i64 (vx : Int), .string ByteArray.empty] 26)).heap.size := by omega
              have hp13d' : p13 < (wr.alloc (.cells #[.int .u8 1, .int .i64 0, .int .i64 (vx : Int), .string ByteArray.empty] 26)).heap.size := by omega
              have HRB := hideIt (show y.row.ownBlock = (Value.slice pr t cr).ownBlock by rw [hyr])
              have HPR := hideIt (show some wr.heap.size ≠ (Value.slice pr t cr).ownBlock from fun e => by have := (hro.lt _ e.symm).2; omega)
              have HRW := hideIt (show ∀ wx : World, wx.ownsRow 0 109 1 y.row y.rn y.rx → wx.ownsRow 0 109 1 (.slice pr t cr) t (symL (fv i) t) from fun wx h => by rw [← hyr, hyn, hyx] at h; exact h)
              have hp13T : p13 ≠ wr.heap.size := by omega
              have HJ := hideIt (And.intro PP (And.intro bT (And.intro q0 (And.intro hp13f (And.intro hsT hs2)))))
              have HYY := hideIt (And.intro hyr (And.intro hyn hyx))
              clear P0 D2 hnm hnn hsP hstep hval bP D2r hro PP bT hsT PT q0 hp13f b0r hs1 hs2 hs3 he4 hyr hyn hyx
              go_upto_region 26 with fail
              have t0 : (wr.alloc (.cells #[.int .u8 1, .int .i64 0, .int .i64 (vx : Int), .string ByteArray.empty] 26)).cell? ⟨wr.heap.size, 0, none⟩ = some (.int .u8 1) := by simp
              have t1 : (wr.alloc (.cells #[.int .u8 1, .int .i64 0, .int .i64 (vx : Int), .string ByteArray.empty] 26)).cell? ⟨wr.heap.size, 1, none⟩ = some (.int .i64 0) := by simp
              have t2 : (wr.alloc (.cells #[.int .u8 1, .int .i64 0, .int .i64 (vx : Int), .string ByteArray.empty] 26)).cell? ⟨wr.heap.size, 2, none⟩ = some (.int .i64 (vx : Int)) := by simp
              have t3 : (wr.alloc (.cells #[.int .u8 1, .int .i64 0, .int .i64 (vx : Int), .string ByteArray.empty] 26)).cell? ⟨wr.heap.size, 3, none⟩ = some (.string ByteArray.empty) := by simp
              clear a0 a1 a2 a3
              generalize wr.alloc (.cells #[.int .u8 1, .int .i64 0, .int .i64 (vx : Int), .string ByteArray.empty] 26) = wd at *
              generalize hp15 : wr.heap.size = p15 at *
              refine wp_region_held_drew (S := (fun w' => w'.cell? ⟨CB, 0, none⟩ = some (.pointer (some ⟨E, 0, none⟩)) ∧ w'.cell? ⟨E, 4, none⟩ = some (.pointer (some ⟨SB, 0, none⟩)) ∧ w'.cell? ⟨p15, 0, none⟩ = some (.int .u8 1) ∧ w'.cell? ⟨p15, 1, none⟩ = some (.int .i64 0) ∧ w'.cell? ⟨p15, 2, none⟩ = some (.int .i64 (vx : Int)) ∧ w'.cell? ⟨p15, 3, none⟩ = some (.string ByteArray.empty))) (by kernel_rfl) ⟨cb0, e4, t0, t1, t2, t3⟩ (fun hHeld => ?_)
              refine wpAnyH_take (i := 0) (oi := { dst := some 102, op := Go.Op.move (Go.Operand.tmp 11), type := 83, pos := _, after := #[], guard := none }) (v := ?vv17011) rfl (by kernel_rfl) (by kernel_rfl) (by kernel_rfl) (fun _ _ _ h => h) (Or.inl ⟨by rfl, ?hy17011⟩) (by assumption) ?tk17011
              case hy17011 => (intro w hSw; (try dsimp only at hSw); go_simp; (try with_reducible rfl))
              try simp only [Act.put, List.setIfInBounds_toArray, List.set_cons_zero, List.set_cons_succ]
              refine wpAnyH_take (i := 1) (oi := { dst := some 103, op := Go.Op.move (Go.Operand.tmp 0), type := 87, pos := _, after := #[], guard := none }) (v := ?vv17012) rfl (by kernel_rfl) (by kernel_rfl) (by kernel_rfl) (fun _ _ _ h => h) (Or.inl ⟨by rfl, ?hy17012⟩) (by assumption) ?tk17012
              case hy17012 => (intro w hSw; (try dsimp only at hSw); go_simp; (try with_reducible rfl))
              try simp only [Act.put, List.setIfInBounds_toArray, List.set_cons_zero, List.set_cons_succ]
              refine wpAnyH_take (i := 2) (oi := { dst := some 104, op := Go.Op.nilCheck (Go.Operand.tmp 103), type := 0, pos := _, after := #[{ on := 1, ground := Go.Ground.data }], guard := none }) (v := ?vv17013) rfl (by kernel_rfl) (by kernel_rfl) (by kernel_rfl) (fun _ _ _ h => h) (Or.inl ⟨by rfl, ?hy17013⟩) (by assumption) ?tk17013
              case hy17013 => (intro w hSw; (try dsimp only at hSw); go_simp; (try with_reducible rfl))
              try simp only [Act.put, List.setIfInBounds_toArray, List.set_cons_zero, List.set_cons_succ]
              refine wpAnyH_take (i := 3) (oi := { dst := some 105, op := Go.Op.fieldAddr 90 (Go.Operand.tmp 104) 0, type := 0, pos := _, after := #[{ on := 2, ground := Go.Ground.data }], guard := none }) (v := ?vv17014) rfl (by kernel_rfl) (by kernel_rfl) (by kernel_rfl) (fun _ _ _ h => h) (Or.inl ⟨by rfl, ?hy17014⟩) (by assumption) ?tk17014
              case hy17014 => (intro w hSw; (try dsimp only at hSw); go_simp; (try with_reducible rfl))
              try simp only [Act.put, List.setIfInBounds_toArray, List.set_cons_zero, List.set_cons_succ]
              refine wpAnyH_take (i := 4) (oi := { dst := some 106, op := Go.Op.load 58 (Go.Operand.tmp 105), type := 58, pos := _, after := #[{ on := 3, ground := Go.Ground.data }], guard := none }) (v := ?vv17015) rfl (by kernel_rfl) (by kernel_rfl) (by kernel_rfl) (fun _ _ _ h => h) (Or.inl ⟨by rfl, ?hy17015⟩) (by assumption) ?tk17015
              case hy17015 => (intro w hSw; (try dsimp only at hSw); go_simp; (try with_reducible rfl))
              try simp only [Act.put, List.setIfInBounds_toArray, List.set_cons_zero, List.set_cons_succ]
              refine wpAnyH_take (i := 5) (oi := { dst := some 107, op := Go.Op.nilCheck (Go.Operand.tmp 106), type := 0, pos := _, after := #[{ on := 4, ground := Go.Ground.data }], guard := none }) (v := ?vv17016) rfl (by kernel_rfl) (by kernel_rfl) (by kernel_rfl) (fun _ _ _ h => h) (Or.inl ⟨by rfl, ?hy17016⟩) (by assumption) ?tk17016
              case hy17016 => (intro w hSw; (try dsimp only at hSw); go_simp; (try with_reducible rfl))
              try simp only [Act.put, List.setIfInBounds_toArray, List.set_cons_zero, List.set_cons_succ]
              refine wpAnyH_take (i := 6) (oi := { dst := some 108, op := Go.Op.fieldAddr 86 (Go.Operand.tmp 107) 1, type := 0, pos := _, after := #[{ on := 5, ground := Go.Ground.data }], guard := none }) (v := ?vv17017) rfl (by kernel_rfl) (by kernel_rfl) (by kernel_rfl) (fun _ _ _ h => h) (Or.inl ⟨by rfl, ?hy17017⟩) (by assumption) ?tk17017
              case hy17017 => (intro w hSw; (try dsimp only at hSw); go_simp; (try with_reducible rfl))
              try simp only [Act.put, List.setIfInBounds_toArray, List.set_cons_zero, List.set_cons_succ]
              refine wpAnyH_take (i := 7) (oi := { dst := some 109, op := Go.Op.load 73 (Go.Operand.tmp 108), type := 73, pos := _, after := #[{ on := 6, ground := Go.Ground.data }], guard := none }) (v := ?vv17018) rfl (by kernel_rfl) (by kernel_rfl) (by kernel_rfl) (fun _ _ _ h => h) (Or.inl ⟨by rfl, ?hy17018⟩) (by assumption) ?tk17018
              case hy17018 => (intro w hSw; (try dsimp only at hSw); go_simp; (try with_reducible rfl))
              try simp only [Act.put, List.setIfInBounds_toArray, List.set_cons_zero, List.set_cons_succ]
              refine wpAnyH_take (i := 8) (oi := { dst := some 110, op := Go.Op.load 26 (Go.Operand.tmp 15), type := 26, pos := _, after := #[], guard := none }) (v := ?vv17019) rfl (by kernel_rfl) (by kernel_rfl) (by kernel_rfl) (fun _ _ _ h => h) (Or.inl ⟨by rfl, ?hy17019⟩) (by assumption) ?tk17019
              case hy17019 => (intro w hSw; (try dsimp only at hSw); go_simp; (try with_reducible rfl))
              try simp only [Act.put, List.setIfInBounds_toArray, List.set_cons_zero, List.set_cons_succ]
              refine wpAnyH_ready (rs := [9]) (by kernel_rfl) (by simp) ?_
              refine AllReadyH.cons (o := { dst := some 111, op := Go.Op.call { callee := Go.Callee.value (Go.Operand.func 32), args := #[Go.Operand.tmp 109, Go.Operand.tmp 110], argTypes := #[73, 26] }, type := 109, pos := _, after := #[{ on := 7, ground := Go.Ground.data }, { on := 8, ground := Go.Ground.data }], guard := none }) rfl (fun K' hK' => ?_) AllReadyH.nil
              go_simp
              go_at_call 32
              refine hint.mono ?_
              rintro e w5 ⟨rfl, ⟨vals5, HS5, hv5⟩, W5⟩
              have Q5 := HPD.out.sym HO.out hwd HS5 hv5 W5
              rw [HST.out] at Q5
              have eP : w5.heap[p15]? = wd.heap[p15]? := W5.block p15 hP15 HPS.out
              have f0 := Q5.F.cb
              have f1 := Q5.F.e.get HE4.out (by omega)
              have f2 := (World.cell?_of_block (a := ⟨p15, 0, none⟩) eP).trans t0
              have f3 := (World.cell?_of_block (a := ⟨p15, 1, none⟩) eP).trans t1
              have f4 := (World.cell?_of_block (a := ⟨p15, 2, none⟩) eP).trans t2
              have f5 := (World.cell?_of_block (a := ⟨p15, 3, none⟩) eP).trans t3
              have hro5 : w5.ownsRow 0 109 1 (.slice pr t cr) t (symL (fv i) t) := HRW.out _ Q5.F.ro
              have hn13 := (W5.block p13 hp13d' HP13S.out)
              have hsz5 : wd.heap.size ≤ w5.heap.size := W5.size
              have hCr : some CB ≠ (Value.slice pr t cr).ownBlock := fun e => by have := Q5.F.dj 4 2 CB (by omega) (by omega) (HRB.out.trans e.symm) rfl; omega
              have hEr : some E ≠ (Value.slice pr t cr).ownBlock := fun e => by have := Q5.F.dj 4 0 E (by omega) (by omega) (HRB.out.trans e.symm) rfl; omega
              have hPr : some p15 ≠ (Value.slice pr t cr).ownBlock := HPR.out
              have HX5 := hideIt (And.intro Q5 (And.intro hro5 (And.intro hn13 hv5)))
              have HO5 := hideIt hro5
              clear hro5 Q5 W5 HS5 hv5 eP hint hn13
              clear hHeld
              refine hK'.out _ _ ⟨f0, f1, f2, f3, f4, f5⟩ (fun hHeld => ?_)
              clear hK' K'
              try simp only [Act.put, List.setIfInBounds_toArray, List.set_cons_zero, List.set_cons_succ]
              refine wpAnyH_ready (rs := [10]) (by kernel_rfl) (by simp) ?_
              refine AllReadyH.cons (o := { dst := some 112, op := Go.Op.buildSlice 83 1 #[(0, Go.Operand.tmp 111)], type := 83, pos := _, after := #[{ on := 9, ground := Go.Ground.data }], guard := none }) rfl (fun K' hK' => ?_) AllReadyH.nil
              go_simp
              clear hHeld
              refine hK'.out _ _ ⟨cell_later (one_alloc _ _) f0, cell_later (one_alloc _ _) f1, cell_later (one_alloc _ _) f2, cell_later (one_alloc _ _) f3, cell_later (one_alloc _ _) f4, cell_later (one_alloc _ _) f5⟩ (fun hHeld => ?_)
              clear hK' K'
              try simp only [Act.put, List.setIfInBounds_toArray, List.set_cons_zero, List.set_cons_succ]
              refine wpAnyH_ready (rs := [11]) (by kernel_rfl) (by simp) ?_
              refine AllReadyH.cons (o := { dst := some 113, op := Go.Op.call { callee := Go.Callee.builtin Go.Builtin.append, args := #[Go.Operand.tmp 102, Go.Operand.tmp 112], argTypes := #[83, 83] }, type := 83, pos := _, after := #[{ on := 0, ground := Go.Ground.data }, { on := 10, ground := Go.Ground.data }, { on := 9, ground := Go.Ground.chain }], guard := none }) rfl (fun K' hK' => ?_) AllReadyH.nil
              refine ite_take (by rfl) ?_
              refine wp_append_own_at (.tmp 102) (.tmp 112) 83 rfl 0 109 i9 (.int .u32 0) 1 4 Tryz.underlying83 hi9 hx0 hx1 hx2 rfl (by decide) (.slice pr t cr) t (symL (fv i) t) rfl (HO5.out.alloc _) ⟨w5.heap.size, 0, none⟩ 1 1 [.int .u32 (vx : Int)] rfl rfl (cell_new1 _ _ _) (by simp [Value.oneCell']) (by unfold maxLen; omega) (by omega) (Nat.zero_le _) ?_
              intro v' w6 hown' hgrow hblk
              obtain ⟨p', c'', rfl⟩ := own_shape hown'
              have h0 := hgrow.cell (a := ⟨CB, 0, none⟩) (hHeld.1) hCr
              have h1 := hgrow.cell (a := ⟨E, 4, none⟩) (hHeld.2.1) hEr
              have h2 := hgrow.cell (a := ⟨p15, 0, none⟩) (hHeld.2.2.1) hPr
              have h3 := hgrow.cell (a := ⟨p15, 1, none⟩) (hHeld.2.2.2.1) hPr
              have h4 := hgrow.cell (a := ⟨p15, 2, none⟩) (hHeld.2.2.2.2.1) hPr
              have h5 := hgrow.cell (a := ⟨p15, 3, none⟩) (hHeld.2.2.2.2.2) hPr
              have HG := hideIt (And.intro hown' (And.intro hgrow hblk))
              clear hown' hgrow hblk
              clear hHeld
              refine hK'.out _ _ ⟨h0, h1, h2, h3, h4, h5⟩ (fun hHeld => ?_)
              clear hK' K'
              try simp only [Act.put, List.setIfInBounds_toArray, List.set_cons_zero, List.set_cons_succ]
              refine wpAnyH_take (i := 12) (oi := { dst := some 11, op := Go.Op.assign (Go.Operand.tmp 113), type := 83, pos := _, after := #[{ on := 11, ground := Go.Ground.data }, { on := 11, ground := Go.Ground.chain }, { on := 0, ground := Go.Ground.phase }, { on := 1, ground := Go.Ground.phase }, { on := 2, ground := Go.Ground.phase }, { on := 3, ground := Go.Ground.phase }, { on := 4, ground := Go.Ground.phase }, { on := 5, ground := Go.Ground.phase }, { on := 6, ground := Go.Ground.phase }, { on := 7, ground := Go.Ground.phase }, { on := 8, ground := Go.Ground.phase }, { on := 9, ground := Go.Ground.phase }, { on := 10, ground := Go.Ground.phase }, { on := 11, ground := Go.Ground.phase }], guard := none }) (v := ?vv17020) rfl (by kernel_rfl) (by kernel_rfl) (by kernel_rfl) (fun _ _ _ h => h) (Or.inl ⟨by rfl, ?hy17020⟩) (by assumption) ?tk17020
              case hy17020 => (intro w hSw; (try dsimp only at hSw); go_simp; (try with_reducible rfl))
              try simp only [Act.put, List.setIfInBounds_toArray, List.set_cons_zero, List.set_cons_succ]
              refine wpAnyH_done (by kernel_rfl) ?_ _
              go_wp2
              go_roundg (n - (t + 1))
              case measure => omega
              case rel =>
                obtain ⟨PP, bT, q0, hp13f, hsT, hs2⟩ := HJ.out
                obtain ⟨Q5, hro5, hn13, hv5⟩ := HX5.out
                obtain ⟨own6, hgrow, hblk⟩ := HG.out
                obtain ⟨hyr, hyn, hyx⟩ := HYY.out
                rw [← hp15] at bT
                have bN := one_alloc w5 (.cells #[.int .u32 (vx : Int)] 109)
                have hsN : (w5.alloc (.cells #[.int .u32 (vx : Int)] 109)).heap.size = w5.heap.size + 1 := by simp
                have hwd5 : w.heap.size < w5.heap.size := Nat.lt_of_lt_of_le hwd hsz5
                have Q6 := Q5.below bN hwd5
                have hrb : y.row.ownBlock = (Value.slice pr t cr).ownBlock := HRB.out
                have W6 : Ws (fun q => y.row.ownBlock = some q) (w5.alloc (.cells #[.int .u32 (vx : Int)] 109)) w6 := (Ws.refl _ _).grow hgrow (fun q hq => .inl (hrb.trans hq))
                have Q7 := Q6.rowp HO.out (by omega) own6 (fun q hq => by
                  rcases hblk with z | z
                  · exact .inl ((hrb.trans z.symm).trans hq)
                  · exact .inr (by rw [z] at hq; have := Option.some.inj hq; omega)) W6
                have hp13w5 : p13 < w5.heap.size := Nat.lt_of_lt_of_le (show p13 < (World.drew wd).heap.size from hp13d') hsz5
                have h13b : w6.heap[p13]? = wr.heap[p13]? := (W6.block p13 (by omega) (hp13f 4 (by omega) (by omega))).trans ((bN.block p13 hp13w5).trans (hn13.trans (bT.block p13 (by omega))))
                have hlr : wr.heap.size ≤ w5.heap.size := by have : (World.drew wd).heap.size = wd.heap.size := rfl; omega
                refine ⟨t + 1, by omega, by go_num, _, rfl, rfl, ?_, Q7, (World.cell?_of_block (a := ⟨p13, 0, none⟩) h13b).trans q0, fun k k0 k1 hq => ?_, ?_⟩
                · show symL (fv i) t ++ [.int .u32 (vx : Int)] = symL (fv i) (t + 1)
                  unfold symL
                  rw [List.range_succ, List.map_append, ← HVX.out]
                  rfl
                · match k, k0, hq with
                  | 3, _, hq =>
                    rcases hq with z | z | z
                    · exact hp13f 3 (by omega) (by omega) (.inl z)
                    · exact hp13f 3 (by omega) (by omega) (.inr (.inl z))
                    · rcases hv5 p13 z with y2 | y2
                      · exact hp13f 3 (by omega) (by omega) (.inr (.inr y2))
                      · have : (World.drew wd).heap.size = wd.heap.size := rfl
                        omega
                  | 4, _, hq =>
                    have hq : (Value.slice p' (t + 1) c'').ownBlock = some p13 := hq
                    rcases hblk with z | z
                    · exact hp13f 4 (by omega) (by omega) ((hrb.trans z.symm).trans hq)
                    · rw [z] at hq
                      have := Option.some.inj hq
                      omega
                  | 5, _, hq => exact hp13f 5 (by omega) (by omega) hq
                  | k + 6, _, hq => exact hp13f (k + 6) (by omega) k1 hq
                · have := hgrow.size
                  omega
            · have htn' : t = n := by omega
              subst htn'
              have hj4 := (fk i).isLt
              obtain ⟨j, hjj⟩ : ∃ j, (fk i).val = j := ⟨_, rfl⟩
              rw [hjj] at hj4 hnn
              have hfk : fk i = kf j := by rw [← hjj, kf_val]
              have hR := PP.F.re j hj4
              have hA : (y.s j).A = t := (PP.F.A j hj4).trans hnn.symm
              have hSR : SymR (World.drew wr) (.slice pr t cr) (y.s j).A (fv i) := by rw [hA]; exact (SymR.of_own hro).below (below_dr (Below.refl _ _))
              have hyb : y.row.ownBlock = (Value.slice pr t cr).ownBlock := by rw [hyr]
              have hins := insert_any (w := World.drew wr) (hR.below (below_dr (Below.refl _ _))) hSR (fun c hc => hval c (by rw [hA] at hc; exact hc)) (fun q hq hz => by have := PP.F.dj 4 (j + 6) q (by omega) (by omega) (hyb.trans hq) hz; omega) (by have := PP.rw' j hj4; omega) (-1)
              have hlk : ∀ w', w'.heap[nb]? = wr.heap[nb]? → (Instr.lookup 75 (.map (some nb)) (.string nm) false).run Tryz.prog w' = .ok (.pointer (some ⟨rb' j, 0, none⟩)) w' := fun w' e => by
                have := (PP.F.m.blk e).look1 (fk i)
                rw [fnK_four, hnm, hjj] at this
                exact this
              have cb0 := PP.F.cb
              have he6 : updV c' 16 (.int .i64 (y.nt : Int)) 6 = .map (some nb) := (updV_other _ _ (by omega)).trans ((HC'.out.1 6 (by omega)).trans HCC.out.2.2.1)
              have e6 := PP.F.e.get he6 (by omega)
              have hnbd : nb < wr.heap.size := PP.F.m.lt
              have HPD := hideIt (PP.below (below_dr (Below.refl _ _)) hwr)
              have HFK := hideIt hfk
              have HE6 := hideIt he6
              have HP13S := hideIt (show ¬ fpR (rb' j) (y.s j) p13 from hp13f (j + 6) (by omega) (by omega))
              have HNBS := hideIt (show ¬ fpR (rb' j) (y.s j) nb from fun z => by have := PP.F.dj 1 (j + 6) nb (by omega) (by omega) rfl z; omega)
              have HKI := hideIt (show kI i t = min (i + 1) 64 from if_neg (by omega))
              have HYR := hideIt (And.intro hyr PP.nt)
              clear P0 D2 hnm hnn hsP hstep hval bP D2r hro PP hp13f b0r hR hA hSR hyb he6 hfk hyr hyn hyx hjj
              go_upto_region 28 with fail
              refine wp_region_held_drew (S := (fun w' => w'.cell? ⟨CB, 0, none⟩ = some (.pointer (some ⟨E, 0, none⟩)) ∧ w'.cell? ⟨E, 6, none⟩ = some (.map (some nb)) ∧ w'.cell? ⟨p13, 0, none⟩ = some (.string nm) ∧ w'.heap[nb]? = wr.heap[nb]?)) (by kernel_rfl) ⟨cb0, e6, q0, rfl⟩ (fun hHeld => ?_)
              refine wpAnyH_take (i := 0) (oi := { dst := some 115, op := Go.Op.move (Go.Operand.tmp 0), type := 87, pos := _, after := #[], guard := none }) (v := ?vv17021) rfl (by kernel_rfl) (by kernel_rfl) (by kernel_rfl) (fun _ _ _ h => h) (Or.inl ⟨by rfl, ?hy17021⟩) (by assumption) ?tk17021
              case hy17021 => (intro w hSw; (try dsimp only at hSw); go_simp; (try with_reducible rfl))
              try simp only [Act.put, List.setIfInBounds_toArray, List.set_cons_zero, List.set_cons_succ]
              refine wpAnyH_take (i := 1) (oi := { dst := some 116, op := Go.Op.nilCheck (Go.Operand.tmp 115), type := 0, pos := _, after := #[{ on := 0, ground := Go.Ground.data }], guard := none }) (v := ?vv17022) rfl (by kernel_rfl) (by kernel_rfl) (by kernel_rfl) (fun _ _ _ h => h) (Or.inl ⟨by rfl, ?hy17022⟩) (by assumption) ?tk17022
              case hy17022 => (intro w hSw; (try dsimp only at hSw); go_simp; (try with_reducible rfl))
              try simp only [Act.put, List.setIfInBounds_toArray, List.set_cons_zero, List.set_cons_succ]
              refine wpAnyH_take (i := 2) (oi := { dst := some 117, op := Go.Op.fieldAddr 90 (Go.Operand.tmp 116) 0, type := 0, pos := _, after := #[{ on := 1, ground := Go.Ground.data }], guard := none }) (v := ?vv17023) rfl (by kernel_rfl) (by kernel_rfl) (by kernel_rfl) (fun _ _ _ h => h) (Or.inl ⟨by rfl, ?hy17023⟩) (by assumption) ?tk17023
              case hy17023 => (intro w hSw; (try dsimp only at hSw); go_simp; (try with_reducible rfl))
              try simp only [Act.put, List.setIfInBounds_toArray, List.set_cons_zero, List.set_cons_succ]
              refine wpAnyH_take (i := 3) (oi := { dst := some 118, op := Go.Op.load 58 (Go.Operand.tmp 117), type := 58, pos := _, after := #[{ on := 2, ground := Go.Ground.data }], guard := none }) (v := ?vv17024) rfl (by kernel_rfl) (by kernel_rfl) (by kernel_rfl) (fun _ _ _ h => h) (Or.inl ⟨by rfl, ?hy17024⟩) (by assumption) ?tk17024
              case hy17024 => (intro w hSw; (try dsimp only at hSw); go_simp; (try with_reducible rfl))
              try simp only [Act.put, List.setIfInBounds_toArray, List.set_cons_zero, List.set_cons_succ]
              refine wpAnyH_take (i := 4) (oi := { dst := some 119, op := Go.Op.nilCheck (Go.Operand.tmp 118), type := 0, pos := _, after := #[{ on := 3, ground := Go.Ground.data }], guard := none }) (v := ?vv17025) rfl (by kernel_rfl) (by kernel_rfl) (by kernel_rfl) (fun _ _ _ h => h) (Or.inl ⟨by rfl, ?hy17025⟩) (by assumption) ?tk17025
              case hy17025 => (intro w hSw; (try dsimp only at hSw); go_simp; (try with_reducible rfl))
              try simp only [Act.put, List.setIfInBounds_toArray, List.set_cons_zero, List.set_cons_succ]
              refine wpAnyH_take (i := 5) (oi := { dst := some 120, op := Go.Op.fieldAddr 86 (Go.Operand.tmp 119) 3, type := 0, pos := _, after := #[{ on := 4, ground := Go.Ground.data }], guard := none }) (v := ?vv17026) rfl (by kernel_rfl) (by kernel_rfl) (by kernel_rfl) (fun _ _ _ h => h) (Or.inl ⟨by rfl, ?hy17026⟩) (by assumption) ?tk17026
              case hy17026 => (intro w hSw; (try dsimp only at hSw); go_simp; (try with_reducible rfl))
              try simp only [Act.put, List.setIfInBounds_toArray, List.set_cons_zero, List.set_cons_succ]
              refine wpAnyH_take (i := 6) (oi := { dst := some 121, op := Go.Op.load 75 (Go.Operand.tmp 120), type := 75, pos := _, after := #[{ on := 5, ground := Go.Ground.data }], guard := none }) (v := ?vv17027) rfl (by kernel_rfl) (by kernel_rfl) (by kernel_rfl) (fun _ _ _ h => h) (Or.inl ⟨by rfl, ?hy17027⟩) (by assumption) ?tk17027
              case hy17027 => (intro w hSw; (try dsimp only at hSw); go_simp; (try with_reducible rfl))
              try simp only [Act.put, List.setIfInBounds_toArray, List.set_cons_zero, List.set_cons_succ]
              refine wpAnyH_take (i := 7) (oi := { dst := some 122, op := Go.Op.fieldAddr 34 (Go.Operand.tmp 13) 0, type := 0, pos := _, after := #[], guard := none }) (v := ?vv17028) rfl (by kernel_rfl) (by kernel_rfl) (by kernel_rfl) (fun _ _ _ h => h) (Or.inl ⟨by rfl, ?hy17028⟩) (by assumption) ?tk17028
              case hy17028 => (intro w hSw; (try dsimp only at hSw); go_simp; (try with_reducible rfl))
              try simp only [Act.put, List.setIfInBounds_toArray, List.set_cons_zero, List.set_cons_succ]
              refine wpAnyH_take (i := 8) (oi := { dst := some 123, op := Go.Op.load 9 (Go.Operand.tmp 122), type := 9, pos := _, after := #[{ on := 7, ground := Go.Ground.data }], guard := none }) (v := ?vv17029) rfl (by kernel_rfl) (by kernel_rfl) (by kernel_rfl) (fun _ _ _ h => h) (Or.inl ⟨by rfl, ?hy17029⟩) (by assumption) ?tk17029
              case hy17029 => (intro w hSw; (try dsimp only at hSw); go_simp; (try with_reducible rfl))
              try simp only [Act.put, List.setIfInBounds_toArray, List.set_cons_zero, List.set_cons_succ]
              refine wpAnyH_take (i := 9) (oi := { dst := some 124, op := Go.Op.lookup 75 (Go.Operand.tmp 121) (Go.Operand.tmp 123) false, type := 99, pos := _, after := #[{ on := 6, ground := Go.Ground.data }, { on := 8, ground := Go.Ground.data }], guard := none }) (v := ?vv17030) rfl (by kernel_rfl) (by kernel_rfl) (by kernel_rfl) (fun _ _ _ h => h) (Or.inl ⟨by rfl, ?hy17030⟩) (by assumption) ?tk17030
              case hy17030 => (intro w hSw; have hl7 := hlk w hSw.2.2.2; (try dsimp only at hSw); go_simp; (try with_reducible rfl))
              try simp only [Act.put, List.setIfInBounds_toArray, List.set_cons_zero, List.set_cons_succ]
              refine wpAnyH_take (i := 10) (oi := { dst := some 125, op := Go.Op.move (Go.Operand.tmp 11), type := 83, pos := _, after := #[], guard := none }) (v := ?vv17031) rfl (by kernel_rfl) (by kernel_rfl) (by kernel_rfl) (fun _ _ _ h => h) (Or.inl ⟨by rfl, ?hy17031⟩) (by assumption) ?tk17031
              case hy17031 => (intro w hSw; (try dsimp only at hSw); go_simp; (try with_reducible rfl))
              try simp only [Act.put, List.setIfInBounds_toArray, List.set_cons_zero, List.set_cons_succ]
              refine wpAnyH_ready (rs := [11]) (by kernel_rfl) (by simp) ?_
              refine AllReadyH.cons (o := { dst := some 126, op := Go.Op.call { callee := Go.Callee.value (Go.Operand.func 33), args := #[Go.Operand.tmp 124, Go.Operand.tmp 125, Go.Operand.const (Go.Value.int Go.IntKind.i32 (-1))], argTypes := #[99, 83, 21] }, type := 4, pos := _, after := #[{ on := 9, ground := Go.Ground.data }, { on := 10, ground := Go.Ground.data }], guard := none }) rfl (fun K' hK' => ?_) AllReadyH.nil
              go_simp
              go_at_call 33
              refine hins.mono ?_
              rintro e w5 ⟨s5, d5, N5, f5, b5, rfl, R5, I5, W5, hv5⟩
              have Q5 := HPD.out.ins HO.out hwr hj4 HFK.out R5 I5 hv5 W5
              have f0 := Q5.F.cb
              have f1 := Q5.F.e.get HE6.out (by omega)
              have eP : w5.heap[p13]? = wr.heap[p13]? := W5.block p13 hp13d HP13S.out
              have f2 := (World.cell?_of_block (a := ⟨p13, 0, none⟩) eP).trans q0
              have eN : w5.heap[nb]? = wr.heap[nb]? := W5.block nb hnbd HNBS.out
              have HX5 := hideIt Q5
              have HW5 := hideIt (show wr.heap.size ≤ w5.heap.size from W5.size)
              clear Q5 R5 I5 W5 hv5 eP hins
              clear hHeld
              refine hK'.out _ _ ⟨f0, f1, f2, eN⟩ (fun hHeld => ?_)
              clear hK' K'
              try simp only [Act.put, List.setIfInBounds_toArray, List.set_cons_zero, List.set_cons_succ]
              refine wpAnyH_take (i := 12) (oi := { dst := some 127, op := Go.Op.unOp Go.UnOp.not 4 (Go.Operand.tmp 126), type := 4, pos := _, after := #[{ on := 11, ground := Go.Ground.data }], guard := none }) (v := ?vv17032) rfl (by kernel_rfl) (by kernel_rfl) (by kernel_rfl) (fun _ _ _ h => h) (Or.inl ⟨by rfl, ?hy17032⟩) (by assumption) ?tk17032
              case hy17032 => (intro w hSw; (try dsimp only at hSw); go_simp; (try with_reducible rfl))
              try simp only [Act.put, List.setIfInBounds_toArray, List.set_cons_zero, List.set_cons_succ]
              refine wpAnyH_done (by kernel_rfl) ?_ _
              clear hHeld e6 cb0 q0 hlk f1 f2 eN
              have hwr5 : w.heap.size < w5.heap.size := Nat.lt_of_lt_of_le hwr HW5.out
              rcases b5 with _ | _
              · go_wp2
                go_roundg (nF - (i + 1))
                case measure => omega
                case rel =>
                  have Q5 := HX5.out
                  rw [HKI.out] at Q5
                  exact ⟨i + 1, by omega, by go_num, { y with s := updS y.s j s5, d := updD y.d j d5, N := updN y.N j N5, f := updD y.f j f5 }, HYR.out.1, Q5, hwr5⟩
              · obtain ⟨nt, hnt⟩ : ∃ nt, y.nt = nt := ⟨_, rfl⟩
                have hnti := HYR.out.2
                rw [hnt] at hnti
                have g16 : w5.cell? ⟨E, 16, none⟩ = some (.int .i64 (nt : Int)) := by
                  rw [← hnt]
                  exact HX5.out.F.e.get (updV_same _ _ _) (by omega)
                have fzE := HX5.out.F.e.fz
                have QT := HX5.out.tup HO.out (nt + 1) (by omega)
                have g0 := QT.F.cb
                have g16' : (w5.setCell ⟨E, 16, none⟩ (.int .i64 ((nt + 1 : Nat) : Int))).cell? ⟨E, 16, none⟩ = some (.int .i64 ((nt : Int) + 1)) := QT.F.e.get (updV_same _ _ _) (by omega)
                have gB' : (w5.setCell ⟨E, 16, none⟩ (.int .i64 ((nt + 1 : Nat) : Int))).cell? ⟨E, 0, none⟩ = some (.int .i64 4096) := QT.F.e.get ((updV_other _ _ (by omega)).trans ((HC'.out.1 0 (by omega)).trans HCC.out.1)) (by omega)
                have hw6 : w.heap.size < (w5.setCell ⟨E, 16, none⟩ (.int .i64 ((nt + 1 : Nat) : Int))).heap.size := by simpa using hwr5
                have HQT := hideIt QT
                have HNT := hideIt hnt
                clear QT hnt HX5
                go_upto_region 30 with fail
                have ec : ((nt + 1 : Nat) : Int) = (nt : Int) + 1 := rfl
                rw [ec] at g0 g16' gB' HQT hw6
                clear g16 fzE
                generalize w5.setCell ⟨E, 16, none⟩ (.int .i64 ((nt : Int) + 1)) = w6 at *
                refine wp_region_held_drew (S := (fun w' => w'.cell? ⟨CB, 0, none⟩ = some (.pointer (some ⟨E, 0, none⟩)) ∧ w'.cell? ⟨E, 16, none⟩ = some (.int .i64 ((nt : Int) + 1)) ∧ w'.cell? ⟨E, 0, none⟩ = some (.int .i64 4096))) (by kernel_rfl) ⟨g0, g16', gB'⟩ (fun hHeld => ?_)
                refine wpAnyH_take (i := 0) (oi := { dst := some 140, op := Go.Op.move (Go.Operand.tmp 0), type := 87, pos := _, after := #[], guard := none }) (v := ?vv17033) rfl (by kernel_rfl) (by kernel_rfl) (by kernel_rfl) (fun _ _ _ h => h) (Or.inl ⟨by rfl, ?hy17033⟩) (by assumption) ?tk17033
                case hy17033 => (intro w hSw; (try dsimp only at hSw); go_simp; (try with_reducible rfl))
                try simp only [Act.put, List.setIfInBounds_toArray, List.set_cons_zero, List.set_cons_succ]
                refine wpAnyH_take (i := 1) (oi := { dst := some 141, op := Go.Op.nilCheck (Go.Operand.tmp 140), type := 0, pos := _, after := #[{ on := 0, ground := Go.Ground.data }], guard := none }) (v := ?vv17034) rfl (by kernel_rfl) (by kernel_rfl) (by kernel_rfl) (fun _ _ _ h => h) (Or.inl ⟨by rfl, ?hy17034⟩) (by assumption) ?tk17034
                case hy17034 => (intro w hSw; (try dsimp only at hSw); go_simp; (try with_reducible rfl))
                try simp only [Act.put, List.setIfInBounds_toArray, List.set_cons_zero, List.set_cons_succ]
                refine wpAnyH_take (i := 2) (oi := { dst := some 142, op := Go.Op.fieldAddr 90 (Go.Operand.tmp 141) 0, type := 0, pos := _, after := #[{ on := 1, ground := Go.Ground.data }], guard := none }) (v := ?vv17035) rfl (by kernel_rfl) (by kernel_rfl) (by kernel_rfl) (fun _ _ _ h => h) (Or.inl ⟨by rfl, ?hy17035⟩) (by assumption) ?tk17035
                case hy17035 => (intro w hSw; (try dsimp only at hSw); go_simp; (try with_reducible rfl))
                try simp only [Act.put, List.setIfInBounds_toArray, List.set_cons_zero, List.set_cons_succ]
                refine wpAnyH_take (i := 3) (oi := { dst := some 143, op := Go.Op.load 58 (Go.Operand.tmp 142), type := 58, pos := _, after := #[{ on := 2, ground := Go.Ground.data }], guard := none }) (v := ?vv17036) rfl (by kernel_rfl) (by kernel_rfl) (by kernel_rfl) (fun _ _ _ h => h) (Or.inl ⟨by rfl, ?hy17036⟩) (by assumption) ?tk17036
                case hy17036 => (intro w hSw; (try dsimp only at hSw); go_simp; (try with_reducible rfl))
                try simp only [Act.put, List.setIfInBounds_toArray, List.set_cons_zero, List.set_cons_succ]
                refine wpAnyH_take (i := 4) (oi := { dst := some 144, op := Go.Op.nilCheck (Go.Operand.tmp 143), type := 0, pos := _, after := #[{ on := 3, ground := Go.Ground.data }], guard := none }) (v := ?vv17037) rfl (by kernel_rfl) (by kernel_rfl) (by kernel_rfl) (fun _ _ _ h => h) (Or.inl ⟨by rfl, ?hy17037⟩) (by assumption) ?tk17037
                case hy17037 => (intro w hSw; (try dsimp only at hSw); go_simp; (try with_reducible rfl))
                try simp only [Act.put, List.setIfInBounds_toArray, List.set_cons_zero, List.set_cons_succ]
                refine wpAnyH_take (i := 5) (oi := { dst := some 145, op := Go.Op.fieldAddr 86 (Go.Operand.tmp 144) 10, type := 0, pos := _, after := #[{ on := 4, ground := Go.Ground.data }], guard := none }) (v := ?vv17038) rfl (by kernel_rfl) (by kernel_rfl) (by kernel_rfl) (fun _ _ _ h => h) (Or.inl ⟨by rfl, ?hy17038⟩) (by assumption) ?tk17038
                case hy17038 => (intro w hSw; (try dsimp only at hSw); go_simp; (try with_reducible rfl))
                try simp only [Act.put, List.setIfInBounds_toArray, List.set_cons_zero, List.set_cons_succ]
                refine wpAnyH_take (i := 6) (oi := { dst := some 146, op := Go.Op.fieldAddr 82 (Go.Operand.tmp 145) 1, type := 0, pos := _, after := #[{ on := 5, ground := Go.Ground.data }], guard := none }) (v := ?vv17039) rfl (by kernel_rfl) (by kernel_rfl) (by kernel_rfl) (fun _ _ _ h => h) (Or.inl ⟨by rfl, ?hy17039⟩) (by assumption) ?tk17039
                case hy17039 => (intro w hSw; (try dsimp only at hSw); go_simp; (try with_reducible rfl))
                try simp only [Act.put, List.setIfInBounds_toArray, List.set_cons_zero, List.set_cons_succ]
                refine wpAnyH_take (i := 7) (oi := { dst := some 147, op := Go.Op.load 3 (Go.Operand.tmp 146), type := 3, pos := _, after := #[{ on := 6, ground := Go.Ground.data }], guard := none }) (v := ?vv17040) rfl (by kernel_rfl) (by kernel_rfl) (by kernel_rfl) (fun _ _ _ h => h) (Or.inl ⟨by rfl, ?hy17040⟩) (by assumption) ?tk17040
                case hy17040 => (intro w hSw; (try dsimp only at hSw); go_simp; (try with_reducible rfl))
                try simp only [Act.put, List.setIfInBounds_toArray, List.set_cons_zero, List.set_cons_succ]
                refine wpAnyH_take (i := 8) (oi := { dst := some 148, op := Go.Op.move (Go.Operand.tmp 0), type := 87, pos := _, after := #[], guard := none }) (v := ?vv17041) rfl (by kernel_rfl) (by kernel_rfl) (by kernel_rfl) (fun _ _ _ h => h) (Or.inl ⟨by rfl, ?hy17041⟩) (by assumption) ?tk17041
                case hy17041 => (intro w hSw; (try dsimp only at hSw); go_simp; (try with_reducible rfl))
                try simp only [Act.put, List.setIfInBounds_toArray, List.set_cons_zero, List.set_cons_succ]
                refine wpAnyH_take (i := 9) (oi := { dst := some 149, op := Go.Op.nilCheck (Go.Operand.tmp 148), type := 0, pos := _, after := #[{ on := 8, ground := Go.Ground.data }], guard := none }) (v := ?vv17042) rfl (by kernel_rfl) (by kernel_rfl) (by kernel_rfl) (fun _ _ _ h => h) (Or.inl ⟨by rfl, ?hy17042⟩) (by assumption) ?tk17042
                case hy17042 => (intro w hSw; (try dsimp only at hSw); go_simp; (try with_reducible rfl))
                try simp only [Act.put, List.setIfInBounds_toArray, List.set_cons_zero, List.set_cons_succ]
                refine wpAnyH_take (i := 10) (oi := { dst := some 150, op := Go.Op.fieldAddr 90 (Go.Operand.tmp 149) 0, type := 0, pos := _, after := #[{ on := 9, ground := Go.Ground.data }], guard := none }) (v := ?vv17043) rfl (by kernel_rfl) (by kernel_rfl) (by kernel_rfl) (fun _ _ _ h => h) (Or.inl ⟨by rfl, ?hy17043⟩) (by assumption) ?tk17043
                case hy17043 => (intro w hSw; (try dsimp only at hSw); go_simp; (try with_reducible rfl))
                try simp only [Act.put, List.setIfInBounds_toArray, List.set_cons_zero, List.set_cons_succ]
                refine wpAnyH_take (i := 11) (oi := { dst := some 151, op := Go.Op.load 58 (Go.Operand.tmp 150), type := 58, pos := _, after := #[{ on := 10, ground := Go.Ground.data }], guard := none }) (v := ?vv17044) rfl (by kernel_rfl) (by kernel_rfl) (by kernel_rfl) (fun _ _ _ h => h) (Or.inl ⟨by rfl, ?hy17044⟩) (by assumption) ?tk17044
                case hy17044 => (intro w hSw; (try dsimp only at hSw); go_simp; (try with_reducible rfl))
                try simp only [Act.put, List.setIfInBounds_toArray, List.set_cons_zero, List.set_cons_succ]
                refine wpAnyH_take (i := 12) (oi := { dst := some 152, op := Go.Op.nilCheck (Go.Operand.tmp 151), type := 0, pos := _, after := #[{ on := 11, ground := Go.Ground.data }], guard := none }) (v := ?vv17045) rfl (by kernel_rfl) (by kernel_rfl) (by kernel_rfl) (fun _ _ _ h => h) (Or.inl ⟨by rfl, ?hy17045⟩) (by assumption) ?tk17045
                case hy17045 => (intro w hSw; (try dsimp only at hSw); go_simp; (try with_reducible rfl))
                try simp only [Act.put, List.setIfInBounds_toArray, List.set_cons_zero, List.set_cons_succ]
                refine wpAnyH_take (i := 13) (oi := { dst := some 153, op := Go.Op.fieldAddr 86 (Go.Operand.tmp 152) 0, type := 0, pos := _, after := #[{ on := 12, ground := Go.Ground.data }], guard := none }) (v := ?vv17046) rfl (by kernel_rfl) (by kernel_rfl) (by kernel_rfl) (fun _ _ _ h => h) (Or.inl ⟨by rfl, ?hy17046⟩) (by assumption) ?tk17046
                case hy17046 => (intro w hSw; (try dsimp only at hSw); go_simp; (try with_reducible rfl))
                try simp only [Act.put, List.setIfInBounds_toArray, List.set_cons_zero, List.set_cons_succ]
                refine wpAnyH_take (i := 14) (oi := { dst := some 154, op := Go.Op.fieldAddr 66 (Go.Operand.tmp 153) 0, type := 0, pos := _, after := #[{ on := 13, ground := Go.Ground.data }], guard := none }) (v := ?vv17047) rfl (by kernel_rfl) (by kernel_rfl) (by kernel_rfl) (fun _ _ _ h => h) (Or.inl ⟨by rfl, ?hy17047⟩) (by assumption) ?tk17047
                case hy17047 => (intro w hSw; (try dsimp only at hSw); go_simp; (try with_reducible rfl))
                try simp only [Act.put, List.setIfInBounds_toArray, List.set_cons_zero, List.set_cons_succ]
                refine wpAnyH_take (i := 15) (oi := { dst := some 155, op := Go.Op.load 3 (Go.Operand.tmp 154), type := 3, pos := _, after := #[{ on := 14, ground := Go.Ground.data }], guard := none }) (v := ?vv17048) rfl (by kernel_rfl) (by kernel_rfl) (by kernel_rfl) (fun _ _ _ h => h) (Or.inl ⟨by rfl, ?hy17048⟩) (by assumption) ?tk17048
                case hy17048 => (intro w hSw; (try dsimp only at hSw); go_simp; (try with_reducible rfl))
                try simp only [Act.put, List.setIfInBounds_toArray, List.set_cons_zero, List.set_cons_succ]
                refine wpAnyH_take (i := 16) (oi := { dst := some 156, op := Go.Op.binOp Go.BinOp.gtr 3 (Go.Operand.tmp 147) (Go.Operand.tmp 155) 3, type := 4, pos := _, after := #[{ on := 7, ground := Go.Ground.data }, { on := 15, ground := Go.Ground.data }], guard := none }) (v := ?vv17049) rfl (by kernel_rfl) (by kernel_rfl) (by kernel_rfl) (fun _ _ _ h => h) (Or.inl ⟨by rfl, ?hy17049⟩) (by assumption) ?tk17049
                case hy17049 => (intro w hSw; (try dsimp only at hSw); go_simp; (try with_reducible rfl))
                try simp only [Act.put, List.setIfInBounds_toArray, List.set_cons_zero, List.set_cons_succ]
                refine wpAnyH_done (by kernel_rfl) ?_ _
                clear hHeld
                have hb1 : ¬ ((nt : Int) + 1 > 4096) := by omega
                have hb2 : ¬ ((4096 : Int) < (nt : Int) + 1) := by omega
                go_wp2
                go_roundg (nF - (i + 1))
                case measure => omega
                case rel =>
                  have Q6 := HQT.out.below (below_dr (Below.refl _ _)) hw6
                  rw [HKI.out] at Q6
                  exact ⟨i + 1, by omega, by go_num, { y with s := updS y.s j s5, d := updD y.d j d5, N := updN y.N j N5, f := updD y.f j f5, nt := nt + 1 }, HYR.out.1, Q6, hw6⟩
        · have hin : nF = i := by omega
          subst hin
          obtain ⟨z0, z1, z2, zf⟩ := HZ.out
          have y0 := (World.cell?_of_block (a := ⟨w.heap.size, 0, none⟩) PP.z).trans z0
          have y1 := (World.cell?_of_block (a := ⟨w.heap.size, 1, none⟩) PP.z).trans z1
          have y2 := (World.cell?_of_block (a := ⟨w.heap.size, 2, none⟩) PP.z).trans z2
          have yf : ∀ o, wr.frozen? ⟨w.heap.size, o, none⟩ = false := fun o => (World.frozen?_of_block (a := ⟨w.heap.size, o, none⟩) PP.z).trans (zf o)
          have HPD := hideIt PP
          clear PP z0 z1 z2 zf b0r hown0
          go_wp2
          refine bodyPost_ret (v := .agg #[.int .u8 0, .int .i64 0, .int .i64 0]) ?_ rfl ?_
          · rw [results_one_cell rfl]
            go_simp
          · have Q := ((HPD.out.zset HO.out 0 (.int .u8 0)).zset HO.out 1 (.int .i64 0)).zset HO.out 2 (.int .i64 0)
            rw [show min nF 64 = 64 by omega] at Q
            exact ⟨rfl, _, rb', c', x, Q, HC'.out⟩
end Go.Proofs.Qxb6500880aGreat
