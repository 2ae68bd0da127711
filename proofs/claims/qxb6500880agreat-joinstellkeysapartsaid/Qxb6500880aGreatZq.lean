import Derived.Deep.CutBlock
import Derived.OwnWalk
import Derived.Maps.AppendAt
import Derived.Maps.OwnSet
import Derived.Maps.OwnOps
import Derived.Laws.ResultCell
import Derived.Test.Qxb6500880aGreatZp
set_option linter.unusedVariables false
set_option linter.unusedSimpArgs false
namespace Go.Proofs.Qxb6500880aGreat
open Go.RowKit

theorem info41 : (Tryz.prog.info? 41).map (fun i => (i.zero, i.size, i.bytes)) = some (some (.slice none 0 0), 1, 24) := by kernel_rfl
theorem info79 : (Tryz.prog.info? 79).map (fun i => (i.zero, i.size, i.bytes)) = some (some (.slice none 0 0), 1, 24) := by kernel_rfl
set_option maxRecDepth 20000 in
set_option maxHeartbeats 8000000 in
theorem schedule_any {w : World} {ρ : Rl} {gl cl : Nat} {nmh : ByteArray} {sh : RelS} (hl : w.cell? ⟨gl, 0, none⟩ = some (.pointer (some ⟨ρ.RB, 0, none⟩))) (HR : RuX w ρ) (Hh : RelAt w ρ.u.hb nmh sh) (Hr : ∀ k, k < ρ.u.m → ∃ nm s, RelAt w (ρ.u.rb k) nm s) (hne : ∀ k, k < ρ.u.m → ρ.u.rb k ≠ ρ.u.hb) (hm : ρ.u.m ≤ 100) :
    Calls Tryz.prog 34 #[.slice (some ⟨gl, 0, none⟩) 1 cl] w fun e w' => ∃ g gr cr, e = .returned (.slice (some ⟨g, 0, none⟩) 1 1) ∧ w'.cell? ⟨g, 0, none⟩ = some (.slice (some ⟨gr, 0, none⟩) 1 cr) ∧ w'.cell? ⟨gr, 0, none⟩ = some (.pointer (some ⟨ρ.RB, 0, none⟩)) ∧ w.heap.size ≤ g ∧ w.heap.size ≤ gr ∧ Below w.heap.size w w' := by
  obtain ⟨i8, hi8, hy0, hy1, hy2⟩ := info_parts info41
  obtain ⟨i6, hi6, hz0, hz1, hz2⟩ := info_parts info79
  obtain ⟨i1_, hi1, hw0, hw1, hw2⟩ := info_parts info92
  have bM := one_alloc w (.map #[] 0)
  have P0 := PM0_new w
  have l1 := cell_later bM hl
  have r1 := cell_later bM HR.c1
  have hmm := @run_makeMap Tryz.prog
  have HQ := hideIt (And.intro HR (And.intro Hh (And.intro Hr (And.intro hl bM))))
  have hMl : w.heap.size < (w.alloc (.map #[] 0)).heap.size := by simp
  have hRl := HR.lt (q := ρ.RB) (.inl rfl)
  clear HR Hh Hr hl bM
  go_enter Tryz.func34, Tryz.ntmps34
  go_upto_region 2 with fail
  generalize w.alloc (.map #[] 0) = w1 at *
  generalize hM : w.heap.size = M at *
  have hlk := P0.look (b := ρ.u.hb) true
  simp only [if_true] at hlk
  have hln : ∀ w', w'.heap[M]? = w1.heap[M]? → ∀ ty, (Builtin.len_ #[158] ty #[.map (some M)]).run Tryz.prog w' = .ok (.int .i64 0) w' := fun w' e ty => PM0.len (show PM0 w' M from e.trans P0) ty
  have P0d : PM0 w1.drew M := P0
  obtain ⟨w2, hrun, P2, W2⟩ := P0d.put (hb := ρ.u.hb) 158 (.inl rfl) (.int .i64 0)
  have HP := hideIt (And.intro P2 W2)
  clear P2 W2 P0 P0d
  go_wp2_with fail
  go_loopg [25] 1 (fun gg v wr => ∃ i : Nat, i + gg = 1 ∧ v = .int .i64 (i : Int) ∧ (i = 0 → wr = w1) ∧ (i = 1 → wr = w2))
  case atStart => exact ⟨0, by omega, rfl, fun _ => rfl, fun h => by omega⟩
  case round =>
  obtain ⟨i, hi, rfl, hI0, hI1⟩ := hrel
  by_cases hin : i < 1
  · have hi0 : i = 0 := by omega
    subst hi0
    have ew := (hI0 rfl).symm
    subst ew
    clear hI0 hI1
    go_upto_region 7 with fail
    refine wp_region_l (l := 8) (S := (fun w' => w'.cell? ⟨ρ.RB, 1, none⟩ = some (.pointer (some ⟨ρ.u.hb, 0, none⟩)) ∧ w'.heap[M]? = w1.heap[M]?)) (by kernel_rfl) ⟨r1, rfl⟩ (fun hHeld => ?_)
    refine AnyL.take2 (i := 0) (oi := { dst := some 41, op := Go.Op.move (Go.Operand.tmp 3), type := 158, pos := _, after := #[], guard := none }) (v := ?vv38001) (by kernel_rfl) (by kernel_rfl) rfl (by kernel_rfl) (by kernel_rfl) (by kernel_rfl) (fun _ _ _ h => h) (Or.inl ⟨by rfl, ?hy38001⟩) (by assumption) ?tk38001
    case hy38001 => (intro w hSw; (try dsimp only at hSw); go_simp; (try with_reducible rfl))
    try simp only [Act.put, List.setIfInBounds_toArray, List.set_cons_zero, List.set_cons_succ]
    refine AnyL.take2 (i := 1) (oi := { dst := some 42, op := Go.Op.move (Go.Operand.tmp 5), type := 92, pos := _, after := #[], guard := none }) (v := ?vv38002) (by kernel_rfl) (by kernel_rfl) rfl (by kernel_rfl) (by kernel_rfl) (by kernel_rfl) (fun _ _ _ h => h) (Or.inl ⟨by rfl, ?hy38002⟩) (by assumption) ?tk38002
    case hy38002 => (intro w hSw; (try dsimp only at hSw); go_simp; (try with_reducible rfl))
    try simp only [Act.put, List.setIfInBounds_toArray, List.set_cons_zero, List.set_cons_succ]
    refine AnyL.take2 (i := 2) (oi := { dst := some 43, op := Go.Op.nilCheck (Go.Operand.tmp 42), type := 0, pos := _, after := #[{ on := 1, ground := Go.Ground.data }], guard := none }) (v := ?vv38003) (by kernel_rfl) (by kernel_rfl) rfl (by kernel_rfl) (by kernel_rfl) (by kernel_rfl) (fun _ _ _ h => h) (Or.inl ⟨by rfl, ?hy38003⟩) (by assumption) ?tk38003
    case hy38003 => (intro w hSw; (try dsimp only at hSw); go_simp; (try with_reducible rfl))
    try simp only [Act.put, List.setIfInBounds_toArray, List.set_cons_zero, List.set_cons_succ]
    refine AnyL.take2 (i := 3) (oi := { dst := some 44, op := Go.Op.fieldAddr 106 (Go.Operand.tmp 43) 1, type := 0, pos := _, after := #[{ on := 2, ground := Go.Ground.data }], guard := none }) (v := ?vv38004) (by kernel_rfl) (by kernel_rfl) rfl (by kernel_rfl) (by kernel_rfl) (by kernel_rfl) (fun _ _ _ h => h) (Or.inl ⟨by rfl, ?hy38004⟩) (by assumption) ?tk38004
    case hy38004 => (intro w hSw; (try dsimp only at hSw); go_simp; (try with_reducible rfl))
    try simp only [Act.put, List.setIfInBounds_toArray, List.set_cons_zero, List.set_cons_succ]
    refine AnyL.take2 (i := 4) (oi := { dst := some 45, op := Go.Op.fieldAddr 102 (Go.Operand.tmp 44) 0, type := 0, pos := _, after := #[{ on := 3, ground := Go.Ground.data }], guard := none }) (v := ?vv38005) (by kernel_rfl) (by kernel_rfl) rfl (by kernel_rfl) (by kernel_rfl) (by kernel_rfl) (fun _ _ _ h => h) (Or.inl ⟨by rfl, ?hy38005⟩) (by assumption) ?tk38005
    case hy38005 => (intro w hSw; (try dsimp only at hSw); go_simp; (try with_reducible rfl))
    try simp only [Act.put, List.setIfInBounds_toArray, List.set_cons_zero, List.set_cons_succ]
    refine AnyL.take2 (i := 5) (oi := { dst := some 46, op := Go.Op.load 99 (Go.Operand.tmp 45), type := 99, pos := _, after := #[{ on := 4, ground := Go.Ground.data }], guard := none }) (v := ?vv38006) (by kernel_rfl) (by kernel_rfl) rfl (by kernel_rfl) (by kernel_rfl) (by kernel_rfl) (fun _ _ _ h => h) (Or.inl ⟨by rfl, ?hy38006⟩) (by assumption) ?tk38006
    case hy38006 => (intro w hSw; (try dsimp only at hSw); go_simp; (try with_reducible rfl))
    try simp only [Act.put, List.setIfInBounds_toArray, List.set_cons_zero, List.set_cons_succ]
    refine AnyL.take2 (i := 6) (oi := { dst := some 47, op := Go.Op.move (Go.Operand.tmp 3), type := 158, pos := _, after := #[], guard := none }) (v := ?vv38007) (by kernel_rfl) (by kernel_rfl) rfl (by kernel_rfl) (by kernel_rfl) (by kernel_rfl) (fun _ _ _ h => h) (Or.inl ⟨by rfl, ?hy38007⟩) (by assumption) ?tk38007
    case hy38007 => (intro w hSw; (try dsimp only at hSw); go_simp; (try with_reducible rfl))
    try simp only [Act.put, List.setIfInBounds_toArray, List.set_cons_zero, List.set_cons_succ]
    refine AnyL.take2 (i := 7) (oi := { dst := some 48, op := Go.Op.call { callee := Go.Callee.builtin Go.Builtin.len, args := #[Go.Operand.tmp 47], argTypes := #[158] }, type := 3, pos := _, after := #[{ on := 6, ground := Go.Ground.data }], guard := none }) (v := ?vv38008) (by kernel_rfl) (by kernel_rfl) rfl (by kernel_rfl) (by kernel_rfl) (by kernel_rfl) (fun _ _ _ h => h) (Or.inl ⟨by rfl, ?hy38008⟩) (by assumption) ?tk38008
    case hy38008 => (intro w hSw; have hl7 := hln w hSw.2; (try dsimp only at hSw); go_simp; (try with_reducible rfl))
    try simp only [Act.put, List.setIfInBounds_toArray, List.set_cons_zero, List.set_cons_succ]
    refine AnyL.last (o := { dst := none, op := Go.Op.mapUpdate 158 (Go.Operand.tmp 41) (Go.Operand.tmp 46) (Go.Operand.tmp 48), type := 0, pos := _, after := #[{ on := 0, ground := Go.Ground.data }, { on := 5, ground := Go.Ground.data }, { on := 7, ground := Go.Ground.data }, { on := 7, ground := Go.Ground.chain }, { on := 0, ground := Go.Ground.phase }, { on := 1, ground := Go.Ground.phase }, { on := 2, ground := Go.Ground.phase }, { on := 3, ground := Go.Ground.phase }, { on := 4, ground := Go.Ground.phase }, { on := 5, ground := Go.Ground.phase }, { on := 6, ground := Go.Ground.phase }, { on := 7, ground := Go.Ground.phase }], guard := none }) (by kernel_rfl) rfl (by kernel_rfl) (fun K' hK' => ?_)
    go_simp
    clear hHeld
    refine hK'.out _ _ ?_
    clear hK' K'
    try simp only [Act.put, List.setIfInBounds_toArray, List.set_cons_zero, List.set_cons_succ]
    go_wp2
    go_roundg 0
    case measure => omega
    case rel => exact ⟨1, by omega, by go_num, fun h => by omega, fun _ => rfl⟩
  have ein : i = 1 := by omega
  have ew := (hI1 ein).symm
  subst ew
  have i1 : ¬ ((i : Int) < 1) := by omega
  clear hI0 hI1 hin hi ein hlk hln hrun l1 r1
  obtain ⟨P2, W2⟩ := HP.out
  obtain ⟨HR, Hh, Hr, hl, bM⟩ := HQ.out
  have b2 : Below M w w2 := ⟨W2.os.trans bM.os, W2.tape.trans bM.tape, W2.output.trans bM.output, Nat.le_trans bM.size W2.size, fun q hq => (W2.block q (show q < w1.heap.size by omega) (by omega)).trans (bM.block q hq)⟩
  have hln := fun ty => P2.len (ty := ty)
  have hs2 : M < w2.heap.size := P2.lt
  have HB2 := hideIt (And.intro P2 b2)
  clear P2 W2 HR Hh Hr hl bM b2 HP
  go_wp2_with (first | (at_make; refine wpList_make_full _ rfl _ _ 159 rfl w2.heap.size 41 i8 _ 1 Tryz.underlying159 hi8 hy0 hy1 .i64 .i64 1 1 1 rfl rfl rfl rfl (by rw [hy2]; omega) (by unfold maxLen; omega) (Nat.le_refl _) ?_) | go_in)
  intro w3 own3 grow3
  have b3 : Below w2.heap.size w2 w3 := ⟨grow3.os, grow3.tape, grow3.output, grow3.size, fun k hk => grow3.block k hk (by simp)⟩
  have hg3 : w2.heap.size < w3.heap.size := (own3.lt w2.heap.size rfl).2
  have ge3 : w3.cell? ⟨w2.heap.size, 0, none⟩ = some (.slice none 0 0) := by
    have e := own3.cellAt 0 (by omega)
    rw [made_one, List.getElem?_replicate, if_pos (by omega)] at e
    exact e
  obtain ⟨P2, b2⟩ := HB2.out
  obtain ⟨HR, Hh, Hr, hl, bM⟩ := HQ.out
  have P3 := P2.below b3
  have bw3 : Below M w w3 := b2.trans (b3.mono (by omega))
  have bw3' : Below w.heap.size w w3 := by rw [hM]; exact bw3
  have l3 := cell_later bw3' hl
  have HR3 := HR.below bw3'
  have Hh3 := Hh.below bw3'
  have Hr3 : ∀ k, k < ρ.u.m → ∃ nm s, RelAt w3 (ρ.u.rb k) nm s := fun k hk => by
    obtain ⟨nm, s, h⟩ := Hr k hk
    exact ⟨nm, s, h.below bw3'⟩
  have r1 := HR3.c1
  have r4 := HR3.c4
  have hlk := P3.look
  have HQ3 := hideIt (And.intro P3 (And.intro bw3 (And.intro HR3 (And.intro Hh3 (And.intro Hr3 l3)))))
  clear own3 grow3 b3 P2 b2 HR Hh Hr hl bM P3 bw3 bw3' HR3 Hh3 Hr3 hln HB2
  generalize hGE : w2.heap.size = GE at *
  go_wp2_with fail
  go_loopg [55] 1 (fun gg v wr => ∃ i : Nat, i + gg = 1 ∧ v = .int .i64 (i : Int) ∧ (i = 0 → wr = w3) ∧ (i = 1 → Below w3.heap.size w3 wr))
  case atStart => exact ⟨0, by omega, rfl, fun _ => rfl, fun h => by omega⟩
  case round =>
  obtain ⟨i, hi, rfl, hI0, hI1⟩ := hrel
  by_cases hin : i < 1
  · have hi0 : i = 0 := by omega
    subst hi0
    have ew := (hI0 rfl).symm
    subst ew
    clear hI0 hI1
    go_wp2_with fail
    go_loopg [71] ρ.u.m (fun gg v wr => ∃ k : Nat, k + gg = ρ.u.m ∧ v = .int .i64 (k : Int) ∧ Below w3.heap.size w3 wr)
    case atStart => exact ⟨0, by omega, rfl, Below.refl _ _⟩
    case round =>
      obtain ⟨k, hk, rfl, bw⟩ := hrel
      by_cases hkn : k < ρ.u.m
      · have k0 : (0 : Int) ≤ k := by omega
        have k1 : (k : Int) < (ρ.u.m : Int) := by omega
        obtain ⟨P3, bw3, HR3, Hh3, Hr3, l3'⟩ := HQ3.out
        obtain ⟨a0, a1, a2⟩ := HR3.j k hkn
        obtain ⟨nmk, sk, Hk⟩ := Hr3 k hkn
        have d0 := cell_later bw a0
        have d1 := cell_later bw a1
        have d2 := cell_later bw a2
        have bA := one_alloc wr (.cells #[.pointer (some ⟨ρ.u.rb k, 0, none⟩), .slice (some ⟨ρ.ga k, 0, none⟩) (ρ.u.nn k) (ρ.ca k), .int .i64 (k : Int)] 102)
        have bb := then_ bw bA
        have hms := (P3.below bb).miss (hne k hkn) (Hk.below bb).nm (Hk.below bb).fz (Hh3.below bb).nm (Hh3.below bb).fz
        have HB := hideIt bb
        clear P3 bw3 HR3 Hh3 Hr3 l3' a0 a1 a2 bA bb bw Hk
        go_wp2
        go_roundg (ρ.u.m - (k + 1))
        case measure => omega
        case rel => exact ⟨k + 1, by omega, by go_num, HB.out⟩
      · have k1 : ¬ ((k : Int) < (ρ.u.m : Int)) := by omega
        have HB := hideIt bw
        clear bw
        go_wp2
        go_roundg 0
        case measure => omega
        case rel => exact ⟨1, by omega, by go_num, fun h => by omega, fun _ => HB.out⟩
  have ein : i = 1 := by omega
  have bw := hI1 ein
  have i1 : ¬ ((i : Int) < 1) := by omega
  clear hI0 hI1 hin hi ein hlk
  have hcc := closeC_any (ce := 1) (cell_later bw ge3)
  have HB := hideIt bw
  have hs4 := bw.size
  clear bw l3 r1 r4 ge3
  go_wp2_with fail
  refine hcc.mono ?_
  rintro e w5 ⟨gg5, rfl, hgg, hg0, b5⟩
  have hs5 := b5.size
  have HB5 := hideIt (then_ HB.out b5)
  clear hcc b5 HB
  go_wp2_with (first | (at_make; refine wpList_make_full _ rfl _ _ 77 rfl w5.heap.size 79 i6 _ 1 Tryz.underlying77 hi6 hz0 hz1 .i64 .i64 1 1 1 rfl rfl rfl rfl (by rw [hz2]; omega) (by unfold maxLen; omega) (Nat.le_refl _) ?_) | go_in)
  intro w6 own6 grow6
  have b6 : Below w5.heap.size w5 w6 := ⟨grow6.os, grow6.tape, grow6.output, grow6.size, fun k hk => grow6.block k hk (by simp)⟩
  have hg6 : w5.heap.size < w6.heap.size := (own6.lt w5.heap.size rfl).2
  have o6 : w6.cell? ⟨w5.heap.size, 0, none⟩ = some (.slice none 0 0) := by
    have e := own6.cellAt 0 (by omega)
    rw [made_one, List.getElem?_replicate, if_pos (by omega)] at e
    exact e
  have of6 : ∀ o, w6.frozen? ⟨w5.heap.size, o, none⟩ = false := fun o => own6.frozenAt o
  obtain ⟨P3, bw3, HR3, Hh3, Hr3, l3'⟩ := HQ3.out
  have b36 := then_ HB5.out b6
  have hlk := (P3.below b36).look
  have l6 := cell_later b36 l3'
  have r6 := cell_later b36 HR3.c1
  have g6 := cell_later b6 hg0
  have HB6 := hideIt (bw3.trans (b36.mono (by omega)))
  have hs6 : M ≤ w5.heap.size := by omega
  clear own6 grow6 b6 P3 bw3 HR3 Hh3 Hr3 l3' b36 hg0 HB5
  generalize hOU : w5.heap.size = OU at *
  go_wp2_with fail
  go_loopg [104] 1 (fun gg v wr => ∃ i : Nat, i + gg = 1 ∧ v = .int .i64 (i : Int) ∧ (i = 0 → wr = w6) ∧ (i = 1 → ∃ gr cr, wr.cell? ⟨OU, 0, none⟩ = some (.slice (some ⟨gr, 0, none⟩) 1 cr) ∧ wr.cell? ⟨gr, 0, none⟩ = some (.pointer (some ⟨ρ.RB, 0, none⟩)) ∧ M ≤ gr ∧ Below M w wr))
  case atStart => exact ⟨0, by omega, rfl, fun _ => rfl, fun h => by omega⟩
  case round =>
  obtain ⟨i, hi, rfl, hI0, hI1⟩ := hrel
  by_cases hin : i < 1
  · have hi0 : i = 0 := by omega
    subst hi0
    have ew := (hI0 rfl).symm
    subst ew
    clear hI0 hI1
    go_wp2_with (first | (at_builtin; refine wpList_append_own_at _ rfl (.tmp 123) (.tmp 125) 79 rfl w6.heap.size 92 i1_ (.pointer none) 1 8 Tryz.underlying79 hi1 hw0 hw1 hw2 rfl (by decide) (.slice none 0 0) 0 [] rfl (own_nil _ _ _ _) ⟨w6.heap.size, 0, none⟩ 1 1 [.pointer (some ⟨ρ.RB, 0, none⟩)] rfl rfl (cell_new1 _ _ _) (by simp [Value.oneCell']) (by unfold maxLen; omega) (by omega) (by simp <;> omega) ?_) | go_in)
    intro v' w7 hown' hgrow hiff hblk
    have bN := one_alloc w6 (.cells #[.pointer (some ⟨ρ.RB, 0, none⟩)] 92)
    have b7 : Below w6.heap.size w6 w7 := ⟨hgrow.os.trans bN.os, hgrow.tape.trans bN.tape, hgrow.output.trans bN.output, Nat.le_trans bN.size hgrow.size, fun q hq => (hgrow.block q (by have := bN.size; omega) (by simp [Value.ownBlock])).trans (bN.block q hq)⟩
    obtain ⟨gr, cr, rfl, hcr, hgr, hgrl, hcl, hcf⟩ := own_full hown' (by omega)
    have t0 : w7.cell? ⟨gr, 0, none⟩ = some (.pointer (some ⟨ρ.RB, 0, none⟩)) := hcl 0 (by omega)
    have o7 := cell_later b7 o6
    have of7 : ∀ o, w7.frozen? ⟨OU, o, none⟩ = false := fun o => (World.frozen?_of_block (a := ⟨OU, o, none⟩) (b7.block _ hg6)).trans (of6 o)
    have hgO : gr ≠ OU := by omega
    have HB7 := hideIt (HB6.out.trans (b7.mono (by omega)))
    clear hown' hgrow hiff hblk bN b7 hcl hcf o6 of6 hlk l6 r6 g6
    go_wp2
    go_roundg 0
    case measure => omega
    case rel => exact ⟨1, by omega, by go_num, fun h => by omega, fun _ => ⟨gr, cr, World.cell?_setCell_same _ _ _ o7, (World.cell?_of_block (a := ⟨gr, 0, none⟩) (far_set hgO)).trans t0, by omega, below_cell HB7.out (by omega) _⟩⟩
  have ein : i = 1 := by omega
  obtain ⟨gr, cr, z1, z2, z3, z4⟩ := hI1 ein
  have i1 : ¬ ((i : Int) < 1) := by omega
  have HE := hideIt (And.intro z1 (And.intro z2 (And.intro z3 z4)))
  clear hI0 hI1 hin hi ein z1 z2 z3 z4 hlk l6 r6 g6 o6 of6
  go_wp2
  go_ret
  obtain ⟨z1, z2, z3, z4⟩ := HE.out
  exact ⟨OU, rfl, gr, ⟨cr, z1⟩, z2, hs6, z3, z4⟩
end Go.Proofs.Qxb6500880aGreat
