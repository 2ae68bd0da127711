import Derived.Deep.CutBlock
import Derived.OwnWalk
import Derived.Maps.AppendAt
import Derived.Maps.OwnSet
import Derived.Maps.OwnOps
import Derived.Laws.ResultCell
import Derived.Test.Qxb6500880aGreatK
set_option linter.unusedVariables false
set_option linter.unusedSimpArgs false
namespace Go.Proofs.Qxb6500880aGreat
open Go.RowKit

theorem nm_full : ∀ k : Fin 4, (nmS k).toList.isEmpty = false := by decide +kernel
/-- atom at work. -/
structure AtF (w : World) (CB E nb rb n p4 p6 : Nat) (nm : ByteArray) (p : Option Addr) (c : Nat) : Prop where
  c0 : w.cell? ⟨CB, 0, none⟩ = some (.pointer (some ⟨E, 0, none⟩))
  e6 : w.cell? ⟨E, 6, none⟩ = some (.map (some nb))
  d0 : w.cell? ⟨p4, 0, none⟩ = some (.string nm)
  d1 : w.cell? ⟨p4, 1, none⟩ = some (.slice p n c)
  z0 : w.cell? ⟨p6, 0, none⟩ = some (.pointer none)
  z1 : w.cell? ⟨p6, 1, none⟩ = some (.slice none 0 0)
  z2 : w.cell? ⟨p6, 2, none⟩ = some (.int .i64 0)
  r1 : w.cell? ⟨rb, 1, none⟩ = some (.int .i64 (n : Int))
  zf : ∀ o, w.frozen? ⟨p6, o, none⟩ = false
theorem AtF.below {w w' : World} {CB E nb rb n p4 p6 : Nat} {nm : ByteArray} {p : Option Addr} {c : Nat} (h : AtF w CB E nb rb n p4 p6 nm p c) (hb : Below w.heap.size w w') : AtF w' CB E nb rb n p4 p6 nm p c :=
  ⟨cell_later hb h.c0, cell_later hb h.e6, cell_later hb h.d0, cell_later hb h.d1, cell_later hb h.z0, cell_later hb h.z1, cell_later hb h.z2, cell_later hb h.r1, fun o => (World.frozen?_of_block (a := ⟨p6, o, none⟩) (hb.block p6 (World.block_lt_of_cell? _ _ h.z0))).trans (h.zf o)⟩
set_option maxRecDepth 20000 in
set_option maxHeartbeats 8000000 in
theorem atom_any {w : World} {CB E mb nb rb k kk n : Nat} {key : Fin 4} {v : Value} {s : RelS} {f : Nat → Nat} {fn : Fin 4 → Option Nat} (lit : Int) (HC : CoAt w CB E mb) (HE : w.cell? ⟨E, 6, none⟩ = some (.map (some nb))) (HN : MapN w nb kk fn) (hfn : fn key = some rb) (HR : RelAt w rb (nmS key) s) (hA : s.A = n) (HT : TermsAt w v n f) (HM : MapR w mb k (idM k)) (hf : ∀ j, j < n → f j ≤ kA k f j) (hCm : CB ≠ mb) (hvm : v.ownBlock ≠ some mb) (hn : n ≤ 100) (hk : k ≤ 1000) :
    Calls Tryz.prog 25 #[.pointer (some ⟨CB, 0, none⟩), .agg #[.string (nmS key), v], .int .i64 lit] w fun e w' => ∃ v', e = .returned (.tuple #[.agg #[.pointer (some ⟨rb, 0, none⟩), v', .int .i64 lit], .int .u8 0]) ∧ OpsAt w' v' n f ∧ (∃ q, v'.ownBlock = some q ∧ w.heap.size ≤ q) ∧ MapR w' mb (kA k f n) (idM (kA k f n)) ∧ Wr mb w w' := by
  have hnf := nm_full key
  obtain ⟨p, c, ev, hc, HT'⟩ := HT
  have HT : TermsAt w v n f := ⟨p, c, ev, hc, HT'⟩
  clear HT'
  subst ev
  have hlk : ∀ w', w'.heap[nb]? = w.heap[nb]? → (Instr.lookup 75 (.map (some nb)) (.string (nmS key)) true).run Tryz.prog w' = .ok (.tuple #[.pointer (some ⟨rb, 0, none⟩), .bool true]) w' := fun w' e => by
    have := (HN.blk e).look key
    rw [hfn] at this
    exact this
  obtain ⟨nm, hnm⟩ : ∃ nm, nmS key = nm := ⟨_, rfl⟩
  rw [hnm] at hnf hlk HR ⊢
  have HLK := hideIt hlk
  clear hnm hlk
  have r1' := HR.ar
  rw [hA] at r1'
  have hnbl := HN.lt
  have hrl := HR.lt
  have hcl := HC.lt
  have hel : E < w.heap.size := World.block_lt_of_cell? _ _ HE
  have hml := HM.lt
  have HQ := hideIt (And.intro HC (And.intro HM (And.intro HT r1')))
  have HE0 := hideIt HE
  have HF := hideIt hf
  have HVM := hideIt hvm
  clear HC HN hfn HR hA HM hf hvm r1' HE
  go_enter Tryz.func25, Tryz.ntmps25
  go_upto_region 1 with fail
  have b0 := one_alloc w (.cells #[.string nm, .slice p n c] 34)
  have b1 := one_alloc (w.alloc (.cells #[.string nm, .slice p n c] 34)) (.cells #[.pointer none, .slice none 0 0, .int .i64 0] 102)
  have bb := then_ b0 b1
  have d0 := cell_later b1 (show (w.alloc (.cells #[.string nm, .slice p n c] 34)).cell? ⟨w.heap.size, 0, none⟩ = some (.string nm) by simp)
  have d1 := cell_later b1 (show (w.alloc (.cells #[.string nm, .slice p n c] 34)).cell? ⟨w.heap.size, 1, none⟩ = some (.slice p n c) by simp)
  have z0 : ((w.alloc (.cells #[.string nm, .slice p n c] 34)).alloc (.cells #[.pointer none, .slice none 0 0, .int .i64 0] 102)).cell? ⟨w.heap.size + 1, 0, none⟩ = some (.pointer none) := by simp
  have z1 : ((w.alloc (.cells #[.string nm, .slice p n c] 34)).alloc (.cells #[.pointer none, .slice none 0 0, .int .i64 0] 102)).cell? ⟨w.heap.size + 1, 1, none⟩ = some (.slice none 0 0) := by simp
  have z2 : ((w.alloc (.cells #[.string nm, .slice p n c] 34)).alloc (.cells #[.pointer none, .slice none 0 0, .int .i64 0] 102)).cell? ⟨w.heap.size + 1, 2, none⟩ = some (.int .i64 0) := by simp
  have zf : ∀ o, ((w.alloc (.cells #[.string nm, .slice p n c] 34)).alloc (.cells #[.pointer none, .slice none 0 0, .int .i64 0] 102)).frozen? ⟨w.heap.size + 1, o, none⟩ = false := fun o => by simp
  have AF : AtF ((w.alloc (.cells #[.string nm, .slice p n c] 34)).alloc (.cells #[.pointer none, .slice none 0 0, .int .i64 0] 102)) CB E nb rb n w.heap.size (w.heap.size + 1) nm p c := ⟨cell_later bb HQ.out.1.c0, cell_later bb HE0.out, d0, d1, z0, z1, z2, cell_later bb HQ.out.2.2.2, zf⟩
  clear b0 b1 d0 d1 z0 z1 z2 zf
  generalize World.alloc (w.alloc (.cells #[.string nm, .slice p n c] 34)) (.cells #[.pointer none, .slice none 0 0, .int .i64 0] 102) = wa at *
  obtain ⟨p4, hp4⟩ : ∃ p4, w.heap.size = p4 := ⟨_, rfl⟩
  have HP4 := hideIt hp4
  rw [hp4] at AF ⊢
  generalize hp6 : p4 + 1 = p6 at *
  have HBB := hideIt bb
  clear bb hp4
  have htf := termsFine_any (HT.below HBB.out) (by omega)
  clear HT
  have d0 := AF.d0
  have d1 := AF.d1
  have HAF := hideIt AF
  clear AF
  go_wp2_with fail
  refine htf.mono ?_
  rintro e w2 ⟨rfl, hb2⟩
  have AF := HAF.out.below hb2
  have HBB2 := hideIt (then_ HBB.out hb2)
  clear hb2 htf d0 d1 HAF HBB
  go_upto_region 3 with fail
  go_cut [8, 9] (fun a8 a9 wd => a8 = .pointer (some ⟨rb, 0, none⟩) ∧ a9 = .bool true ∧ AtF wd CB E nb rb n p4 p6 nm p c ∧ Hid (Below w.heap.size w wd))
  case first =>
    have c0 := AF.c0
    have e6 := AF.e6
    have d0 := AF.d0
    have HAF := hideIt AF
    have hlk : ∀ w', w'.heap[nb]? = w2.heap[nb]? → (Instr.lookup 75 (.map (some nb)) (.string nm) true).run Tryz.prog w' = .ok (.tuple #[.pointer (some ⟨rb, 0, none⟩), .bool true]) w' := fun w' e => HLK.out w' (e.trans (HBB2.out.block nb hnbl))
    clear AF
    refine wp_region_held_drew (S := (fun w' => w'.cell? ⟨CB, 0, none⟩ = some (.pointer (some ⟨E, 0, none⟩)) ∧ w'.cell? ⟨E, 6, none⟩ = some (.map (some nb)) ∧ w'.cell? ⟨p4, 0, none⟩ = some (.string nm) ∧ w'.heap[nb]? = w2.heap[nb]?)) (by kernel_rfl) ⟨c0, e6, d0, rfl⟩ (fun hHeld => ?_)
    refine wpAnyH_take (i := 0) (oi := { dst := some 21, op := Go.Op.move (Go.Operand.tmp 0), type := 87, pos := _, after := #[], guard := none }) (v := ?vv8001) rfl (by kernel_rfl) (by kernel_rfl) (by kernel_rfl) (fun _ _ _ h => h) (Or.inl ⟨by rfl, ?hy8001⟩) (by assumption) ?tk8001
    case hy8001 => (intro w hSw; (try dsimp only at hSw); go_simp; (try with_reducible rfl))
    try simp only [Act.put, List.setIfInBounds_toArray, List.set_cons_zero, List.set_cons_succ]
    refine wpAnyH_take (i := 1) (oi := { dst := some 22, op := Go.Op.nilCheck (Go.Operand.tmp 21), type := 0, pos := _, after := #[{ on := 0, ground := Go.Ground.data }], guard := none }) (v := ?vv8002) rfl (by kernel_rfl) (by kernel_rfl) (by kernel_rfl) (fun _ _ _ h => h) (Or.inl ⟨by rfl, ?hy8002⟩) (by assumption) ?tk8002
    case hy8002 => (intro w hSw; (try dsimp only at hSw); go_simp; (try with_reducible rfl))
    try simp only [Act.put, List.setIfInBounds_toArray, List.set_cons_zero, List.set_cons_succ]
    refine wpAnyH_take (i := 2) (oi := { dst := some 23, op := Go.Op.fieldAddr 90 (Go.Operand.tmp 22) 0, type := 0, pos := _, after := #[{ on := 1, ground := Go.Ground.data }], guard := none }) (v := ?vv8003) rfl (by kernel_rfl) (by kernel_rfl) (by kernel_rfl) (fun _ _ _ h => h) (Or.inl ⟨by rfl, ?hy8003⟩) (by assumption) ?tk8003
    case hy8003 => (intro w hSw; (try dsimp only at hSw); go_simp; (try with_reducible rfl))
    try simp only [Act.put, List.setIfInBounds_toArray, List.set_cons_zero, List.set_cons_succ]
    refine wpAnyH_take (i := 3) (oi := { dst := some 24, op := Go.Op.load 58 (Go.Operand.tmp 23), type := 58, pos := _, after := #[{ on := 2, ground := Go.Ground.data }], guard := none }) (v := ?vv8004) rfl (by kernel_rfl) (by kernel_rfl) (by kernel_rfl) (fun _ _ _ h => h) (Or.inl ⟨by rfl, ?hy8004⟩) (by assumption) ?tk8004
    case hy8004 => (intro w hSw; (try dsimp only at hSw); go_simp; (try with_reducible rfl))
    try simp only [Act.put, List.setIfInBounds_toArray, List.set_cons_zero, List.set_cons_succ]
    refine wpAnyH_take (i := 4) (oi := { dst := some 25, op := Go.Op.nilCheck (Go.Operand.tmp 24), type := 0, pos := _, after := #[{ on := 3, ground := Go.Ground.data }], guard := none }) (v := ?vv8005) rfl (by kernel_rfl) (by kernel_rfl) (by kernel_rfl) (fun _ _ _ h => h) (Or.inl ⟨by rfl, ?hy8005⟩) (by assumption) ?tk8005
    case hy8005 => (intro w hSw; (try dsimp only at hSw); go_simp; (try with_reducible rfl))
    try simp only [Act.put, List.setIfInBounds_toArray, List.set_cons_zero, List.set_cons_succ]
    refine wpAnyH_take (i := 5) (oi := { dst := some 26, op := Go.Op.fieldAddr 86 (Go.Operand.tmp 25) 3, type := 0, pos := _, after := #[{ on := 4, ground := Go.Ground.data }], guard := none }) (v := ?vv8006) rfl (by kernel_rfl) (by kernel_rfl) (by kernel_rfl) (fun _ _ _ h => h) (Or.inl ⟨by rfl, ?hy8006⟩) (by assumption) ?tk8006
    case hy8006 => (intro w hSw; (try dsimp only at hSw); go_simp; (try with_reducible rfl))
    try simp only [Act.put, List.setIfInBounds_toArray, List.set_cons_zero, List.set_cons_succ]
    refine wpAnyH_take (i := 6) (oi := { dst := some 27, op := Go.Op.load 75 (Go.Operand.tmp 26), type := 75, pos := _, after := #[{ on := 5, ground := Go.Ground.data }], guard := none }) (v := ?vv8007) rfl (by kernel_rfl) (by kernel_rfl) (by kernel_rfl) (fun _ _ _ h => h) (Or.inl ⟨by rfl, ?hy8007⟩) (by assumption) ?tk8007
    case hy8007 => (intro w hSw; (try dsimp only at hSw); go_simp; (try with_reducible rfl))
    try simp only [Act.put, List.setIfInBounds_toArray, List.set_cons_zero, List.set_cons_succ]
    refine wpAnyH_take (i := 7) (oi := { dst := some 28, op := Go.Op.fieldAddr 34 (Go.Operand.tmp 4) 0, type := 0, pos := _, after := #[], guard := none }) (v := ?vv8008) rfl (by kernel_rfl) (by kernel_rfl) (by kernel_rfl) (fun _ _ _ h => h) (Or.inl ⟨by rfl, ?hy8008⟩) (by assumption) ?tk8008
    case hy8008 => (intro w hSw; (try dsimp only at hSw); go_simp; (try with_reducible rfl))
    try simp only [Act.put, List.setIfInBounds_toArray, List.set_cons_zero, List.set_cons_succ]
    refine wpAnyH_take (i := 8) (oi := { dst := some 29, op := Go.Op.load 9 (Go.Operand.tmp 28), type := 9, pos := _, after := #[{ on := 7, ground := Go.Ground.data }], guard := none }) (v := ?vv8009) rfl (by kernel_rfl) (by kernel_rfl) (by kernel_rfl) (fun _ _ _ h => h) (Or.inl ⟨by rfl, ?hy8009⟩) (by assumption) ?tk8009
    case hy8009 => (intro w hSw; (try dsimp only at hSw); go_simp; (try with_reducible rfl))
    try simp only [Act.put, List.setIfInBounds_toArray, List.set_cons_zero, List.set_cons_succ]
    refine wpAnyH_take (i := 9) (oi := { dst := some 30, op := Go.Op.lookup 75 (Go.Operand.tmp 27) (Go.Operand.tmp 29) true, type := 117, pos := _, after := #[{ on := 6, ground := Go.Ground.data }, { on := 8, ground := Go.Ground.data }], guard := none }) (v := ?vv8010) rfl (by kernel_rfl) (by kernel_rfl) (by kernel_rfl) (fun _ _ _ h => h) (Or.inl ⟨by rfl, ?hy8010⟩) (by assumption) ?tk8010
    case hy8010 => (intro w hSw; have hl7 := hlk w hSw.2.2.2; (try dsimp only at hSw); go_simp; (try with_reducible rfl))
    try simp only [Act.put, List.setIfInBounds_toArray, List.set_cons_zero, List.set_cons_succ]
    refine wpAnyH_take (i := 10) (oi := { dst := some 20, op := Go.Op.move (Go.Operand.tmp 30), type := 117, pos := _, after := #[{ on := 9, ground := Go.Ground.data }], guard := none }) (v := ?vv8011) rfl (by kernel_rfl) (by kernel_rfl) (by kernel_rfl) (fun _ _ _ h => h) (Or.inl ⟨by rfl, ?hy8011⟩) (by assumption) ?tk8011
    case hy8011 => (intro w hSw; (try dsimp only at hSw); go_simp; (try with_reducible rfl))
    try simp only [Act.put, List.setIfInBounds_toArray, List.set_cons_zero, List.set_cons_succ]
    refine wpAnyH_take (i := 11) (oi := { dst := some 31, op := Go.Op.extract (Go.Operand.tmp 20) 0, type := 99, pos := _, after := #[{ on := 10, ground := Go.Ground.data }], guard := none }) (v := ?vv8012) rfl (by kernel_rfl) (by kernel_rfl) (by kernel_rfl) (fun _ _ _ h => h) (Or.inl ⟨by rfl, ?hy8012⟩) (by assumption) ?tk8012
    case hy8012 => (intro w hSw; (try dsimp only at hSw); go_simp; (try with_reducible rfl))
    try simp only [Act.put, List.setIfInBounds_toArray, List.set_cons_zero, List.set_cons_succ]
    refine wpAnyH_take (i := 12) (oi := { dst := some 32, op := Go.Op.extract (Go.Operand.tmp 20) 1, type := 4, pos := _, after := #[{ on := 10, ground := Go.Ground.data }, { on := 13, ground := Go.Ground.gcOnly Go.Departure.lateStores }], guard := none }) (v := ?vv8013) rfl (by kernel_rfl) (by kernel_rfl) (by kernel_rfl) (fun _ _ _ h => h) (Or.inl ⟨by rfl, ?hy8013⟩) (by assumption) ?tk8013
    case hy8013 => (intro w hSw; (try dsimp only at hSw); go_simp; (try with_reducible rfl))
    try simp only [Act.put, List.setIfInBounds_toArray, List.set_cons_zero, List.set_cons_succ]
    refine wpAnyH_take (i := 13) (oi := { dst := some 8, op := Go.Op.assign (Go.Operand.tmp 31), type := 99, pos := _, after := #[{ on := 11, ground := Go.Ground.data }, { on := 0, ground := Go.Ground.phase }, { on := 1, ground := Go.Ground.phase }, { on := 2, ground := Go.Ground.phase }, { on := 3, ground := Go.Ground.phase }, { on := 4, ground := Go.Ground.phase }, { on := 5, ground := Go.Ground.phase }, { on := 6, ground := Go.Ground.phase }, { on := 7, ground := Go.Ground.phase }, { on := 8, ground := Go.Ground.phase }, { on := 9, ground := Go.Ground.phase }, { on := 10, ground := Go.Ground.phase }, { on := 11, ground := Go.Ground.phase }, { on := 12, ground := Go.Ground.textOnly Go.Departure.lateStores }], guard := none }) (v := ?vv8014) rfl (by kernel_rfl) (by kernel_rfl) (by kernel_rfl) (fun _ _ _ h => h) (Or.inl ⟨by rfl, ?hy8014⟩) (by assumption) ?tk8014
    case hy8014 => (intro w hSw; (try dsimp only at hSw); go_simp; (try with_reducible rfl))
    try simp only [Act.put, List.setIfInBounds_toArray, List.set_cons_zero, List.set_cons_succ]
    refine wpAnyH_take (i := 14) (oi := { dst := some 9, op := Go.Op.assign (Go.Operand.tmp 32), type := 4, pos := _, after := #[{ on := 12, ground := Go.Ground.data }, { on := 13, ground := Go.Ground.chain }, { on := 0, ground := Go.Ground.phase }, { on := 1, ground := Go.Ground.phase }, { on := 2, ground := Go.Ground.phase }, { on := 3, ground := Go.Ground.phase }, { on := 4, ground := Go.Ground.phase }, { on := 5, ground := Go.Ground.phase }, { on := 6, ground := Go.Ground.phase }, { on := 7, ground := Go.Ground.phase }, { on := 8, ground := Go.Ground.phase }, { on := 9, ground := Go.Ground.phase }, { on := 10, ground := Go.Ground.phase }, { on := 11, ground := Go.Ground.phase }, { on := 12, ground := Go.Ground.phase }, { on := 13, ground := Go.Ground.phase }], guard := none }) (v := ?vv8015) rfl (by kernel_rfl) (by kernel_rfl) (by kernel_rfl) (fun _ _ _ h => h) (Or.inl ⟨by rfl, ?hy8015⟩) (by assumption) ?tk8015
    case hy8015 => (intro w hSw; (try dsimp only at hSw); go_simp; (try with_reducible rfl))
    try simp only [Act.put, List.setIfInBounds_toArray, List.set_cons_zero, List.set_cons_succ]
    refine wpAnyH_done (by kernel_rfl) ?_ _
    go_wp2
    go_meet
    case rel => exact ⟨rfl, rfl, HAF.out.below (below_dr (Below.refl _ _)), hideIt (below_dr HBB2.out)⟩
  case rest =>
  clear AF HBB2
  obtain ⟨rfl, rfl, AF, HBB2⟩ := hcut
  go_upto_region 6 with fail
  go_cut [43] (fun a43 wd => a43 = .bool false ∧ AtF wd CB E nb rb n p4 p6 nm p c ∧ Hid (Below w.heap.size w wd))
  case first =>
    have d1 := AF.d1
    have r1 := AF.r1
    have HAF := hideIt AF
    clear AF
    refine wp_region_held_drew (S := (fun w' => w'.cell? ⟨p4, 1, none⟩ = some (.slice p n c) ∧ w'.cell? ⟨rb, 1, none⟩ = some (.int .i64 (n : Int)))) (by kernel_rfl) ⟨d1, r1⟩ (fun hHeld => ?_)
    refine wpAnyH_take (i := 0) (oi := { dst := some 36, op := Go.Op.fieldAddr 34 (Go.Operand.tmp 4) 1, type := 0, pos := _, after := #[], guard := none }) (v := ?vv8016) rfl (by kernel_rfl) (by kernel_rfl) (by kernel_rfl) (fun _ _ _ h => h) (Or.inl ⟨by rfl, ?hy8016⟩) (by assumption) ?tk8016
    case hy8016 => (intro w hSw; (try dsimp only at hSw); go_simp; (try with_reducible rfl))
    try simp only [Act.put, List.setIfInBounds_toArray, List.set_cons_zero, List.set_cons_succ]
    refine wpAnyH_take (i := 1) (oi := { dst := some 37, op := Go.Op.load 30 (Go.Operand.tmp 36), type := 30, pos := _, after := #[{ on := 0, ground := Go.Ground.data }], guard := none }) (v := ?vv8017) rfl (by kernel_rfl) (by kernel_rfl) (by kernel_rfl) (fun _ _ _ h => h) (Or.inl ⟨by rfl, ?hy8017⟩) (by assumption) ?tk8017
    case hy8017 => (intro w hSw; (try dsimp only at hSw); go_simp; (try with_reducible rfl))
    try simp only [Act.put, List.setIfInBounds_toArray, List.set_cons_zero, List.set_cons_succ]
    refine wpAnyH_take (i := 2) (oi := { dst := some 38, op := Go.Op.call { callee := Go.Callee.builtin Go.Builtin.len, args := #[Go.Operand.tmp 37], argTypes := #[30] }, type := 3, pos := _, after := #[{ on := 1, ground := Go.Ground.data }], guard := none }) (v := ?vv8018) rfl (by kernel_rfl) (by kernel_rfl) (by kernel_rfl) (fun _ _ _ h => h) (Or.inl ⟨by rfl, ?hy8018⟩) (by assumption) ?tk8018
    case hy8018 => (intro w hSw; (try dsimp only at hSw); go_simp; (try with_reducible rfl))
    try simp only [Act.put, List.setIfInBounds_toArray, List.set_cons_zero, List.set_cons_succ]
    refine wpAnyH_take (i := 3) (oi := { dst := some 39, op := Go.Op.move (Go.Operand.tmp 8), type := 99, pos := _, after := #[], guard := none }) (v := ?vv8019) rfl (by kernel_rfl) (by kernel_rfl) (by kernel_rfl) (fun _ _ _ h => h) (Or.inl ⟨by rfl, ?hy8019⟩) (by assumption) ?tk8019
    case hy8019 => (intro w hSw; (try dsimp only at hSw); go_simp; (try with_reducible rfl))
    try simp only [Act.put, List.setIfInBounds_toArray, List.set_cons_zero, List.set_cons_succ]
    refine wpAnyH_take (i := 4) (oi := { dst := some 40, op := Go.Op.nilCheck (Go.Operand.tmp 39), type := 0, pos := _, after := #[{ on := 3, ground := Go.Ground.data }], guard := none }) (v := ?vv8020) rfl (by kernel_rfl) (by kernel_rfl) (by kernel_rfl) (fun _ _ _ h => h) (Or.inl ⟨by rfl, ?hy8020⟩) (by assumption) ?tk8020
    case hy8020 => (intro w hSw; (try dsimp only at hSw); go_simp; (try with_reducible rfl))
    try simp only [Act.put, List.setIfInBounds_toArray, List.set_cons_zero, List.set_cons_succ]
    refine wpAnyH_take (i := 5) (oi := { dst := some 41, op := Go.Op.fieldAddr 98 (Go.Operand.tmp 40) 1, type := 0, pos := _, after := #[{ on := 4, ground := Go.Ground.data }], guard := none }) (v := ?vv8021) rfl (by kernel_rfl) (by kernel_rfl) (by kernel_rfl) (fun _ _ _ h => h) (Or.inl ⟨by rfl, ?hy8021⟩) (by assumption) ?tk8021
    case hy8021 => (intro w hSw; (try dsimp only at hSw); go_simp; (try with_reducible rfl))
    try simp only [Act.put, List.setIfInBounds_toArray, List.set_cons_zero, List.set_cons_succ]
    refine wpAnyH_take (i := 6) (oi := { dst := some 42, op := Go.Op.load 3 (Go.Operand.tmp 41), type := 3, pos := _, after := #[{ on := 5, ground := Go.Ground.data }], guard := none }) (v := ?vv8022) rfl (by kernel_rfl) (by kernel_rfl) (by kernel_rfl) (fun _ _ _ h => h) (Or.inl ⟨by rfl, ?hy8022⟩) (by assumption) ?tk8022
    case hy8022 => (intro w hSw; (try dsimp only at hSw); go_simp; (try with_reducible rfl))
    try simp only [Act.put, List.setIfInBounds_toArray, List.set_cons_zero, List.set_cons_succ]
    refine wpAnyH_take (i := 7) (oi := { dst := some 43, op := Go.Op.binOp Go.BinOp.neq 3 (Go.Operand.tmp 38) (Go.Operand.tmp 42) 3, type := 4, pos := _, after := #[{ on := 2, ground := Go.Ground.data }, { on := 6, ground := Go.Ground.data }], guard := none }) (v := ?vv8023) rfl (by kernel_rfl) (by kernel_rfl) (by kernel_rfl) (fun _ _ _ h => h) (Or.inl ⟨by rfl, ?hy8023⟩) (by assumption) ?tk8023
    case hy8023 => (intro w hSw; (try dsimp only at hSw); go_simp; (try with_reducible rfl))
    try simp only [Act.put, List.setIfInBounds_toArray, List.set_cons_zero, List.set_cons_succ]
    refine wpAnyH_done (by kernel_rfl) ?_ _
    go_wp2
    go_meet
    case rel => exact ⟨rfl, HAF.out.below (below_dr (Below.refl _ _)), hideIt (below_dr HBB2.out)⟩
  case rest =>
  clear AF HBB2
  obtain ⟨rfl, AF, HBB2⟩ := hcut
  obtain ⟨HC, HM, HT, _⟩ := HQ.out
  have hops := operands_any (HC.blk (HBB2.out.block CB hcl)) (HT.below HBB2.out) (HM.below HBB2.out) HF.out hCm HVM.out hn hk
  have d1 := AF.d1
  have HAF := hideIt AF
  clear AF HC HM HT
  go_wp2_with fail
  refine hops.mono ?_
  rintro e w5 ⟨v', rfl, HO, ho, HM5, W5⟩
  have hs5 := W5.size
  have hp6l : p6 < wc.heap.size := World.block_lt_of_cell? _ _ HAF.out.z0
  have hp6m : p6 ≠ mb := by have := HP4.out; omega
  have e6b := W5.block p6 hp6l hp6m
  have z0 := (World.cell?_of_block (a := ⟨p6, 0, none⟩) e6b).trans HAF.out.z0
  have z1 := (World.cell?_of_block (a := ⟨p6, 1, none⟩) e6b).trans HAF.out.z1
  have z2 := (World.cell?_of_block (a := ⟨p6, 2, none⟩) e6b).trans HAF.out.z2
  have zf : ∀ o, w5.frozen? ⟨p6, o, none⟩ = false := fun o => (World.frozen?_of_block (a := ⟨p6, o, none⟩) e6b).trans (HAF.out.zf o)
  obtain ⟨pv, cv, hv'⟩ : ∃ pv cv, v' = .slice pv n cv := by
    obtain ⟨pv, cv, e, _⟩ := HO
    exact ⟨pv, cv, e⟩
  subst hv'
  have HR := hideIt (And.intro HO (And.intro ho (And.intro HM5 W5)))
  clear hops HO ho HM5 W5 d1 e6b
  go_wp2
  refine bodyPost_ret (v := .tuple #[.agg #[.pointer (some ⟨rb, 0, none⟩), .slice pv n cv, .int .i64 lit], .int .u8 0]) ?_ rfl ?_
  · rw [results_cell_tmp rfl]
    go_simp
  · obtain ⟨HO, ho, HM5, W5⟩ := HR.out
    have hp4 := HP4.out
    have hsb := HBB2.out.size
    have far3 : ∀ q, q ≠ p6 → (((w5.setCell ⟨p6, 0, none⟩ (.pointer (some ⟨rb, 0, none⟩))).setCell ⟨p6, 1, none⟩ (.slice pv n cv)).setCell ⟨p6, 2, none⟩ (.int .i64 lit)).heap[q]? = w5.heap[q]? := fun q hq => (far_set hq).trans ((far_set hq).trans (far_set hq))
    refine ⟨_, rfl, HO.keep (fun q hq _ => far3 q ?_), ⟨_, ho, hsb⟩, HM5.blk (far3 mb (fun z => hp6m z.symm)), ((((Wr.of_below HBB2.out).trans W5).other (by omega)).other (by omega)).other (by omega)⟩
    rw [ho] at hq
    have : wc.heap.size = q := Option.some.inj hq
    omega
end Go.Proofs.Qxb6500880aGreat
