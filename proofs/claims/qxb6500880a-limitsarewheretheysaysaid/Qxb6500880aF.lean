import Derived.Deep.CutBlock
import Derived.OwnWalk
import Derived.Maps.AppendAt
import Derived.Laws.AppendOwnNone
import Derived.Test.Qxb6500880aE
set_option linter.unusedVariables false
set_option linter.unusedSimpArgs false
namespace Go.Proofs.Qxb6500880a
open Go.RowKit

theorem SymZ.wr {w w' : World} {v : Value} {n b : Nat} (h : SymZ w v n) (hv : v.ownBlock ≠ some b) (W : Wr b w w') : SymZ w' v n := by
  obtain ⟨p, c, rfl, hc, h⟩ := h
  refine ⟨p, c, rfl, hc, ?_⟩
  rcases h with h | ⟨g, off, rfl, h⟩
  · exact .inl h
  · refine .inr ⟨g, off, rfl, fun j hj => ?_⟩
    have hl : g < w.heap.size := World.block_lt_of_cell? _ _ (h j hj)
    exact (World.cell?_of_block (a := ⟨g, off + j, none⟩) (W.block g hl (fun e => hv (by rw [e]; rfl)))).trans (h j hj)
theorem SlotAt.wr {w w' : World} {v : Value} {f : Nat → Int} {b : Nat} (h : SlotAt w v f) (hv : v.ownBlock ≠ some b) (W : Wr b w w') : SlotAt w' v f := by
  obtain ⟨g, rfl, h, fz⟩ := h
  have hl : g < w.heap.size := World.block_lt_of_cell? _ _ (h 0 (by omega))
  have hb := W.block g hl (fun e => hv (by rw [e]; rfl))
  exact ⟨g, rfl, fun j hj => (World.cell?_of_block (a := ⟨g, j, none⟩) hb).trans (h j hj), fun o => (World.frozen?_of_block (a := ⟨g, o, none⟩) hb).trans (fz o)⟩
theorem SymZ.of_own {w : World} {base n : Nat} {v : Value} (h : w.ownsRow base 99 1 v n (List.replicate n (.int .u32 0))) : SymZ w v n := by
  have hc := fun g e => World.ownsRow.cells (g := g) h e
  rcases h.2 with ⟨e1, e2⟩ | ⟨g, cap, cur, e1, _, _, r⟩
  · exact ⟨none, 0, by rw [e1, e2], by omega, .inl e2⟩
  · refine ⟨_, cap, e1, r.1, .inr ⟨g, 0, rfl, fun j hj => ?_⟩⟩
    have := hc g (by rw [e1]; rfl) j (.int .u32 0) (by rw [List.getElem?_replicate, if_pos hj])
    rw [Nat.zero_add]
    by_cases q : j = 0
    · subst q; simpa [Addr.add] using this
    · simpa [Addr.add, q] using this
/-- A row of n symbols, all zero, that is nil if it is empty. -/
def RowZ (w : World) (v : Value) (n : Nat) : Prop := (n = 0 ∧ v = .slice none 0 0) ∨ (0 < n ∧ ∃ g off c, v = .slice (some ⟨g, off, none⟩) n c ∧ n ≤ c ∧ ∀ j, j < n → w.cell? ⟨g, off + j, none⟩ = some (.int .u32 0))
theorem RowZ.sym {w : World} {v : Value} {n : Nat} (h : RowZ w v n) : SymZ w v n := by
  rcases h with ⟨rfl, rfl⟩ | ⟨_, g, off, c, rfl, hc, h⟩
  · exact ⟨none, 0, rfl, Nat.le_refl _, .inl rfl⟩
  · exact ⟨_, c, rfl, hc, .inr ⟨g, off, rfl, h⟩⟩
theorem RowZ.wr {w w' : World} {v : Value} {n b : Nat} (h : RowZ w v n) (hv : v.ownBlock ≠ some b) (W : Wr b w w') : RowZ w' v n := by
  rcases h with h | ⟨h0, g, off, c, rfl, hc, h⟩
  · exact .inl h
  · refine .inr ⟨h0, g, off, c, rfl, hc, fun j hj => ?_⟩
    have hl : g < w.heap.size := World.block_lt_of_cell? _ _ (h j hj)
    exact (World.cell?_of_block (a := ⟨g, off + j, none⟩) (W.block g hl (fun e => hv (by rw [e]; rfl)))).trans (h j hj)
theorem slot_put {w : World} {g sz : Nat} (h : SlotAt w (.slice (some ⟨g, 0, none⟩) 16 16) (fun _ => 0)) (hsz : sz < 16) : SlotAt (w.setCell ⟨g, sz, none⟩ (.int .i32 1)) (.slice (some ⟨g, 0, none⟩) 16 16) (fun j => if j = sz then 1 else 0) := by
  obtain ⟨g', e, h, fz⟩ := h
  simp only [Value.slice.injEq, Option.some.injEq, Addr.mk.injEq] at e
  obtain ⟨⟨rfl, _⟩, _⟩ := e
  refine ⟨g, rfl, fun j hj => ?_, fun o => (World.frozen?_setCell _ _ _ _).trans (fz o)⟩
  by_cases q : j = sz
  · subst q
    show _ = some (Value.int .i32 (if j = j then 1 else 0))
    rw [if_pos rfl]
    exact World.cell?_setCell_same _ _ _ (h j hj)
  · show _ = some (Value.int .i32 (if j = sz then 1 else 0))
    rw [if_neg q, World.cell?_setCell_other _ _ _ _ (by simp <;> omega)]
    exact h j hj
theorem cell_new_i32 (w : World) (pr : Int) : ∀ j u, ([Value.int .i32 pr] : List Value)[j]? = some u → (w.alloc (.cells #[.int .i32 pr] 21)).cell? ((⟨w.heap.size, 0, none⟩ : Addr).add j) = some u := by
  intro j u h
  match j, h with
  | 0, h => simp at h; subst h; simp [Addr.add]
  | j + 1, h => simp at h
theorem Wr.other {b g : Nat} {w w1 : World} (h : Wr b w w1) {o : Nat} {v : Value} (hg : w.heap.size ≤ g) : Wr b w (w1.setCell ⟨g, o, none⟩ v) := ⟨h.os, h.tape, h.output, by simpa using h.size, fun q h1 h2 => (far_set (by omega)).trans (h.block q h1 h2)⟩
set_option maxRecDepth 20000 in
set_option maxHeartbeats 8000000 in
theorem insert_new {w : World} {b n : Nat} {nm : ByteArray} {s : RelS} {v : Value} (H : RelAt w b nm s) (h0 : s.rows = 0) (hd : s.data = .slice none 0 0) (hs : s.slots = .slice none 0 0) (hy : s.why = .slice none 0 0) (hv : RowZ w v n) (hvb : v.ownBlock ≠ some b) (hn : n ≤ 1000) (pr : Int) :
    Calls Try.prog 30 #[.pointer (some ⟨b, 0, none⟩), v, .int .i32 pr] w fun e w' => e = .returned (.bool true) ∧ (∃ d sv wy, RelAt w' b nm { s with rows := 1, data := d, slots := sv, why := wy } ∧ SymZ w' d n ∧ SlotAt w' sv (fun j => if j = slotZ n then 1 else 0) ∧ (d.ownBlock ≠ some b ∧ sv.ownBlock ≠ some b ∧ (∀ q, d.ownBlock = some q → w.heap.size ≤ q) ∧ ∀ q, sv.ownBlock = some q → w.heap.size ≤ q)) ∧ Wr b w w' := by
  obtain ⟨i9, hi9, hx0, hx1, hx2⟩ := info_parts info99
  obtain ⟨i2, hi2, hy0, hy1, hy2⟩ := info_parts info21
  have h4 := H.ro
  have h5 := H.sl
  rw [h0] at h4
  rw [hs] at h5
  have hb := H.lt
  have hreh := rehash_new (w := World.drew w) H.drew h0 hs
  have HV := hideIt hv
  have HVB := hideIt hvb
  have HD := hideIt hd
  have HY := hideIt hy
  have HS0 := hideIt h0
  have hw1 : IntKind.i64.wrap 1 = 1 := rfl
  have hw4 : IntKind.i64.wrap 4 = 4 := rfl
  have hw0 : IntKind.i64.wrap 0 = 0 := rfl
  clear H h0 hs hd hy hv hvb
  obtain ⟨pv, pn, pc, rfl⟩ : ∃ pv pn pc, v = .slice pv pn pc := by
    obtain ⟨p, c, e, _⟩ := HV.out.sym
    exact ⟨p, n, c, e⟩
  go_enter Try.func30, Try.ntmps30
  go_upto_region 1 with fail
  refine wp_region_held_drew (S := (fun w' => w'.cell? ⟨b, 4, none⟩ = some (.int .i64 0) ∧ w'.cell? ⟨b, 5, none⟩ = some (.slice none 0 0))) (by kernel_rfl) ⟨h4, h5⟩ (fun hHeld => ?_)
  refine wpAnyH_take (i := 0) (oi := { dst := some 9, op := Go.Op.move (Go.Operand.tmp 0), type := 89, pos := _, after := #[], guard := none }) (v := ?vv4001) rfl (by kernel_rfl) (by kernel_rfl) (by kernel_rfl) (fun _ _ _ h => h) (Or.inl ⟨by rfl, ?hy4001⟩) (by assumption) ?tk4001
  case hy4001 => (intro w hSw; (try dsimp only at hSw); go_simp; (try with_reducible rfl))
  try simp only [Act.put, List.setIfInBounds_toArray, List.set_cons_zero, List.set_cons_succ]
  refine wpAnyH_take (i := 1) (oi := { dst := some 10, op := Go.Op.nilCheck (Go.Operand.tmp 9), type := 0, pos := _, after := #[{ on := 0, ground := Go.Ground.data }], guard := none }) (v := ?vv4002) rfl (by kernel_rfl) (by kernel_rfl) (by kernel_rfl) (fun _ _ _ h => h) (Or.inl ⟨by rfl, ?hy4002⟩) (by assumption) ?tk4002
  case hy4002 => (intro w hSw; (try dsimp only at hSw); go_simp; (try with_reducible rfl))
  try simp only [Act.put, List.setIfInBounds_toArray, List.set_cons_zero, List.set_cons_succ]
  refine wpAnyH_take (i := 2) (oi := { dst := some 11, op := Go.Op.fieldAddr 88 (Go.Operand.tmp 10) 4, type := 0, pos := _, after := #[{ on := 1, ground := Go.Ground.data }], guard := none }) (v := ?vv4003) rfl (by kernel_rfl) (by kernel_rfl) (by kernel_rfl) (fun _ _ _ h => h) (Or.inl ⟨by rfl, ?hy4003⟩) (by assumption) ?tk4003
  case hy4003 => (intro w hSw; (try dsimp only at hSw); go_simp; (try with_reducible rfl))
  try simp only [Act.put, List.setIfInBounds_toArray, List.set_cons_zero, List.set_cons_succ]
  refine wpAnyH_take (i := 3) (oi := { dst := some 12, op := Go.Op.load 3 (Go.Operand.tmp 11), type := 3, pos := _, after := #[{ on := 2, ground := Go.Ground.data }], guard := none }) (v := ?vv4004) rfl (by kernel_rfl) (by kernel_rfl) (by kernel_rfl) (fun _ _ _ h => h) (Or.inl ⟨by rfl, ?hy4004⟩) (by assumption) ?tk4004
  case hy4004 => (intro w hSw; (try dsimp only at hSw); go_simp; (try with_reducible rfl))
  try simp only [Act.put, List.setIfInBounds_toArray, List.set_cons_zero, List.set_cons_succ]
  refine wpAnyH_take (i := 4) (oi := { dst := some 13, op := Go.Op.binOp Go.BinOp.add 3 (Go.Operand.tmp 12) (Go.Operand.const (Go.Value.int Go.IntKind.i64 1)) 3, type := 3, pos := _, after := #[{ on := 3, ground := Go.Ground.data }], guard := none }) (v := ?vv4005) rfl (by kernel_rfl) (by kernel_rfl) (by kernel_rfl) (fun _ _ _ h => h) (Or.inl ⟨by rfl, ?hy4005⟩) (by assumption) ?tk4005
  case hy4005 => (intro w hSw; (try dsimp only at hSw); go_simp; (try with_reducible rfl))
  try simp only [Act.put, List.setIfInBounds_toArray, List.set_cons_zero, List.set_cons_succ]
  refine wpAnyH_take (i := 5) (oi := { dst := some 14, op := Go.Op.binOp Go.BinOp.mul 3 (Go.Operand.const (Go.Value.int Go.IntKind.i64 4)) (Go.Operand.tmp 13) 3, type := 3, pos := _, after := #[{ on := 4, ground := Go.Ground.data }], guard := none }) (v := ?vv4006) rfl (by kernel_rfl) (by kernel_rfl) (by kernel_rfl) (fun _ _ _ h => h) (Or.inl ⟨by rfl, ?hy4006⟩) (by assumption) ?tk4006
  case hy4006 => (intro w hSw; (try dsimp only at hSw); go_simp; (try with_reducible rfl))
  try simp only [Act.put, List.setIfInBounds_toArray, List.set_cons_zero, List.set_cons_succ]
  refine wpAnyH_take (i := 6) (oi := { dst := some 15, op := Go.Op.move (Go.Operand.tmp 0), type := 89, pos := _, after := #[], guard := none }) (v := ?vv4007) rfl (by kernel_rfl) (by kernel_rfl) (by kernel_rfl) (fun _ _ _ h => h) (Or.inl ⟨by rfl, ?hy4007⟩) (by assumption) ?tk4007
  case hy4007 => (intro w hSw; (try dsimp only at hSw); go_simp; (try with_reducible rfl))
  try simp only [Act.put, List.setIfInBounds_toArray, List.set_cons_zero, List.set_cons_succ]
  refine wpAnyH_take (i := 7) (oi := { dst := some 16, op := Go.Op.nilCheck (Go.Operand.tmp 15), type := 0, pos := _, after := #[{ on := 6, ground := Go.Ground.data }], guard := none }) (v := ?vv4008) rfl (by kernel_rfl) (by kernel_rfl) (by kernel_rfl) (fun _ _ _ h => h) (Or.inl ⟨by rfl, ?hy4008⟩) (by assumption) ?tk4008
  case hy4008 => (intro w hSw; (try dsimp only at hSw); go_simp; (try with_reducible rfl))
  try simp only [Act.put, List.setIfInBounds_toArray, List.set_cons_zero, List.set_cons_succ]
  refine wpAnyH_take (i := 8) (oi := { dst := some 17, op := Go.Op.fieldAddr 88 (Go.Operand.tmp 16) 5, type := 0, pos := _, after := #[{ on := 7, ground := Go.Ground.data }], guard := none }) (v := ?vv4009) rfl (by kernel_rfl) (by kernel_rfl) (by kernel_rfl) (fun _ _ _ h => h) (Or.inl ⟨by rfl, ?hy4009⟩) (by assumption) ?tk4009
  case hy4009 => (intro w hSw; (try dsimp only at hSw); go_simp; (try with_reducible rfl))
  try simp only [Act.put, List.setIfInBounds_toArray, List.set_cons_zero, List.set_cons_succ]
  refine wpAnyH_take (i := 9) (oi := { dst := some 18, op := Go.Op.load 69 (Go.Operand.tmp 17), type := 69, pos := _, after := #[{ on := 8, ground := Go.Ground.data }], guard := none }) (v := ?vv4010) rfl (by kernel_rfl) (by kernel_rfl) (by kernel_rfl) (fun _ _ _ h => h) (Or.inl ⟨by rfl, ?hy4010⟩) (by assumption) ?tk4010
  case hy4010 => (intro w hSw; (try dsimp only at hSw); go_simp; (try with_reducible rfl))
  try simp only [Act.put, List.setIfInBounds_toArray, List.set_cons_zero, List.set_cons_succ]
  refine wpAnyH_take (i := 10) (oi := { dst := some 19, op := Go.Op.call { callee := Go.Callee.builtin Go.Builtin.len, args := #[Go.Operand.tmp 18], argTypes := #[69] }, type := 3, pos := _, after := #[{ on := 9, ground := Go.Ground.data }], guard := none }) (v := ?vv4011) rfl (by kernel_rfl) (by kernel_rfl) (by kernel_rfl) (fun _ _ _ h => h) (Or.inl ⟨by rfl, ?hy4011⟩) (by assumption) ?tk4011
  case hy4011 => (intro w hSw; (try dsimp only at hSw); go_simp; (try with_reducible rfl))
  try simp only [Act.put, List.setIfInBounds_toArray, List.set_cons_zero, List.set_cons_succ]
  refine wpAnyH_take (i := 11) (oi := { dst := some 20, op := Go.Op.binOp Go.BinOp.mul 3 (Go.Operand.const (Go.Value.int Go.IntKind.i64 3)) (Go.Operand.tmp 19) 3, type := 3, pos := _, after := #[{ on := 10, ground := Go.Ground.data }], guard := none }) (v := ?vv4012) rfl (by kernel_rfl) (by kernel_rfl) (by kernel_rfl) (fun _ _ _ h => h) (Or.inl ⟨by rfl, ?hy4012⟩) (by assumption) ?tk4012
  case hy4012 => (intro w hSw; (try dsimp only at hSw); go_simp; (try with_reducible rfl))
  try simp only [Act.put, List.setIfInBounds_toArray, List.set_cons_zero, List.set_cons_succ]
  refine wpAnyH_take (i := 12) (oi := { dst := some 21, op := Go.Op.binOp Go.BinOp.gtr 3 (Go.Operand.tmp 14) (Go.Operand.tmp 20) 3, type := 4, pos := _, after := #[{ on := 5, ground := Go.Ground.data }, { on := 11, ground := Go.Ground.data }], guard := none }) (v := ?vv4013) rfl (by kernel_rfl) (by kernel_rfl) (by kernel_rfl) (fun _ _ _ h => h) (Or.inl ⟨by rfl, ?hy4013⟩) (by assumption) ?tk4013
  case hy4013 => (intro w hSw; (try dsimp only at hSw); go_simp; (try with_reducible rfl))
  try simp only [Act.put, List.setIfInBounds_toArray, List.set_cons_zero, List.set_cons_succ]
  refine wpAnyH_done (by kernel_rfl) ?_ _
  go_wp2_with fail
  refine hreh.mono ?_
  rintro e w1 ⟨rfl, ⟨sv, H1, S1, o1⟩, W1⟩
  have W1 : Wr b w w1 := (Wr.refl b w).drew.trans W1
  have hsz1 := W1.size
  have svb : sv.ownBlock ≠ some b := by rw [o1]; simp; show ¬ (w.heap.size = b); omega
  have V1 := HV.out.wr HVB.out W1
  have hsk := seek_free H1 S1 rfl V1.sym hn
  have HQ := hideIt (And.intro H1 (And.intro S1 (And.intro W1 V1)))
  have HSVB := hideIt (And.intro svb o1)
  clear hreh H1 S1 W1 V1 h4 h5 svb o1
  go_wp2_with fail
  refine hsk.mono ?_
  rintro e w2 ⟨rfl, hw2⟩
  rw [hw2]
  clear hw2 hsk
  go_upto_region 6 with fail
  go_cut [] (fun wd => ∃ d, RelAt wd b nm { s with slots := sv, data := d } ∧ SymZ wd d n ∧ (d.ownBlock ≠ some b ∧ d.ownBlock ≠ some w.heap.size ∧ ∀ q, d.ownBlock = some q → w.heap.size ≤ q) ∧ SlotAt wd sv (fun _ => 0) ∧ Wr b w wd)
  case first =>
    have k3 := HQ.out.1.da
    rw [show ({ s with slots := sv } : RelS).data = .slice none 0 0 from HD.out] at k3
    have fz := HQ.out.1.fz
    rcases HQ.out.2.2.2 with ⟨hn0, ev⟩ | ⟨hn0, g, off, c, ev, hc, hz⟩
    · simp at ev
      obtain ⟨rfl, rfl, rfl⟩ := ev
      have HN0 := hideIt hn0
      clear hn0
      go_wp2_with (first | (at_builtin; refine wpList_append_own_none rfl (.tmp 35) (.tmp 36) 72 rfl w1.heap.size 99 i9 1 Try.underlying72 hi9 (.slice none 0 0) 0 [] rfl ⟨rfl, .inl ⟨rfl, rfl⟩⟩ rfl ?_) | go_in)
      go_meet
      case rel =>
        obtain ⟨H1, S1, W1, V1⟩ := HQ.out
        exact ⟨.slice none 0 0, H1.put_data _, ⟨none, 0, by rw [HN0.out], by have := HN0.out; omega, .inl HN0.out⟩, by simp [Value.ownBlock], S1.wr HSVB.out.1 ((Wr.refl b w1).set), W1.set⟩
    · simp at ev
      obtain ⟨rfl, rfl, rfl⟩ := ev
      have HZ := hideIt hz
      have hnw : ∀ j u, (List.replicate pn (Value.int .u32 0))[j]? = some u → w1.cell? ((⟨g, off, none⟩ : Addr).add j) = some u := fun j u hu => by
        rw [List.getElem?_replicate] at hu
        split at hu
        · rename_i hj
          simp at hu
          subst hu
          have := HZ.out j hj
          by_cases q : j = 0
          · subst q; simpa [Addr.add] using this
          · simpa [Addr.add, q] using this
        · simp at hu
      have HNW := hideIt hnw
      clear hnw hz
      go_wp2_with (first | (at_builtin; refine wpList_append_own_at _ rfl (.tmp 35) (.tmp 36) 72 rfl w1.heap.size 99 i9 (.int .u32 0) 1 4 Try.underlying72 hi9 hx0 hx1 hx2 rfl (by decide) (.slice none 0 0) 0 [] rfl ⟨rfl, .inl ⟨rfl, rfl⟩⟩ ⟨g, off, none⟩ pn pc (List.replicate pn (.int .u32 0)) rfl (by simp) HNW.out (by simp [Value.oneCell']) (by unfold maxLen; omega) (by omega) (Nat.le_refl _) ?_) | go_in)
      intro v' w2 hown hgrow hiff hblk
      have hb2 : Below w1.heap.size w1 w2 := ⟨hgrow.os, hgrow.tape, hgrow.output, hgrow.size, fun k hk => hgrow.block k hk (by simp [Value.ownBlock])⟩
      try rw [Nat.zero_add] at hown
      try rw [List.nil_append] at hown
      have Z2 := SymZ.of_own hown
      have H2 := HQ.out.1.below hb2
      have hvb2 : v'.ownBlock ≠ some b := fun q => by have := (hown.lt b q).1; have := HQ.out.1.lt; omega
      have hvg2 : v'.ownBlock ≠ some w.heap.size := fun q => by
        have h1 := (hown.lt _ q).1
        obtain ⟨g', e', hg', _⟩ := HQ.out.2.1
        have h2 : g' < w1.heap.size := World.block_lt_of_cell? _ _ (hg' 0 (by omega))
        have h3 := HSVB.out.2
        rw [e'] at h3
        simp [Value.ownBlock] at h3
        have h4 : g' = w.heap.size := h3
        omega
      have hvl2 : ∀ q, v'.ownBlock = some q → w.heap.size ≤ q := fun q hq => by have := (hown.lt q hq).1; have := HQ.out.2.2.1.size; omega
      have fz2 := H2.fz
      have kk3 := H2.da
      obtain ⟨p', c', rfl⟩ := own_shape hown
      have HQ2 := hideIt (And.intro H2 (And.intro Z2 (And.intro (And.intro hvb2 (And.intro hvg2 hvl2)) hb2)))
      clear hown hgrow hiff hblk H2 Z2 hvb2 hvg2 hvl2 hb2 k3 fz
      go_wp2
      go_meet
      case rel =>
        obtain ⟨H1, S1, W1, V1⟩ := HQ.out
        obtain ⟨H2, Z2, hvb2, hb2⟩ := HQ2.out
        exact ⟨_, H2.put_data _, Z2.wr hvb2.1 ((Wr.refl b w2).set), hvb2, (S1.below hb2).wr HSVB.out.1 ((Wr.refl b w2).set), (W1.below hb2).set⟩
  case rest =>
  clear HQ
  obtain ⟨d, H2, Z2, hdb, S2, W2⟩ := hcut
  have hlb := H2.lt
  have HQ := hideIt (And.intro H2 (And.intro Z2 (And.intro hdb (And.intro S2 W2))))
  clear H2 Z2 hdb S2 W2
  go_upto_region 7 with fail
  go_cut [] (fun wd => ∃ wy, RelAt wd b nm { s with slots := sv, data := d, why := wy } ∧ SymZ wd d n ∧ SlotAt wd sv (fun _ => 0) ∧ Wr b w wd)
  case first =>
    have k6 := HQ.out.1.wy
    rw [show ({ s with slots := sv, data := d } : RelS).why = .slice none 0 0 from HY.out] at k6
    have fz := HQ.out.1.fz
    have nb := cell_new_i32 wc pr
    go_wp2_with (first | (at_builtin; refine wpList_append_own_at _ rfl (.tmp 44) (.tmp 46) 69 rfl (wc.heap.size + 1) 21 i2 (.int .i32 0) 1 4 Try.underlying69 hi2 hy0 hy1 hy2 rfl (by decide) (.slice none 0 0) 0 [] rfl ⟨rfl, .inl ⟨rfl, rfl⟩⟩ ⟨wc.heap.size, 0, none⟩ 1 1 [.int .i32 pr] rfl (by simp) nb (by simp [Value.oneCell']) (by unfold maxLen; omega) (by omega) (by simp) ?_) | go_in)
    intro v' w2 hown hgrow hiff hblk
    have hb1 := one_alloc wc (.cells #[.int .i32 pr] 21)
    have hb2' : Below (wc.alloc (.cells #[.int .i32 pr] 21)).heap.size (wc.alloc (.cells #[.int .i32 pr] 21)) w2 := ⟨hgrow.os, hgrow.tape, hgrow.output, hgrow.size, fun k hk => hgrow.block k hk (by simp [Value.ownBlock])⟩
    have hb2 := then_ hb1 hb2'
    have H2 := HQ.out.1.below hb2
    have fz2 := H2.fz
    have kk6 := H2.wy
    obtain ⟨p', c', rfl⟩ := own_shape hown
    have HQ2 := hideIt (And.intro H2 hb2)
    clear hown hgrow hiff hblk H2 hb2 hb2' hb1 k6 fz nb
    go_wp2
    go_meet
    case rel =>
      obtain ⟨H1, Z1, hdb, S1, W1⟩ := HQ.out
      obtain ⟨H2, hb2⟩ := HQ2.out
      exact ⟨_, H2.put_why _, (Z1.below hb2).wr hdb.1 ((Wr.refl b w2).set), (S1.below hb2).wr HSVB.out.1 ((Wr.refl b w2).set), (W1.below hb2).set⟩
  case rest =>
  have HDB := hideIt HQ.out.2.2.1.1
  have HDG0 := hideIt HQ.out.2.2.1.2.1
  have HDL0 := hideIt HQ.out.2.2.1.2.2
  clear HQ
  obtain ⟨wy, H3, Z3, S3, W3⟩ := hcut
  have HQ := hideIt (And.intro H3 (And.intro Z3 (And.intro S3 W3)))
  clear H3 Z3 S3 W3
  go_upto_region 8 with fail
  go_cut [] (fun wd => RelAt wd b nm { s with slots := sv, data := d, why := wy, rows := 1 } ∧ SymZ wd d n ∧ SlotAt wd sv (fun _ => 0) ∧ Wr b w wd)
  case first =>
    have k4 := HQ.out.1.ro
    rw [show ({ s with slots := sv, data := d, why := wy } : RelS).rows = 0 from HS0.out] at k4
    have fz := HQ.out.1.fz
    go_wp2
    go_meet
    case rel =>
      obtain ⟨H3, Z3, S3, W3⟩ := HQ.out
      exact ⟨H3.put_rows 1, Z3.wr HDB.out ((Wr.refl b wc).set), S3.wr HSVB.out.1 ((Wr.refl b wc).set), W3.set⟩
  case rest =>
  clear HQ
  obtain ⟨H4, Z4, S4, W4⟩ := hcut
  obtain ⟨g, eg, _⟩ : ∃ g, sv = .slice (some ⟨g, 0, none⟩) 16 16 ∧ True := by
    obtain ⟨g, e, _⟩ := S4
    exact ⟨g, e, trivial⟩
  subst eg
  have h5 : wc.cell? ⟨b, 5, none⟩ = some (.slice (some ⟨g, 0, none⟩) 16 16) := H4.sl
  have h4 : wc.cell? ⟨b, 4, none⟩ = some (.int .i64 1) := H4.ro
  have eg : g = w.heap.size := by have := HSVB.out.2; simp [Value.ownBlock] at this; exact this
  have hlt := slotZ_lt n
  have hgz : wc.cell? ⟨g, slotZ n, none⟩ = some (.int .i32 0) := by
    obtain ⟨g', e, hg, _⟩ := S4
    simp only [Value.slice.injEq, Option.some.injEq, Addr.mk.injEq] at e
    obtain ⟨⟨rfl, _⟩, _⟩ := e
    exact hg _ hlt
  have fzg : ∀ o, wc.frozen? ⟨g, o, none⟩ = false := by
    obtain ⟨g', e, _, hf⟩ := S4
    simp only [Value.slice.injEq, Option.some.injEq, Addr.mk.injEq] at e
    obtain ⟨⟨rfl, _⟩, _⟩ := e
    exact hf
  have HQ := hideIt (And.intro H4 (And.intro Z4 (And.intro S4 W4)))
  clear H4 Z4 S4 W4
  obtain ⟨sz, HSZ⟩ : ∃ sz, Hid (slotZ n = sz) := ⟨_, hideIt rfl⟩
  rw [HSZ.out] at hlt hgz ⊢
  have z0 : (0 : Int) ≤ sz := by omega
  have z1 : (sz : Int) < 16 := by omega
  have hgb : b ≠ g := by omega
  have hgb' : g ≠ b := by omega
  have HDG : Hid (d.ownBlock ≠ some g) := hideIt (by rw [eg]; exact HDG0.out)
  have HEG := hideIt eg
  clear eg
  go_upto_region 9 with fail
  refine wp_region_l (l := 11) (S := (fun w' => w'.cell? ⟨b, 5, none⟩ = some (.slice (some ⟨g, 0, none⟩) 16 16) ∧ w'.cell? ⟨b, 4, none⟩ = some (.int .i64 1))) (by kernel_rfl) ⟨h5, h4⟩ (fun hHeld => ?_)
  refine AnyL.take2 (i := 0) (oi := { dst := some 57, op := Go.Op.move (Go.Operand.tmp 0), type := 89, pos := _, after := #[], guard := none }) (v := ?vv4014) (by kernel_rfl) (by kernel_rfl) rfl (by kernel_rfl) (by kernel_rfl) (by kernel_rfl) (fun _ _ _ h => h) (Or.inl ⟨by rfl, ?hy4014⟩) (by assumption) ?tk4014
  case hy4014 => (intro w hSw; (try dsimp only at hSw); go_simp; (try with_reducible rfl))
  try simp only [Act.put, List.setIfInBounds_toArray, List.set_cons_zero, List.set_cons_succ]
  refine AnyL.take2 (i := 1) (oi := { dst := some 58, op := Go.Op.nilCheck (Go.Operand.tmp 57), type := 0, pos := _, after := #[{ on := 0, ground := Go.Ground.data }], guard := none }) (v := ?vv4015) (by kernel_rfl) (by kernel_rfl) rfl (by kernel_rfl) (by kernel_rfl) (by kernel_rfl) (fun _ _ _ h => h) (Or.inl ⟨by rfl, ?hy4015⟩) (by assumption) ?tk4015
  case hy4015 => (intro w hSw; (try dsimp only at hSw); go_simp; (try with_reducible rfl))
  try simp only [Act.put, List.setIfInBounds_toArray, List.set_cons_zero, List.set_cons_succ]
  refine AnyL.take2 (i := 2) (oi := { dst := some 59, op := Go.Op.fieldAddr 88 (Go.Operand.tmp 58) 5, type := 0, pos := _, after := #[{ on := 1, ground := Go.Ground.data }], guard := none }) (v := ?vv4016) (by kernel_rfl) (by kernel_rfl) rfl (by kernel_rfl) (by kernel_rfl) (by kernel_rfl) (fun _ _ _ h => h) (Or.inl ⟨by rfl, ?hy4016⟩) (by assumption) ?tk4016
  case hy4016 => (intro w hSw; (try dsimp only at hSw); go_simp; (try with_reducible rfl))
  try simp only [Act.put, List.setIfInBounds_toArray, List.set_cons_zero, List.set_cons_succ]
  refine AnyL.take2 (i := 3) (oi := { dst := some 60, op := Go.Op.load 69 (Go.Operand.tmp 59), type := 69, pos := _, after := #[{ on := 2, ground := Go.Ground.data }], guard := none }) (v := ?vv4017) (by kernel_rfl) (by kernel_rfl) rfl (by kernel_rfl) (by kernel_rfl) (by kernel_rfl) (fun _ _ _ h => h) (Or.inl ⟨by rfl, ?hy4017⟩) (by assumption) ?tk4017
  case hy4017 => (intro w hSw; (try dsimp only at hSw); go_simp; (try with_reducible rfl))
  try simp only [Act.put, List.setIfInBounds_toArray, List.set_cons_zero, List.set_cons_succ]
  refine AnyL.take2 (i := 4) (oi := { dst := some 61, op := Go.Op.move (Go.Operand.tmp 7), type := 3, pos := _, after := #[], guard := none }) (v := ?vv4018) (by kernel_rfl) (by kernel_rfl) rfl (by kernel_rfl) (by kernel_rfl) (by kernel_rfl) (fun _ _ _ h => h) (Or.inl ⟨by rfl, ?hy4018⟩) (by assumption) ?tk4018
  case hy4018 => (intro w hSw; (try dsimp only at hSw); go_simp; (try with_reducible rfl))
  try simp only [Act.put, List.setIfInBounds_toArray, List.set_cons_zero, List.set_cons_succ]
  refine AnyL.take2 (i := 5) (oi := { dst := some 62, op := Go.Op.move (Go.Operand.tmp 0), type := 89, pos := _, after := #[], guard := none }) (v := ?vv4019) (by kernel_rfl) (by kernel_rfl) rfl (by kernel_rfl) (by kernel_rfl) (by kernel_rfl) (fun _ _ _ h => h) (Or.inl ⟨by rfl, ?hy4019⟩) (by assumption) ?tk4019
  case hy4019 => (intro w hSw; (try dsimp only at hSw); go_simp; (try with_reducible rfl))
  try simp only [Act.put, List.setIfInBounds_toArray, List.set_cons_zero, List.set_cons_succ]
  refine AnyL.take2 (i := 6) (oi := { dst := some 63, op := Go.Op.nilCheck (Go.Operand.tmp 62), type := 0, pos := _, after := #[{ on := 5, ground := Go.Ground.data }], guard := none }) (v := ?vv4020) (by kernel_rfl) (by kernel_rfl) rfl (by kernel_rfl) (by kernel_rfl) (by kernel_rfl) (fun _ _ _ h => h) (Or.inl ⟨by rfl, ?hy4020⟩) (by assumption) ?tk4020
  case hy4020 => (intro w hSw; (try dsimp only at hSw); go_simp; (try with_reducible rfl))
  try simp only [Act.put, List.setIfInBounds_toArray, List.set_cons_zero, List.set_cons_succ]
  refine AnyL.take2 (i := 7) (oi := { dst := some 64, op := Go.Op.fieldAddr 88 (Go.Operand.tmp 63) 4, type := 0, pos := _, after := #[{ on := 6, ground := Go.Ground.data }], guard := none }) (v := ?vv4021) (by kernel_rfl) (by kernel_rfl) rfl (by kernel_rfl) (by kernel_rfl) (by kernel_rfl) (fun _ _ _ h => h) (Or.inl ⟨by rfl, ?hy4021⟩) (by assumption) ?tk4021
  case hy4021 => (intro w hSw; (try dsimp only at hSw); go_simp; (try with_reducible rfl))
  try simp only [Act.put, List.setIfInBounds_toArray, List.set_cons_zero, List.set_cons_succ]
  refine AnyL.take2 (i := 8) (oi := { dst := some 65, op := Go.Op.load 3 (Go.Operand.tmp 64), type := 3, pos := _, after := #[{ on := 7, ground := Go.Ground.data }], guard := none }) (v := ?vv4022) (by kernel_rfl) (by kernel_rfl) rfl (by kernel_rfl) (by kernel_rfl) (by kernel_rfl) (fun _ _ _ h => h) (Or.inl ⟨by rfl, ?hy4022⟩) (by assumption) ?tk4022
  case hy4022 => (intro w hSw; (try dsimp only at hSw); go_simp; (try with_reducible rfl))
  try simp only [Act.put, List.setIfInBounds_toArray, List.set_cons_zero, List.set_cons_succ]
  refine AnyL.take2 (i := 9) (oi := { dst := some 66, op := Go.Op.convert 3 21 (Go.Operand.tmp 65), type := 21, pos := _, after := #[{ on := 8, ground := Go.Ground.data }], guard := none }) (v := ?vv4023) (by kernel_rfl) (by kernel_rfl) rfl (by kernel_rfl) (by kernel_rfl) (by kernel_rfl) (fun _ _ _ h => h) (Or.inl ⟨by rfl, ?hy4023⟩) (by assumption) ?tk4023
  case hy4023 => (intro w hSw; (try dsimp only at hSw); go_simp; (try with_reducible rfl))
  try simp only [Act.put, List.setIfInBounds_toArray, List.set_cons_zero, List.set_cons_succ]
  refine AnyL.take2 (i := 10) (oi := { dst := some 67, op := Go.Op.indexAddr 69 (Go.Operand.tmp 60) (Go.Operand.tmp 61), type := 0, pos := _, after := #[{ on := 3, ground := Go.Ground.data }, { on := 4, ground := Go.Ground.data }, { on := 0, ground := Go.Ground.phase }, { on := 1, ground := Go.Ground.phase }, { on := 2, ground := Go.Ground.phase }, { on := 3, ground := Go.Ground.phase }, { on := 4, ground := Go.Ground.phase }, { on := 5, ground := Go.Ground.phase }, { on := 6, ground := Go.Ground.phase }, { on := 7, ground := Go.Ground.phase }, { on := 8, ground := Go.Ground.phase }, { on := 9, ground := Go.Ground.phase }], guard := none }) (v := ?vv4024) (by kernel_rfl) (by kernel_rfl) rfl (by kernel_rfl) (by kernel_rfl) (by kernel_rfl) (fun _ _ _ h => h) (Or.inl ⟨by rfl, ?hy4024⟩) (by assumption) ?tk4024
  case hy4024 => (intro w hSw; (try dsimp only at hSw); go_simp; (try with_reducible rfl))
  try simp only [Act.put, List.setIfInBounds_toArray, List.set_cons_zero, List.set_cons_succ]
  refine AnyL.last (o := { dst := none, op := Go.Op.store 21 (Go.Operand.tmp 67) (Go.Operand.tmp 66), type := 0, pos := _, after := #[{ on := 10, ground := Go.Ground.data }, { on := 9, ground := Go.Ground.data }, { on := 0, ground := Go.Ground.phase }, { on := 1, ground := Go.Ground.phase }, { on := 2, ground := Go.Ground.phase }, { on := 3, ground := Go.Ground.phase }, { on := 4, ground := Go.Ground.phase }, { on := 5, ground := Go.Ground.phase }, { on := 6, ground := Go.Ground.phase }, { on := 7, ground := Go.Ground.phase }, { on := 8, ground := Go.Ground.phase }, { on := 9, ground := Go.Ground.phase }], guard := none }) (by kernel_rfl) rfl (by kernel_rfl) (fun K' hK' => ?_)
  go_simp
  clear hHeld
  refine hK'.out _ _ ?_
  clear hK' K'
  try simp only [Act.put, List.setIfInBounds_toArray, List.set_cons_zero, List.set_cons_succ]
  go_wp2
  go_ret
  obtain ⟨H4, Z4, S4, W4⟩ := HQ.out
  have hne : g ≠ b := hgb'
  have S5 := slot_put S4 hlt
  have hwg : Wr g wc (wc.setCell ⟨g, sz, none⟩ (.int .i32 1)) := (Wr.refl g wc).set
  have hdg : d.ownBlock ≠ some g := HDG.out
  refine ⟨rfl, ⟨d, .slice (some ⟨g, 0, none⟩) 16 16, wy, (H4.blk (far_set hgb)).drew, ?_, ?_, HDB.out, HSVB.out.1, HDL0.out, fun q hq => by have := Option.some.inj (show some g = some q from hq); have := HEG.out; omega⟩, ?_⟩
  · exact (Z4.wr hdg hwg).below (below_dr (Below.refl _ _))
  · rw [HSZ.out]
    exact S5.below (below_dr (Below.refl _ _))
  · exact (W4.other (by have := HEG.out; omega)).drew
end Go.Proofs.Qxb6500880a
