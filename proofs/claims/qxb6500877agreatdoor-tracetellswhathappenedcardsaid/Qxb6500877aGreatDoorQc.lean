import Derived.Test.Qxb6500877aGreatDoorQa
import Derived.Test.Qxb6500877aGreatDoorTe
import Derived.Test.Qxb6500877aGreatDoorNLa
set_option linter.unusedVariables false
set_option linter.unusedSimpArgs false
namespace Go.Proofs.Qxb6500877aGreatDoor
open Go.RowKit

/-- Of what was there, only blocks a and b have turned. -/
structure MutB (a b : Nat) (w w' : World) : Prop where
  os : w'.os = w.os
  tape : w'.tape = w.tape
  output : w'.output = w.output
  size : w.heap.size ≤ w'.heap.size
  block : ∀ k, k < w.heap.size → k ≠ a → k ≠ b → w'.heap[k]? = w.heap[k]?
theorem MutB.refl (a b : Nat) (w : World) : MutB a b w w := ⟨rfl, rfl, rfl, Nat.le_refl _, fun _ _ _ _ => rfl⟩
theorem MutB.trans {a b : Nat} {x y z : World} (h : MutB a b x y) (k : MutB a b y z) : MutB a b x z :=
  ⟨k.os.trans h.os, k.tape.trans h.tape, k.output.trans h.output, Nat.le_trans h.size k.size, fun i hi h1 h2 => (k.block i (Nat.lt_of_lt_of_le hi h.size) h1 h2).trans (h.block i hi h1 h2)⟩
/-- The timers of a row of nodes. -/
structure TmR where
  id : Int
  core : Int
  dl : Int
  ck : Int
def tmCells (l : List TmR) : List Value := l.flatMap (fun x => [.int .u64 x.id, .int .i64 x.core, .int .u64 x.dl, .int .u64 x.ck])
theorem tmCells_snoc (l : List TmR) (x : TmR) : tmCells (l ++ [x]) = tmCells l ++ [.int .u64 x.id, .int .i64 x.core, .int .u64 x.dl, .int .u64 x.ck] := by simp [tmCells]
def tmR (s : Wheel) (x : Nat) : TmR := ⟨(s.nd x).id, (s.nd x).core, (s.nd x).dl, (s.nd x).ck⟩
theorem info84 : (Tryz.prog.info? 84).map (fun i => (i.zero, i.size, i.bytes)) = some (some (.agg #[.int .u64 0, .int .i64 0, .int .u64 0, .int .u64 0]), 4, 32) := by kernel_rfl
theorem cell_four_new (w : World) (a b c d : Value) (t : TypeId) : ∀ j u, [a, b, c, d][j]? = some u → (w.alloc (.cells #[a, b, c, d] t)).cell? ((⟨w.heap.size, 0, none⟩ : Addr).add j) = some u := by
  intro j u h
  match j, h with
  | 0, h => simp at h; subst h; simp [Addr.add]
  | 1, h => simp at h; subst h; simp [Addr.add]
  | 2, h => simp at h; subst h; simp [Addr.add]
  | 3, h => simp at h; subst h; simp [Addr.add]
  | n + 4, h => simp at h
theorem wp_append_fits {P : Program} {w : World} {o : Oper} {a : Act} {K : Act → World → Prop} {Q : Exit → Act → World → Prop} (s x : Operand) (t : TypeId) (hop : o.op = Op.call { callee := Callee.builtin Builtin.append, args := #[s, x], argTypes := #[t, t] })
    (base : Nat) (e : TypeId) (i : TypeInfo) (size : Nat) (h1 : P.underlying t = some (.slice e)) (h2 : P.info? e = some i) (h4 : i.size = size)
    (g k cap : Nat) (xs : List Value) (hs : a.eval s = .slice (some ⟨g, 0, none⟩) k cap) (hown : w.ownsRow base e size (.slice (some ⟨g, 0, none⟩) k cap) k xs) (ad : Addr) (m c : Nat) (news : List Value) (hx : a.eval x = .slice (some ad) m c) (hn : news.length = m * size)
    (hc : ∀ j u, news[j]? = some u → w.cell? (ad.add j) = some u) (h1c : ∀ u ∈ news, u.oneCell' = true) (b1 : k + m ≤ cap)
    (hK : ∀ w', w'.ownsRow base e size (.slice (some ⟨g, 0, none⟩) (k + m) cap) (k + m) (xs ++ news) → w.grownBy w' (some g) → K (a.put o.dst (.slice (some ⟨g, 0, none⟩) (k + m) cap)) w') : o.wp P a w K Q := by
  obtain ⟨w', hrun, r1, r2⟩ := run_append_fits (P := P) w base t o.type e i size h1 h2 h4 g k cap xs hown ad m c news hn hc h1c b1
  unfold Oper.wp
  simp [execOp, hop, resolve, invoke, builtin, hs, hx, hrun, Result.andThen]
  exact hK w' r1 r2
set_option maxRecDepth 20000 in
set_option maxHeartbeats 4000000 in
theorem note_timer {w : World} {B b1 b3 g n cap x : Nat} {s : Wheel} {xs : List Value} (H : WheelAt w B s) (hx : x < 64) (c1 : w.cell? ⟨b1, 0, none⟩ = some (.pointer (some ⟨B, 1, none⟩))) (c3 : w.cell? ⟨b3, 0, none⟩ = some (.slice (some ⟨g, 0, none⟩) n cap)) (fz3 : w.frozen? ⟨b3, 0, none⟩ = false)
    (hown : w.ownsRow g 84 4 (.slice (some ⟨g, 0, none⟩) n cap) n xs) (hfit : n < cap) (h31 : b3 ≠ b1) (h3B : b3 ≠ B) (h3g : b3 ≠ g) (h1g : b1 ≠ g) (hBg : B ≠ g) :
    Calls Tryz.prog 164 #[.int .i16 (x : Int), .pointer (some ⟨b3, 0, none⟩), .pointer (some ⟨b1, 0, none⟩)] w fun e w' => e = .returned (.tuple #[]) ∧ w'.cell? ⟨b3, 0, none⟩ = some (.slice (some ⟨g, 0, none⟩) (n + 1) cap) ∧ w'.frozen? ⟨b3, 0, none⟩ = false ∧ w'.ownsRow g 84 4 (.slice (some ⟨g, 0, none⟩) (n + 1) cap) (n + 1) (xs ++ [.int .u64 (s.nd x).id, .int .i64 (s.nd x).core, .int .u64 (s.nd x).dl, .int .u64 (s.nd x).ck]) ∧ MutB b3 g w w' := by
  obtain ⟨i0_, hi_, hz0, hz1, hz2⟩ := info_parts info84
  obtain ⟨y0, y1, y2, y3, _⟩ := H.node hx
  generalize (s.nd x).id = id at *
  generalize (s.nd x).core = co at *
  generalize (s.nd x).dl = dl at *
  generalize (s.nd x).ck = ck at *
  have x0 : (0 : Int) ≤ x := by omega
  have x1 : (x : Int) < 64 := by omega
  have hlB := World.block_lt_of_cell? _ _ y0
  have hl1 := World.block_lt_of_cell? _ _ c1
  have hl3 := World.block_lt_of_cell? _ _ c3
  have hlg := (hown.lt g rfl).2
  have n1 : ¬ (b3 = B) := h3B
  have n2 : ¬ (B = b3) := fun e => h3B e.symm
  go_enter Tryz.func164, Tryz.ntmps164
  go_wp2_with fail
  refine wp_region_l (l := 10) (S := (fun w' => w'.cell? ⟨b1, 0, none⟩ = some (.pointer (some ⟨B, 1, none⟩)) ∧ w'.cell? ⟨b3, 0, none⟩ = some (.slice (some ⟨g, 0, none⟩) n cap) ∧ w'.cell? ⟨B, 2 + x * 8, none⟩ = some (.int .u64 id) ∧ w'.cell? ⟨B, 2 + x * 8 + 1, none⟩ = some (.int .i64 co) ∧ w'.cell? ⟨B, 2 + x * 8 + 2, none⟩ = some (.int .u64 dl) ∧ w'.cell? ⟨B, 2 + x * 8 + 3, none⟩ = some (.int .u64 ck))) (by kernel_rfl) ⟨c1, c3, y0, y1, y2, y3⟩ (fun hHeld => ?_)
  refine AnyL.take (i := 0) (oi := { dst := some 4, op := Go.Op.load 59 (Go.Operand.tmp 1), type := 59, pos := _, after := #[], guard := none }) (v := ?vv1) (by kernel_rfl) rfl (by kernel_rfl) (by kernel_rfl) (by kernel_rfl) (fun _ _ _ h => h) (Or.inl ⟨by rfl, ?hy1⟩) (by assumption) ?tk1
  case hy1 => (intro w hSw; (try dsimp only at hSw); go_simp; (try with_reducible rfl))
  try simp only [Act.put, List.setIfInBounds_toArray, List.set_cons_zero, List.set_cons_succ]
  refine AnyL.take (i := 1) (oi := { dst := some 5, op := Go.Op.load 212 (Go.Operand.tmp 2), type := 212, pos := _, after := #[], guard := none }) (v := ?vv2) (by kernel_rfl) rfl (by kernel_rfl) (by kernel_rfl) (by kernel_rfl) (fun _ _ _ h => h) (Or.inl ⟨by rfl, ?hy2⟩) (by assumption) ?tk2
  case hy2 => (intro w hSw; (try dsimp only at hSw); go_simp; (try with_reducible rfl))
  try simp only [Act.put, List.setIfInBounds_toArray, List.set_cons_zero, List.set_cons_succ]
  refine AnyL.take (i := 2) (oi := { dst := some 6, op := Go.Op.move (Go.Operand.tmp 0), type := 156, pos := _, after := #[], guard := none }) (v := ?vv3) (by kernel_rfl) rfl (by kernel_rfl) (by kernel_rfl) (by kernel_rfl) (fun _ _ _ h => h) (Or.inl ⟨by rfl, ?hy3⟩) (by assumption) ?tk3
  case hy3 => (intro w hSw; (try dsimp only at hSw); go_simp; (try with_reducible rfl))
  try simp only [Act.put, List.setIfInBounds_toArray, List.set_cons_zero, List.set_cons_succ]
  refine AnyL.take (i := 3) (oi := { dst := some 7, op := Go.Op.nilCheck (Go.Operand.tmp 5), type := 0, pos := _, after := #[{ on := 1, ground := Go.Ground.data }], guard := none }) (v := ?vv4) (by kernel_rfl) rfl (by kernel_rfl) (by kernel_rfl) (by kernel_rfl) (fun _ _ _ h => h) (Or.inl ⟨by rfl, ?hy4⟩) (by assumption) ?tk4
  case hy4 => (intro w hSw; (try dsimp only at hSw); go_simp; (try with_reducible rfl))
  try simp only [Act.put, List.setIfInBounds_toArray, List.set_cons_zero, List.set_cons_succ]
  refine AnyL.take (i := 4) (oi := { dst := some 8, op := Go.Op.fieldAddr 168 (Go.Operand.tmp 7) 1, type := 0, pos := _, after := #[{ on := 3, ground := Go.Ground.data }], guard := none }) (v := ?vv5) (by kernel_rfl) rfl (by kernel_rfl) (by kernel_rfl) (by kernel_rfl) (fun _ _ _ h => h) (Or.inl ⟨by rfl, ?hy5⟩) (by assumption) ?tk5
  case hy5 => (intro w hSw; (try dsimp only at hSw); go_simp; (try with_reducible rfl))
  try simp only [Act.put, List.setIfInBounds_toArray, List.set_cons_zero, List.set_cons_succ]
  refine AnyL.take (i := 5) (oi := { dst := some 9, op := Go.Op.indexAddr 160 (Go.Operand.tmp 8) (Go.Operand.tmp 6), type := 0, pos := _, after := #[{ on := 4, ground := Go.Ground.data }, { on := 2, ground := Go.Ground.data }], guard := none }) (v := ?vv6) (by kernel_rfl) rfl (by kernel_rfl) (by kernel_rfl) (by kernel_rfl) (fun _ _ _ h => h) (Or.inl ⟨by rfl, ?hy6⟩) (by assumption) ?tk6
  case hy6 => (intro w hSw; (try dsimp only at hSw); go_simp; (try with_reducible rfl))
  try simp only [Act.put, List.setIfInBounds_toArray, List.set_cons_zero, List.set_cons_succ]
  refine AnyL.take (i := 6) (oi := { dst := some 10, op := Go.Op.fieldAddr 159 (Go.Operand.tmp 9) 0, type := 0, pos := _, after := #[{ on := 5, ground := Go.Ground.data }], guard := none }) (v := ?vv7) (by kernel_rfl) rfl (by kernel_rfl) (by kernel_rfl) (by kernel_rfl) (fun _ _ _ h => h) (Or.inl ⟨by rfl, ?hy7⟩) (by assumption) ?tk7
  case hy7 => (intro w hSw; (try dsimp only at hSw); go_simp; (try with_reducible rfl))
  try simp only [Act.put, List.setIfInBounds_toArray, List.set_cons_zero, List.set_cons_succ]
  refine AnyL.take (i := 7) (oi := { dst := some 11, op := Go.Op.load 84 (Go.Operand.tmp 10), type := 84, pos := _, after := #[{ on := 6, ground := Go.Ground.data }], guard := none }) (v := ?vv8) (by kernel_rfl) rfl (by kernel_rfl) (by kernel_rfl) (by kernel_rfl) (fun _ _ _ h => h) (Or.inl ⟨by rfl, ?hy8⟩) (by assumption) ?tk8
  case hy8 => (intro w hSw; (try dsimp only at hSw); go_simp; (try with_reducible rfl))
  try simp only [Act.put, List.setIfInBounds_toArray, List.set_cons_zero, List.set_cons_succ]
  refine AnyL.one (i := 8) (o := { dst := some 12, op := Go.Op.buildSlice 59 1 #[(0, Go.Operand.tmp 11)], type := 59, pos := _, after := #[{ on := 7, ground := Go.Ground.data }], guard := none }) (by kernel_rfl) rfl rfl (fun K' hK' => ?_)
  go_simp
  clear hHeld
  refine hK'.out _ _ (by refine ⟨?_, ?_, ?_, ?_, ?_, ?_⟩ <;> go_simp) (fun hHeld => ?_)
  clear hK' K'
  try simp only [Act.put, List.setIfInBounds_toArray, List.set_cons_zero, List.set_cons_succ]
  refine AnyL.one (i := 9) (o := { dst := some 13, op := Go.Op.call { callee := Go.Callee.builtin Go.Builtin.append, args := #[Go.Operand.tmp 4, Go.Operand.tmp 12], argTypes := #[59, 59] }, type := 59, pos := _, after := #[{ on := 0, ground := Go.Ground.data }, { on := 8, ground := Go.Ground.data }], guard := none }) (by kernel_rfl) rfl rfl (fun K' hK' => ?_)
  refine wp_append_fits (.tmp 4) (.tmp 12) 59 rfl g 84 i0_ 4 Tryz.underlying59 hi_ hz1 g n cap xs rfl (hown.alloc _) ⟨w.heap.size, 0, none⟩ 1 1 [.int .u64 id, .int .i64 co, .int .u64 dl, .int .u64 ck] rfl rfl (cell_four_new _ _ _ _ _ _) (fun u hu => by simp at hu; rcases hu with rfl | rfl | rfl | rfl <;> rfl) (by omega) ?_
  intro w3 hown' hgrow'
  have far : ∀ k, k < w.heap.size → k ≠ g → w3.heap[k]? = w.heap[k]? := fun k hk hkg => (hgrow'.block k (by simp; omega) (by simp; omega)).trans ((one_alloc (World.drew w) _).block k hk)
  have e1 : w3.cell? ⟨b1, 0, none⟩ = some (.pointer (some ⟨B, 1, none⟩)) := (World.cell?_of_block (a := ⟨b1, 0, none⟩) (far b1 (by omega) (by omega))).trans c1
  have e3 : w3.cell? ⟨b3, 0, none⟩ = some (.slice (some ⟨g, 0, none⟩) n cap) := (World.cell?_of_block (a := ⟨b3, 0, none⟩) (far b3 (by omega) (by omega))).trans c3
  have f0 : w3.cell? ⟨B, 2 + x * 8, none⟩ = some (.int .u64 id) := (World.cell?_of_block (a := ⟨B, 2 + x * 8, none⟩) (far B (by omega) (by omega))).trans y0
  have f1 : w3.cell? ⟨B, 2 + x * 8 + 1, none⟩ = some (.int .i64 co) := (World.cell?_of_block (a := ⟨B, 2 + x * 8 + 1, none⟩) (far B (by omega) (by omega))).trans y1
  have f2 : w3.cell? ⟨B, 2 + x * 8 + 2, none⟩ = some (.int .u64 dl) := (World.cell?_of_block (a := ⟨B, 2 + x * 8 + 2, none⟩) (far B (by omega) (by omega))).trans y2
  have f3 : w3.cell? ⟨B, 2 + x * 8 + 3, none⟩ = some (.int .u64 ck) := (World.cell?_of_block (a := ⟨B, 2 + x * 8 + 3, none⟩) (far B (by omega) (by omega))).trans y3
  have z3 : w3.frozen? ⟨b3, 0, none⟩ = false := (World.frozen?_of_block (a := ⟨b3, 0, none⟩) (far b3 (by omega) (by omega))).trans fz3
  have HFAR := hideIt far
  have HOWN := hideIt hown'
  have HGR := hideIt hgrow'
  clear hHeld far hown' hgrow'
  refine hK'.out _ _ ⟨e1, e3, f0, f1, f2, f3⟩ (fun hHeld => ?_)
  clear hK' K'
  try simp only [Act.put, List.setIfInBounds_toArray, List.set_cons_zero, List.set_cons_succ]
  clear c1 c3 y0 y1 y2 y3
  refine AnyL.last (o := { dst := none, op := Go.Op.store 59 (Go.Operand.tmp 1) (Go.Operand.tmp 13), type := 0, pos := _, after := #[{ on := 9, ground := Go.Ground.data }, { on := 9, ground := Go.Ground.chain }, { on := 0, ground := Go.Ground.phase }, { on := 1, ground := Go.Ground.phase }, { on := 2, ground := Go.Ground.phase }, { on := 3, ground := Go.Ground.phase }, { on := 4, ground := Go.Ground.phase }, { on := 5, ground := Go.Ground.phase }, { on := 6, ground := Go.Ground.phase }, { on := 7, ground := Go.Ground.phase }, { on := 8, ground := Go.Ground.phase }, { on := 9, ground := Go.Ground.phase }], guard := none }) (by kernel_rfl) rfl (by kernel_rfl) (fun K' hK' => ?_)
  go_simp
  clear hHeld
  refine hK'.out _ _ ?_
  clear hK' K'
  try simp only [Act.put, List.setIfInBounds_toArray, List.set_cons_zero, List.set_cons_succ]
  go_wp2
  go_end0
  have hg3 : g < w3.heap.size := (HOWN.out.lt g rfl).2
  refine ⟨rfl, World.cell?_setCell_same _ _ _ e3, by rw [World.frozen?_setCell]; exact z3, ?_, ?_⟩
  · refine World.ownsRow.kept (row := some b3) HOWN.out ⟨rfl, rfl, rfl, by simp, fun k _ hk => ?_⟩ (.inr (by simp [Value.ownBlock]; omega))
    simp only [World.setCell, Array.getElem?_modify]
    rw [if_neg (by simpa using fun e => hk (by rw [e]))]
  · refine ⟨HGR.out.os, HGR.out.tape, HGR.out.output, ?_, fun k hk h1 h2 => ?_⟩
    · have := HGR.out.size
      simp at this ⊢
      omega
    · simp only [World.setCell, Array.getElem?_modify]
      rw [if_neg (fun e => h1 e.symm)]
      exact HFAR.out k hk h2
end Go.Proofs.Qxb6500877aGreatDoor
