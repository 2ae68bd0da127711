import Derived.Deep.CutBlock
import Derived.OwnWalk
import Derived.Maps.AppendAt
import Derived.Test.Qxb6500877aGreatDoorTx2
import Derived.Test.Qxb6500877aGreatDoorTr4
set_option linter.unusedVariables false
set_option linter.unusedSimpArgs false
namespace Go.Proofs.Qxb6500877aGreatDoor
open Go.RowKit

/-- The frame of 'expected': its variables that closures hold. -/
structure XB (w : World) (p7 p8 p10 p12 p13 p15 p16 : Nat) (o : OpS) (rs : Array Value) (now : Nat) (was st : Int) (sb so : Nat) : Prop where
  op : OpAt w p7 o
  rs : ∀ j v, rs[j]? = some v → w.cell? ⟨p8, j, none⟩ = some v
  wa : w.cell? ⟨p10, 0, none⟩ = some (.int .i64 was)
  st : w.cell? ⟨p12, 0, none⟩ = some (.int .u8 st)
  sq : w.cell? ⟨p13, 0, none⟩ = some (.pointer (some ⟨sb, so, none⟩))
  bk : Ev9 w p15 0 (bl now 0)
  on : w.cell? ⟨p16, 0, none⟩ = some (.func (.func 116) #[] #[.pointer (some ⟨p15, 0, none⟩)])
theorem XB.keep {w w' : World} {p7 p8 p10 p12 p13 p15 p16 : Nat} {o : OpS} {rs : Array Value} {now : Nat} {was st : Int} {sb so : Nat} (h : XB w p7 p8 p10 p12 p13 p15 p16 o rs now was st sb so) (hk : ∀ q, q = p7 ∨ q = p8 ∨ q = p10 ∨ q = p12 ∨ q = p13 ∨ q = p15 ∨ q = p16 → w'.heap[q]? = w.heap[q]?) : XB w' p7 p8 p10 p12 p13 p15 p16 o rs now was st sb so :=
  ⟨h.op.blk (hk p7 (by simp)), fun j v hv => (World.cell?_of_block (a := ⟨p8, j, none⟩) (hk p8 (by simp))).trans (h.rs j v hv), (World.cell?_of_block (a := ⟨p10, 0, none⟩) (hk p10 (by simp))).trans h.wa, (World.cell?_of_block (a := ⟨p12, 0, none⟩) (hk p12 (by simp))).trans h.st, (World.cell?_of_block (a := ⟨p13, 0, none⟩) (hk p13 (by simp))).trans h.sq, h.bk.blk (hk p15 (by simp)), (World.cell?_of_block (a := ⟨p16, 0, none⟩) (hk p16 (by simp))).trans h.on⟩
/-- 'expected' at work: the events so far. -/
structure XA (w0 w : World) (p7 p8 p10 p12 p13 p15 p16 p17 n1 : Nat) (o : OpS) (rs : Array Value) (now : Nat) (was st : Int) (sb so : Nat) (V : Value) (l : List EvS) : Prop where
  b : XB w p7 p8 p10 p12 p13 p15 p16 o rs now was st sb so
  ou : w.cell? ⟨p17, 0, none⟩ = some V
  fz : ∀ o, w.frozen? ⟨p17, o, none⟩ = false
  own : w.ownsRow n1 123 9 V l.length (evCells l)
  bl : Below w0.heap.size w0 w
  lt : p7 < p17 ∧ p8 < p17 ∧ p10 < p17 ∧ p12 < p17 ∧ p13 < p17 ∧ p15 < p17 ∧ p16 < p17 ∧ p17 < n1 ∧ w0.heap.size ≤ p17 ∧ n1 ≤ w.heap.size
theorem XA.below {w0 w w' : World} {p7 p8 p10 p12 p13 p15 p16 p17 n1 : Nat} {o : OpS} {rs : Array Value} {now : Nat} {was st : Int} {sb so : Nat} {V : Value} {l : List EvS} (h : XA w0 w p7 p8 p10 p12 p13 p15 p16 p17 n1 o rs now was st sb so V l) (hb : Below w.heap.size w w') : XA w0 w' p7 p8 p10 p12 p13 p15 p16 p17 n1 o rs now was st sb so V l := by
  obtain ⟨l1, l2, l3, l4, l5, l6, l7, l8, l9, l10⟩ := h.lt
  have hs := hb.size
  refine ⟨h.b.keep (fun q hq => hb.block q (by omega)), cell_later hb h.ou, fun o => (World.frozen?_of_block (a := ⟨p17, o, none⟩) (hb.block p17 (by omega))).trans (h.fz o), own_keep h.own hs (fun q _ hq => hb.block q hq), below_to h.bl hb h.bl.size, by omega⟩
theorem XA.drew {w0 w : World} {p7 p8 p10 p12 p13 p15 p16 p17 n1 : Nat} {o : OpS} {rs : Array Value} {now : Nat} {was st : Int} {sb so : Nat} {V : Value} {l : List EvS} (h : XA w0 w p7 p8 p10 p12 p13 p15 p16 p17 n1 o rs now was st sb so V l) : XA w0 w.drew p7 p8 p10 p12 p13 p15 p16 p17 n1 o rs now was st sb so V l := h.below (below_dr (Below.refl _ _))
theorem XA.push {w0 w w3 : World} {p7 p8 p10 p12 p13 p15 p16 p17 n1 : Nat} {o : OpS} {rs : Array Value} {now : Nat} {was st : Int} {sb so : Nat} {V V' : Value} {l : List EvS} {e : EvS} {ob : Obj} (h : XA w0 w p7 p8 p10 p12 p13 p15 p16 p17 n1 o rs now was st sb so V l) (ho : w3.ownsRow n1 123 9 V' (l.length + 1) (evCells l ++ ev9 e)) (hg : (w.alloc ob).grownBy w3 V.ownBlock) : XA w0 (w3.setCell ⟨p17, 0, none⟩ V') p7 p8 p10 p12 p13 p15 p16 p17 n1 o rs now was st sb so V' (l ++ [e]) := by
  obtain ⟨l1, l2, l3, l4, l5, l6, l7, l8, l9, l10⟩ := h.lt
  have hr : ∀ q, q < n1 → some q ≠ V.ownBlock := fun q hq e => by have := (h.own.lt q e.symm).1; omega
  have hsz := hg.size
  have hza : (w.alloc ob).heap.size = w.heap.size + 1 := by simp
  have hk : ∀ q, q < n1 → w3.heap[q]? = w.heap[q]? := fun q hq => (hg.block q (by omega) (hr q hq)).trans ((one_alloc w ob).block q (by omega))
  have G : w3.grownBy (w3.setCell ⟨p17, 0, none⟩ V') (some p17) := ⟨rfl, rfl, rfl, by simp, fun k _ hk => far_set (fun e => hk (by rw [e]))⟩
  have hb0 := h.bl.size
  refine ⟨h.b.keep (fun q hq => (far_set (by omega)).trans (hk q (by omega))), World.cell?_setCell_same _ _ _ ((World.cell?_of_block (a := ⟨p17, 0, none⟩) (hk p17 (by omega))).trans h.ou), fun o => (World.frozen?_setCell _ _ _ _).trans ((World.frozen?_of_block (a := ⟨p17, o, none⟩) (hk p17 (by omega))).trans (h.fz o)), ?_, ⟨hg.os.trans h.bl.os, hg.tape.trans h.bl.tape, hg.output.trans h.bl.output, by simp; omega, fun q hq => (far_set (by omega)).trans ((hk q (by omega)).trans (h.bl.block q hq))⟩, by simp; omega⟩
  rw [List.length_append, List.length_singleton, evCells_snoc]
  exact ho.kept G (.inr (fun q => by have := (ho.lt p17 q).1; omega))
set_option maxRecDepth 20000 in
set_option maxHeartbeats 4000000 in
theorem tim_any {w0 w : World} {p7 p8 p10 p12 p13 p15 p16 p17 n1 : Nat} {o : OpS} {rs : Array Value} {now : Nat} {was st : Int} {sb so : Nat} {V : Value} {l : List EvS} {kk co tm : Int} (X : XA w0 w p7 p8 p10 p12 p13 p15 p16 p17 n1 o rs now was st sb so V l) (hlen : l.length < 1000) (h1 : w.cell? ⟨p8, 1, none⟩ = some (.int .i64 co)) (h3 : w.cell? ⟨p8, 3, none⟩ = some (.int .u64 tm)) :
    Calls Tryz.prog 118 #[.int .u8 kk, .pointer (some ⟨p17, 0, none⟩), .pointer (some ⟨p16, 0, none⟩), .pointer (some ⟨p8, 0, none⟩)] w fun x w' => x = .returned (.tuple #[]) ∧ ∃ V', XA w0 w' p7 p8 p10 p12 p13 p15 p16 p17 n1 o rs now was st sb so V' (l ++ [⟨kk, now, co, -1, tm, -1, 0, 0, 0⟩]) := by
  obtain ⟨i0_, hi_, hz0, hz1, hz2⟩ := info_parts info123
  obtain ⟨e, he⟩ : ∃ e : EvS, e = ⟨kk, now, co, -1, tm, -1, 0, 0, 0⟩ := ⟨_, rfl⟩
  have HEV := hideIt he
  have hone := one_119 (w := World.drew w) (kk := kk) X.b.bk.drew h1 h3
  rw [← he] at hone
  unfold evV at hone
  clear he
  obtain ⟨pv, cap, hV⟩ := own_shape X.own
  obtain ⟨n, hn⟩ : ∃ n, n = l.length := ⟨_, rfl⟩
  rw [← hn] at hV hlen
  subst hV
  have HN := hideIt hn
  have s0 := X.ou
  have s1 := X.b.on
  have hr : ∀ q, q < n1 → some q ≠ (Value.slice pv n cap).ownBlock := fun q hq e => by have := (X.own.lt q e.symm).1; omega
  obtain ⟨l1, l2, l3, l4, l5, l6, l7, l8, l9, l10⟩ := X.lt
  have hr17 := hr p17 (by omega)
  have hr16 := hr p16 (by omega)
  have HX := hideIt X
  clear X hn hr
  go_enter Tryz.func118, Tryz.ntmps118
  go_upto_region 0 with fail
  refine wp_region_l (l := 7) (S := (fun w' => w'.cell? ⟨p17, 0, none⟩ = some (.slice pv n cap) ∧ w'.cell? ⟨p16, 0, none⟩ = some (.func (.func 116) #[] #[.pointer (some ⟨p15, 0, none⟩)]))) (by kernel_rfl) ⟨s0, s1⟩ (fun hHeld => ?_)
  refine AnyL.take2 (i := 0) (oi := { dst := some 5, op := Go.Op.load 111 (Go.Operand.tmp 1), type := 111, pos := _, after := #[], guard := none }) (v := ?vv9001) (by kernel_rfl) (by kernel_rfl) rfl (by kernel_rfl) (by kernel_rfl) (by kernel_rfl) (fun _ _ _ h => h) (Or.inl ⟨by rfl, ?hy9001⟩) (by assumption) ?tk9001
  case hy9001 => (intro w hSw; (try dsimp only at hSw); go_simp; (try with_reducible rfl))
  try simp only [Act.put, List.setIfInBounds_toArray, List.set_cons_zero, List.set_cons_succ]
  refine AnyL.take2 (i := 1) (oi := { dst := some 6, op := Go.Op.load 223 (Go.Operand.tmp 2), type := 223, pos := _, after := #[], guard := none }) (v := ?vv9002) (by kernel_rfl) (by kernel_rfl) rfl (by kernel_rfl) (by kernel_rfl) (by kernel_rfl) (fun _ _ _ h => h) (Or.inl ⟨by rfl, ?hy9002⟩) (by assumption) ?tk9002
  case hy9002 => (intro w hSw; (try dsimp only at hSw); go_simp; (try with_reducible rfl))
  try simp only [Act.put, List.setIfInBounds_toArray, List.set_cons_zero, List.set_cons_succ]
  refine AnyL.take2 (i := 2) (oi := { dst := some 7, op := Go.Op.move (Go.Operand.tmp 0), type := 121, pos := _, after := #[], guard := none }) (v := ?vv9003) (by kernel_rfl) (by kernel_rfl) rfl (by kernel_rfl) (by kernel_rfl) (by kernel_rfl) (fun _ _ _ h => h) (Or.inl ⟨by rfl, ?hy9003⟩) (by assumption) ?tk9003
  case hy9003 => (intro w hSw; (try dsimp only at hSw); go_simp; (try with_reducible rfl))
  try simp only [Act.put, List.setIfInBounds_toArray, List.set_cons_zero, List.set_cons_succ]
  refine AnyL.take2 (i := 3) (oi := { dst := some 8, op := Go.Op.makeFunc (Go.Fn.func 119) #[] #[Go.Operand.tmp 3], type := 221, pos := _, after := #[], guard := none }) (v := ?vv9004) (by kernel_rfl) (by kernel_rfl) rfl (by kernel_rfl) (by kernel_rfl) (by kernel_rfl) (fun _ _ _ h => h) (Or.inl ⟨by rfl, ?hy9004⟩) (by assumption) ?tk9004
  case hy9004 => (intro w hSw; (try dsimp only at hSw); go_simp; (try with_reducible rfl))
  try simp only [Act.put, List.setIfInBounds_toArray, List.set_cons_zero, List.set_cons_succ]
  refine AnyL.one (i := 4) (o := { dst := some 9, op := Go.Op.call { callee := Go.Callee.value (Go.Operand.tmp 6), args := #[Go.Operand.tmp 7, Go.Operand.tmp 8], argTypes := #[121, 221] }, type := 123, pos := _, after := #[{ on := 1, ground := Go.Ground.data }, { on := 2, ground := Go.Ground.data }, { on := 3, ground := Go.Ground.data }], guard := none }) (by kernel_rfl) rfl rfl (fun K' hK' => ?_)
  go_simp
  go_at_call 116
  refine hone.mono ?_
  rintro x w2 ⟨rfl, hb2⟩
  have X2 := HX.out.drew.below hb2
  have t0 := X2.ou
  have t1 := X2.b.on
  have hown := X2.own
  have hsz2 := X2.lt.2.2.2.2.2.2.2.2.2
  have fz2 := X2.fz
  rw [← HN.out] at hown
  have HX2 := hideIt X2
  clear X2 hb2 hone
  clear hHeld
  refine hK'.out _ _ ⟨t0, t1⟩ (fun hHeld => ?_)
  clear hK' K'
  try simp only [Act.put, List.setIfInBounds_toArray, List.set_cons_zero, List.set_cons_succ]
  refine AnyL.one (i := 5) (o := { dst := some 10, op := Go.Op.buildSlice 111 1 #[(0, Go.Operand.tmp 9)], type := 111, pos := _, after := #[{ on := 4, ground := Go.Ground.data }], guard := none }) (by kernel_rfl) rfl rfl (fun K' hK' => ?_)
  go_simp
  clear hHeld
  refine hK'.out _ _ ⟨cell_later (one_alloc _ _) t0, cell_later (one_alloc _ _) t1⟩ (fun hHeld => ?_)
  clear hK' K'
  try simp only [Act.put, List.setIfInBounds_toArray, List.set_cons_zero, List.set_cons_succ]
  refine AnyL.one (i := 6) (o := { dst := some 11, op := Go.Op.call { callee := Go.Callee.builtin Go.Builtin.append, args := #[Go.Operand.tmp 5, Go.Operand.tmp 10], argTypes := #[111, 111] }, type := 111, pos := _, after := #[{ on := 0, ground := Go.Ground.data }, { on := 5, ground := Go.Ground.data }, { on := 4, ground := Go.Ground.chain }], guard := none }) (by kernel_rfl) rfl rfl (fun K' hK' => ?_)
  refine ite_take (by rfl) ?_
  refine wp_append_own_at (.tmp 5) (.tmp 10) 111 rfl n1 123 i0_ (.agg #[.int .u8 0, .int .u64 0, .int .i64 0, .int .i64 0, .int .u64 0, .int .i64 0, .int .u64 0, .int .u8 0, .int .i64 0]) 9 72 Tryz.underlying111 hi_ hz0 hz1 hz2 rfl (by decide) (.slice pv n cap) n (evCells l) rfl (hown.alloc _) ⟨w2.heap.size, 0, none⟩ 1 1 (ev9 e) rfl rfl (cell_ev_new _ _ _) (ev9_one e) (by unfold maxLen; omega) (by omega) (by simp; omega) ?_
  intro v' w3 hown' hgrow hblk
  obtain ⟨p', c', rfl⟩ := own_shape hown'
  have k0 := hgrow.cell (a := ⟨p17, 0, none⟩) hHeld.1 hr17
  have k1 := hgrow.cell (a := ⟨p16, 0, none⟩) hHeld.2 hr16
  have fz3 : ∀ o, w3.frozen? ⟨p17, o, none⟩ = false := fun o => ((World.frozen?_of_block (a := ⟨p17, o, none⟩) (hgrow.block p17 (by simp; omega) hr17)).trans (World.frozen?_of_block (a := ⟨p17, o, none⟩) ((one_alloc w2 _).block p17 (by omega)))).trans (fz2 o)
  have HG := hideIt (And.intro hown' hgrow)
  clear hown' hgrow hblk
  clear hHeld
  refine hK'.out _ _ ⟨k0, k1⟩ (fun hHeld => ?_)
  clear hK' K'
  try simp only [Act.put, List.setIfInBounds_toArray, List.set_cons_zero, List.set_cons_succ]
  refine AnyL.last (o := { dst := none, op := Go.Op.store 111 (Go.Operand.tmp 1) (Go.Operand.tmp 11), type := 0, pos := _, after := #[{ on := 6, ground := Go.Ground.data }, { on := 6, ground := Go.Ground.chain }, { on := 0, ground := Go.Ground.phase }, { on := 1, ground := Go.Ground.phase }, { on := 2, ground := Go.Ground.phase }, { on := 3, ground := Go.Ground.phase }, { on := 4, ground := Go.Ground.phase }, { on := 5, ground := Go.Ground.phase }, { on := 6, ground := Go.Ground.phase }], guard := none }) (by kernel_rfl) rfl (by kernel_rfl) (fun K' hK' => ?_)
  go_simp
  clear hHeld
  refine hK'.out _ _ ?_
  clear hK' K'
  try simp only [Act.put, List.setIfInBounds_toArray, List.set_cons_zero, List.set_cons_succ]
  go_wp2
  go_end0
  exact ⟨rfl, .slice p' (n + 1) c', by rw [← HEV.out]; exact HX2.out.push (by rw [← HN.out]; exact HG.out.1) HG.out.2⟩
end Go.Proofs.Qxb6500877aGreatDoor
