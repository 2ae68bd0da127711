import Derived.Maps.AppendAt
import Derived.Test.Qxb6500877aGreatDoorNPa
set_option linter.unusedVariables false
set_option linter.unusedSimpArgs false
namespace Go.Proofs.Qxb6500877aGreatDoor
open Go.RowKit

/-- The nine cells of a message. -/
def msg9 (m : MsgV) : List Value := [.int .i64 m.mf, .int .i64 m.mt, .int .u32 m.md, .int .u64 m.mq, .int .u64 m.ma, .int .u64 m.x0, .int .u64 m.x1, .int .u64 m.x2, .int .u64 m.x3]
def msgCells (l : List MsgV) : List Value := l.flatMap msg9
theorem msgCells_snoc (l : List MsgV) (m : MsgV) : msgCells (l ++ [m]) = msgCells l ++ msg9 m := by simp [msgCells]
theorem msgCells_get : ∀ (l : List MsgV) (j q : Nat), q < 9 → (msgCells l)[j * 9 + q]? = l[j]?.map (fun m => msgCell m q)
  | [], j, q, _ => by simp [msgCells]
  | m :: l, 0, q, hq => by
    have : q = 0 ∨ q = 1 ∨ q = 2 ∨ q = 3 ∨ q = 4 ∨ q = 5 ∨ q = 6 ∨ q = 7 ∨ q = 8 := by omega
    rcases this with rfl | rfl | rfl | rfl | rfl | rfl | rfl | rfl | rfl <;> rfl
  | m :: l, j + 1, q, hq => by
    have h := msgCells_get l j q hq
    have e : msgCells (m :: l) = msg9 m ++ msgCells l := by simp [msgCells]
    have e9 : (msg9 m).length = 9 := rfl
    rw [e, List.getElem?_append_right (by rw [e9]; omega), e9, show (j + 1) * 9 + q - 9 = j * 9 + q by omega, h]
    rfl
/-- The slices of a law: row i: what box i has been sent, row 16 + i: what it has given. -/
def rowA (Sb Gb r : Nat) : Addr := if r < 16 then ⟨Sb, r, none⟩ else ⟨Gb, r - 16, none⟩
structure Rws (w : World) (base Sb Gb : Nat) (V : Nat → Value) (L : Nat → List MsgV) : Prop where
  cell : ∀ r, r < 32 → w.cell? (rowA Sb Gb r) = some (V r)
  own : ∀ r, r < 32 → w.ownsRow base 40 9 (V r) (L r).length (msgCells (L r))
  dis : ∀ r s, r < 32 → s < 32 → r ≠ s → (V r).ownBlock = none ∨ (V r).ownBlock ≠ (V s).ownBlock
  sfz : ∀ o, w.frozen? ⟨Sb, o, none⟩ = false
  gfz : ∀ o, w.frozen? ⟨Gb, o, none⟩ = false
  slt : Sb < base
  glt : Gb < base
  ne : Sb ≠ Gb
theorem rowA_s {Sb Gb r : Nat} (h : r < 16) : rowA Sb Gb r = ⟨Sb, r, none⟩ := by simp [rowA, h]
theorem rowA_g {Sb Gb r : Nat} : rowA Sb Gb (16 + r) = ⟨Gb, r, none⟩ := by simp [rowA]
theorem rowA_blk (Sb Gb r : Nat) : (rowA Sb Gb r).block = Sb ∨ (rowA Sb Gb r).block = Gb := by unfold rowA; split <;> simp
theorem rowA_ne {Sb Gb r s : Nat} (h : Sb ≠ Gb) (hrs : r ≠ s) : rowA Sb Gb r ≠ rowA Sb Gb s := by
  unfold rowA
  split <;> split <;> simp <;> omega
theorem addr_add0 (g n : Nat) : (⟨g, 0, none⟩ : Addr).add n = ⟨g, n, none⟩ := by
  unfold Addr.add
  by_cases h : n = 0 <;> simp [h]
theorem Rws.lt {w : World} {base Sb Gb : Nat} {V : Nat → Value} {L : Nat → List MsgV} (h : Rws w base Sb Gb V L) : Sb < w.heap.size ∧ Gb < w.heap.size := by
  have h0 := h.cell 0 (by omega)
  have h1 := h.cell 16 (by omega)
  rw [show rowA Sb Gb 0 = ⟨Sb, 0, none⟩ from rfl] at h0
  rw [show rowA Sb Gb 16 = ⟨Gb, 0, none⟩ from rfl] at h1
  exact ⟨World.block_lt_of_cell? _ _ h0, World.block_lt_of_cell? _ _ h1⟩
theorem Rws.shape {w : World} {base Sb Gb : Nat} {V : Nat → Value} {L : Nat → List MsgV} (h : Rws w base Sb Gb V L) {r : Nat} (hr : r < 32) : ∃ p c, V r = .slice p (L r).length c := by
  rcases (h.own r hr).2 with ⟨e, e2⟩ | ⟨g, cap, cur, e, _⟩
  · exact ⟨none, 0, by rw [e, e2]⟩
  · exact ⟨_, _, e⟩
/-- A message read out of a row. -/
theorem Rws.read {w : World} {base Sb Gb : Nat} {V : Nat → Value} {L : Nat → List MsgV} (h : Rws w base Sb Gb V L) {r j : Nat} (hr : r < 32) {m : MsgV} (hj : (L r)[j]? = some m) :
    ∃ g c, V r = .slice (some ⟨g, 0, none⟩) (L r).length c ∧ base ≤ g ∧ g < w.heap.size ∧ ∀ q, q < 9 → w.cell? ⟨g, j * 9 + q, none⟩ = some (msgCell m q) := by
  have ho := h.own r hr
  rcases ho.2 with ⟨e, e2⟩ | ⟨g, cap, cur, e, hb, hh, _⟩
  · rw [List.length_eq_zero_iff.1 e2] at hj
    simp at hj
  · refine ⟨g, cap, e, hb, ?_, fun q hq => ?_⟩
    · by_cases hc : g < w.heap.size
      · exact hc
      · rw [Array.getElem?_eq_none (by omega)] at hh
        simp at hh
    · have := ho.cells (g := g) (by rw [e]; rfl) (j * 9 + q) (msgCell m q) (by rw [msgCells_get _ _ _ hq, hj]; rfl)
      rw [addr_add0] at this
      exact this
theorem ownsRow_of_blocks {w w' : World} {base e size n : Nat} {v : Value} {xs : List Value} (h : w.ownsRow base e size v n xs) (hb : ∀ k, base ≤ k → k < w.heap.size → w'.heap[k]? = w.heap[k]?) : w'.ownsRow base e size v n xs := by
  refine ⟨h.1, ?_⟩
  rcases h.2 with e | ⟨g, cap, cur, h1, h2, h3, h4⟩
  · exact .inl e
  · refine .inr ⟨g, cap, cur, h1, h2, ?_, h4⟩
    have hlt : g < w.heap.size := by
      by_cases hc : g < w.heap.size
      · exact hc
      · rw [Array.getElem?_eq_none (by omega)] at h3
        simp at h3
    rw [hb g h2 hlt]
    exact h3
theorem Rws.keep {w w' : World} {base Sb Gb : Nat} {V : Nat → Value} {L : Nat → List MsgV} (h : Rws w base Sb Gb V L) (hk : ∀ k, k < w.heap.size → (k = Sb ∨ k = Gb ∨ base ≤ k) → w'.heap[k]? = w.heap[k]?) : Rws w' base Sb Gb V L := by
  have hlt := h.lt
  have es := hk Sb hlt.1 (.inl rfl)
  have eg := hk Gb hlt.2 (.inr (.inl rfl))
  refine ⟨fun r hr => ?_, fun r hr => ownsRow_of_blocks (h.own r hr) fun k h1 h2 => hk k h2 (.inr (.inr h1)), h.dis, fun o => ?_, fun o => ?_, h.slt, h.glt, h.ne⟩
  · have hbk : w'.heap[(rowA Sb Gb r).block]? = w.heap[(rowA Sb Gb r).block]? := by rcases rowA_blk Sb Gb r with e | e <;> rw [e] <;> assumption
    exact (World.cell?_of_block hbk).trans (h.cell r hr)
  · rw [World.frozen?_of_block (a := ⟨Sb, o, none⟩) es]; exact h.sfz o
  · rw [World.frozen?_of_block (a := ⟨Gb, o, none⟩) eg]; exact h.gfz o
theorem Rws.below {w w' : World} {base Sb Gb : Nat} {V : Nat → Value} {L : Nat → List MsgV} (h : Rws w base Sb Gb V L) (hb : Below w.heap.size w w') : Rws w' base Sb Gb V L := h.keep fun k hk _ => hb.block k hk
theorem Rws.drew {w : World} {base Sb Gb : Nat} {V : Nat → Value} {L : Nat → List MsgV} (h : Rws w base Sb Gb V L) : Rws w.drew base Sb Gb V L := h.keep fun _ _ _ => rfl
theorem Rws.fresh {w : World} {base Sb Gb : Nat} {V : Nat → Value} {L : Nat → List MsgV} (h : Rws w base Sb Gb V L) (q : Addr) (hq : q.block ≠ Sb ∧ q.block ≠ Gb ∧ ∀ r, r < 32 → (V r).ownBlock ≠ some q.block) (v : Value) : Rws (w.setCell q v) base Sb Gb V L := by
  have hbk : ∀ k, k ≠ q.block → (w.setCell q v).heap[k]? = w.heap[k]? := fun k hk => by
    simp only [World.setCell, Array.getElem?_modify]
    rw [if_neg (fun e => hk e.symm)]
  have G : w.grownBy (w.setCell q v) (some q.block) := ⟨rfl, rfl, rfl, by simp, fun k _ hk => hbk k (fun e => hk (by rw [e]))⟩
  refine ⟨fun r hr => ?_, fun r hr => (h.own r hr).kept G (.inr (hq.2.2 r hr)), h.dis, fun o => by simpa using h.sfz o, fun o => by simpa using h.gfz o, h.slt, h.glt, h.ne⟩
  rw [World.cell?_of_block (a := rowA Sb Gb r) (hbk _ (by rcases rowA_blk Sb Gb r with e | e <;> rw [e] <;> first | exact fun q1 => hq.1 q1.symm | exact fun q1 => hq.2.1 q1.symm))]
  exact h.cell r hr
theorem Rws.done {w w' : World} {base Sb Gb B mb t k : Nat} {ν : Net} {V : Nat → Value} {L : Nat → List MsgV} (h : Rws w base Sb Gb V L) (D : Done w w' B mb t k ν) (h1 : Sb ≠ B ∧ Sb ≠ mb ∧ Gb ≠ B ∧ Gb ≠ mb) (h2 : B < base ∧ mb < base) : Rws w' base Sb Gb V L :=
  h.keep fun k hk hq => D.f.block k hk (by rcases hq with rfl | rfl | hq <;> omega) (by rcases hq with rfl | rfl | hq <;> omega)
/-- A message laid behind row r. -/
theorem Rws.push {w w' : World} {base Sb Gb r : Nat} {V : Nat → Value} {L : Nat → List MsgV} {m : MsgV} {v' : Value} (h : Rws w base Sb Gb V L) (hr : r < 32) (hg : w.grownBy w' (V r).ownBlock) (ho : w'.ownsRow base 40 9 v' ((L r).length + 1) (msgCells (L r) ++ msg9 m))
    (hb : v'.ownBlock = (V r).ownBlock ∨ v'.ownBlock = some w.heap.size) : Rws (w'.setCell (rowA Sb Gb r) v') base Sb Gb (upd V r v') (upd L r (L r ++ [m])) := by
  have hlt := h.lt
  have hsl := h.slt
  have hgl := h.glt
  have hown : ∀ s, s < 32 → ∀ k, (V s).ownBlock = some k → base ≤ k ∧ k < w.heap.size := fun s hs => (h.own s hs).lt
  have far : ∀ k, k < base → k < w.heap.size → w'.heap[k]? = w.heap[k]? := fun k hk hk2 => hg.block k hk2 (fun e => by have := hown r hr k e.symm; omega)
  have hbs : (rowA Sb Gb r).block < base := by rcases rowA_blk Sb Gb r with e | e <;> rw [e] <;> omega
  have G : w'.grownBy (w'.setCell (rowA Sb Gb r) v') (some (rowA Sb Gb r).block) := ⟨rfl, rfl, rfl, by simp, fun k _ hk => by
    simp only [World.setCell, Array.getElem?_modify]
    rw [if_neg (fun e => hk (by rw [e]))]⟩
  have c1 : ∀ s, s < 32 → w'.cell? (rowA Sb Gb s) = some (V s) := fun s hs => by
    have hbk : w'.heap[(rowA Sb Gb s).block]? = w.heap[(rowA Sb Gb s).block]? := by rcases rowA_blk Sb Gb s with e | e <;> rw [e] <;> apply far <;> omega
    exact (World.cell?_of_block hbk).trans (h.cell s hs)
  refine ⟨fun s hs => ?_, fun s hs => ?_, fun s q hs hq hsq => ?_, fun o => ?_, fun o => ?_, hsl, hgl, h.ne⟩
  · by_cases e : s = r
    · subst e; rw [upd_same]; exact World.cell?_setCell_same _ _ _ (c1 s hs)
    · rw [upd_other _ _ e, World.cell?_setCell_other _ _ _ _ (rowA_ne h.ne (fun q => e q.symm))]; exact c1 s hs
  · by_cases e : s = r
    · subst e
      rw [upd_same, upd_same, msgCells_snoc, List.length_append]
      refine ho.kept G (.inr fun e => ?_)
      have := ho.lt _ e
      omega
    · rw [upd_other _ _ e, upd_other _ _ e]
      refine ((h.own s hs).kept hg ?_).kept G (.inr fun e => ?_)
      · exact h.dis s r hs hr e
      · have := hown s hs _ e
        omega
  · by_cases e1 : s = r
    · subst e1
      rw [upd_same, upd_other _ _ (fun q => hsq q.symm)]
      rcases hb with hb | hb
      · rw [hb]; exact h.dis s q hs hq hsq
      · refine .inr fun e => ?_
        rw [hb] at e
        have := hown q hq _ e.symm
        omega
    · rw [upd_other _ _ e1]
      by_cases e2 : q = r
      · subst e2
        rw [upd_same]
        rcases hb with hb | hb
        · rw [hb]; exact h.dis s q hs hq hsq
        · refine .inr fun e => ?_
          rw [hb] at e
          have := hown s hs _ e
          omega
      · rw [upd_other _ _ e2]; exact h.dis s q hs hq hsq
  · rw [World.frozen?_setCell, World.frozen?_of_block (a := ⟨Sb, o, none⟩) (far Sb hsl hlt.1)]; exact h.sfz o
  · rw [World.frozen?_setCell, World.frozen?_of_block (a := ⟨Gb, o, none⟩) (far Gb hgl hlt.2)]; exact h.gfz o
theorem wp_append_own_at {P : Program} {w : World} {o : Oper} {a : Act} {K : Act → World → Prop} {Q : Exit → Act → World → Prop} (s x : Operand) (t : TypeId)
    (ho : o.op = .call { callee := .builtin .append, args := #[s, x], argTypes := #[t, t] })
    (base : Nat) (e : TypeId) (i : TypeInfo) (z : Value) (size bytes : Nat) (ht : P.underlying t = some (.slice e)) (hi : P.info? e = some i) (hz : i.zero = some z)
    (hsize : i.size = size) (hby : i.bytes = bytes) (hzs : z.cells.size = size) (hsz : 0 < size)
    (v : Value) (n : Nat) (xs : List Value) (hs : a.eval s = v) (hown : w.ownsRow base e size v n xs)
    (ad : Addr) (m c : Nat) (news : List Value) (hx : a.eval x = .slice (some ad) m c) (hl : news.length = m * size) (hnews : ∀ j u, news[j]? = some u → w.cell? (ad.add j) = some u) (h1 : ∀ u ∈ news, u.oneCell' = true)
    (h63 : n + m ≤ maxLen) (hbytes : (n + m) * bytes ≤ 140737488355328) (hbase : base ≤ w.heap.size)
    (h : ∀ v' w', w'.ownsRow base e size v' (n + m) (xs ++ news) → w.grownBy w' v.ownBlock → (v'.ownBlock = v.ownBlock ∨ v'.ownBlock = some w.heap.size) → K (a.put o.dst v') w') : o.wp P a w K Q := by
  obtain ⟨v', w', hr, h2, h3, h4, h5⟩ := run_append_own_at (P := P) w base t o.type e i z size bytes ht hi hz hsize hby hzs hsz v n xs hown ad m c news hl hnews h1 h63 hbytes hbase
  unfold Oper.wp execOp
  simp only [ho, resolve, invoke, builtin, Sem.run_bind, Sem.run_pure, Result.andThen_ok, List.map_toArray, List.map_cons, List.map_nil, hs, hx, hr]
  exact h v' w' h2 h3 h5
end Go.Proofs.Qxb6500877aGreatDoor
