import Derived.Test.Qxb6500877aGreatDoorAb
set_option linter.unusedVariables false
set_option linter.unusedSimpArgs false
namespace Go.Proofs.Qxb6500877aGreatDoor
open Go.RowKit

theorem ite_take {c : Prop} [Decidable c] {A B : Prop} (h : c) (ha : A) : if c then A else B := by rw [if_pos h]; exact ha
theorem wp_append_fits_any {P : Program} {w : World} {o : Oper} {a : Act} {K : Act → World → Prop} {Q : Exit → Act → World → Prop}
    (s x : Operand) (t : TypeId) (hop : o.op = Op.call { callee := Callee.builtin Builtin.append, args := #[s, x], argTypes := #[t, t] })
    (base : Nat) (e : TypeId) (i : TypeInfo) (size : Nat) (h1 : P.underlying t = some (.slice e)) (h2 : P.info? e = some i) (h4 : i.size = size)
    (g k cap : Nat) (xs : List Value) (hs : a.eval s = .slice (some ⟨g, 0, none⟩) k cap) (hown : w.ownsRow base e size (.slice (some ⟨g, 0, none⟩) k cap) k xs) (ao : Option Addr) (m c : Nat) (news : List Value) (hx : a.eval x = .slice ao m c) (hn : news.length = m * size)
    (hnone : ao = none → m = 0 ∧ c = 0) (hc : ∀ ad, ao = some ad → ∀ j u, news[j]? = some u → w.cell? (ad.add j) = some u) (h1c : ∀ u ∈ news, u.oneCell' = true) (b1 : k + m ≤ cap)
    (hK : ∀ w', w'.ownsRow base e size (.slice (some ⟨g, 0, none⟩) (k + m) cap) (k + m) (xs ++ news) → w.grownBy w' (some g) → K (a.put o.dst (.slice (some ⟨g, 0, none⟩) (k + m) cap)) w') : o.wp P a w K Q := by
  cases ao with
  | some ad =>
    obtain ⟨w', hrun, r1, r2⟩ := run_append_fits (P := P) w base t o.type e i size h1 h2 h4 g k cap xs hown ad m c news hn (hc ad rfl) h1c b1
    unfold Oper.wp
    simp [execOp, hop, resolve, invoke, builtin, hs, hx, hrun, Result.andThen]
    exact hK w' r1 r2
  | none =>
    obtain ⟨rfl, rfl⟩ := hnone rfl
    have hnews : news = [] := List.eq_nil_of_length_eq_zero (by simpa using hn)
    subst hnews
    have hrun := run_append_owned_none (P := P) w base t o.type e i size h1 h2 _ k xs hown
    unfold Oper.wp
    simp [execOp, hop, resolve, invoke, builtin, hs, hx, hrun, Result.andThen]
    exact hK w (by simpa using hown) (World.grownBy.refl _ _)
/-- One element cleared. -/
theorem run_clear1 (w : World) (t ty e : TypeId) {z : Value} {size bytes : Nat} (ht : Tryz.prog.underlying t = some (.slice e)) (hi : (Tryz.prog.info? e).map (fun i => (i.zero, i.size, i.bytes)) = some (some z, size, bytes)) (hzs : z.cells.size = size) (h1 : ∀ u ∈ z.cells.toList, u.oneCell' = true) (h0 : Builtin.zeroCells z.cells 1 = z.cells) {g o c : Nat} {cur : Array Value}
    (hg : w.heap[g]? = some (.cells cur e (0, 0))) (hl : o + size ≤ cur.size) :
    (Builtin.clear_ #[t] ty #[.slice (some ⟨g, o, none⟩) 1 c]).run Tryz.prog w = .ok (.tuple #[]) (w.setRow g (cur.toList.take o ++ z.cells.toList ++ cur.toList.drop (o + size)).toArray) := by
  have hz : (zeroValue e).run Tryz.prog w = .ok z w := by
    have hi' : (Tryz.prog.info? e).map (fun i => (i.zero, i.size)) = some (some z, size) := by
      obtain ⟨i, h2, h3⟩ := Option.map_eq_some_iff.1 hi
      rw [h2]
      simp only [Prod.mk.injEq] at h3
      simp [h3.1, h3.2.1]
    exact (zero_of_info hi').1 w
  have hs := run_storeCells_at (P := Tryz.prog) g o e z.cells.toList 0 cur w hg (by rw [Array.length_toList, hzs]; omega) h1
  rw [Nat.add_zero, Array.length_toList, hzs] at hs
  simp [Builtin.clear_, run_underlying ht, hz, h0, hs, Result.andThen]
theorem row_prefix {w : World} {base e size : Nat} {g n cap : Nat} {xs : List Value} (h : w.ownsRow base e size (.slice (some ⟨g, 0, none⟩) n cap) n xs) {i : Nat} (hi : i ≤ n) : w.ownsRow base e size (.slice (some ⟨g, 0, none⟩) i cap) i (xs.take (i * size)) := by
  have hle : i * size ≤ n * size := Nat.mul_le_mul_right _ hi
  refine ⟨by rw [List.length_take, h.1]; omega, ?_⟩
  rcases h.2 with ⟨e1, _⟩ | ⟨g', cap', cur, e1, hb, hg, h3, h4, h5, h6⟩
  · simp at e1
  · simp only [Value.slice.injEq, Option.some.injEq, Addr.mk.injEq] at e1
    obtain ⟨⟨rfl, _⟩, _, rfl⟩ := e1
    exact .inr ⟨g, cap, cur, rfl, hb, hg, by omega, h4, h5, by rw [← h6, List.take_take, Nat.min_eq_left hle]⟩
theorem row_block {w : World} {base e size : Nat} {g n cap : Nat} {xs : List Value} (h : w.ownsRow base e size (.slice (some ⟨g, 0, none⟩) n cap) n xs) : ∃ cur, w.heap[g]? = some (.cells cur e (0, 0)) ∧ cur.size = cap * size ∧ n ≤ cap := by
  rcases h.2 with ⟨e1, _⟩ | ⟨g', cap', cur, e1, hb, hg, h3, h4, h5, h6⟩
  · simp at e1
  · simp only [Value.slice.injEq, Option.some.injEq, Addr.mk.injEq] at e1
    obtain ⟨⟨rfl, _⟩, _, rfl⟩ := e1
    exact ⟨cur, hg, h5, h3⟩
theorem row_tail {w : World} {base e size : Nat} {g n cap k : Nat} {xs : List Value} {cur cs : Array Value} (h : w.ownsRow base e size (.slice (some ⟨g, 0, none⟩) n cap) n xs) (hg : w.heap[g]? = some (.cells cur e (0, 0))) (hk : n * size ≤ k) (hcs : cs.size = cur.size) (ht : cs.toList.take k = cur.toList.take k) :
    (w.setRow g cs).ownsRow base e size (.slice (some ⟨g, 0, none⟩) n cap) n xs := by
  refine ⟨h.1, ?_⟩
  rcases h.2 with ⟨e1, _⟩ | ⟨g', cap', cur', e1, hb, hg', h3, h4, h5, h6⟩
  · simp at e1
  · simp only [Value.slice.injEq, Option.some.injEq, Addr.mk.injEq] at e1
    obtain ⟨⟨rfl, _⟩, _, rfl⟩ := e1
    rw [hg] at hg'
    simp only [Option.some.injEq, Obj.cells.injEq] at hg'
    obtain ⟨rfl, _⟩ := hg'
    have hgl : g < w.heap.size := (Array.getElem?_eq_some_iff.1 hg).1
    refine .inr ⟨g, cap, cs, rfl, hb, ?_, h3, h4, by rw [hcs]; exact h5, ?_⟩
    · simp only [World.setRow, Array.getElem?_modify]
      simp [hg]
    · rw [← h6]
      have e1 : cs.toList.take (n * size) = (cs.toList.take k).take (n * size) := by rw [List.take_take, Nat.min_eq_left hk]
      have e2 : cur.toList.take (n * size) = (cur.toList.take k).take (n * size) := by rw [List.take_take, Nat.min_eq_left hk]
      rw [e1, e2, ht]
theorem setRow_grown (w : World) (g : Nat) (cs : Array Value) : w.grownBy (w.setRow g cs) (some g) := ⟨rfl, rfl, rfl, by rw [setRow_size]; exact Nat.le_refl _, fun k _ hk => setRow_far (fun e => hk (by rw [e]))⟩
theorem grown_trans {w w1 w2 : World} {row : Option Nat} (h : w.grownBy w1 row) (k : w1.grownBy w2 row) : w.grownBy w2 row :=
  ⟨k.os.trans h.os, k.tape.trans h.tape, k.output.trans h.output, Nat.le_trans h.size k.size, fun q hq h1 => (k.block q (Nat.lt_of_lt_of_le hq h.size) h1).trans (h.block q hq h1)⟩
theorem row_cells {w : World} {base e size : Nat} {g n cap : Nat} {xs : List Value} (h : w.ownsRow base e size (.slice (some ⟨g, 0, none⟩) n cap) n xs) {o j : Nat} {u : Value} (hu : (xs.drop o)[j]? = some u) : w.cell? ((⟨g, o, none⟩ : Addr).add j) = some u := by
  rw [List.getElem?_drop] at hu
  have := h.cells (g := g) rfl (o + j) u hu
  have e : (⟨g, 0, none⟩ : Addr).add (o + j) = (⟨g, o, none⟩ : Addr).add j := by
    unfold Addr.add
    split <;> split <;> simp_all <;> omega
  rw [← e]
  exact this
theorem zc35 : Builtin.zeroCells (.int .i64 0 : Value).cells 1 = (.int .i64 0 : Value).cells := by kernel_rfl
set_option maxRecDepth 20000 in
set_option maxHeartbeats 4000000 in
theorem delete_ids {w : World} {base g n cap i : Nat} {xs : List Value} (hown : w.ownsRow base 35 1 (.slice (some ⟨g, 0, none⟩) n cap) n xs) (hone : ∀ u ∈ xs, u.oneCell' = true) (hi : i < n) (hn : n ≤ 1000) :
    Calls Tryz.prog 195 #[.slice (some ⟨g, 0, none⟩) n cap, .int .i64 (i : Int), .int .i64 ((i : Int) + 1)] w fun e w' => e = .returned (.slice (some ⟨g, 0, none⟩) (n - 1) cap) ∧ w'.ownsRow base 35 1 (.slice (some ⟨g, 0, none⟩) (n - 1) cap) (n - 1) (xs.take (i * 1) ++ xs.drop ((i + 1) * 1)) ∧ w.grownBy w' (some g) := by
  obtain ⟨q, rfl⟩ : ∃ q, n = q + 1 := ⟨n - 1, by omega⟩
  simp only [Nat.add_sub_cancel]
  obtain ⟨i0_, hi_, hzz, hz1, hz2⟩ := info_parts info35
  obtain ⟨cur0, hg0, hcs0, hnc⟩ := row_block hown
  have i0 : (0 : Int) ≤ i := by omega
  have i1 : (i : Int) + 1 ≤ ((q + 1 : Nat) : Int) := by omega
  have i2 : ((q + 1 : Nat) : Int) ≤ (cap : Int) := by omega
  have i3 : ((i : Int) == (i : Int) + 1) = false := by simp; omega
  have hpre := row_prefix hown (i := i) (by omega)
  have hdl : (xs.drop ((i + 1) * 1)).length = (q - i) * 1 := by rw [List.length_drop, hown.1]; omega
  have hone' : ∀ u ∈ xs.drop ((i + 1) * 1), u.oneCell' = true := fun u hu => hone u (List.mem_of_mem_drop hu)
  have HR := hideIt (fun (j : Nat) (u : Value) (hu : (xs.drop ((i + 1) * 1))[j]? = some u) => row_cells hown (o := (i + 1) * 1) hu)
  go_enter Tryz.func195, Tryz.ntmps195
  have eN : i + (q - i) = q := by omega
  have n6 : i ≤ q := by omega
  have i4 : (0 : Int) ≤ (i : Int) + 1 := by omega
  have n0 : i ≤ cap := by omega
  have n1 : i + 1 ≤ q + 1 := by omega
  have n3 : q + 1 ≤ cap := by omega
  have n4 : q ≤ cap := by omega
  have n5 : ¬ (cap = q) := by omega
  have n2 : i + 1 ≤ cap := by omega
  go_upto_region 5 with fail
  refine wp_region_held_drew (S := (fun _ => True)) (by kernel_rfl) trivial (fun hHeld => ?_)
  refine wpAnyH_take (i := 0) (oi := { dst := some 20, op := Go.Op.move (Go.Operand.tmp 0), type := 50, pos := _, after := #[], guard := none }) (v := ?vv1) rfl (by kernel_rfl) (by kernel_rfl) (by kernel_rfl) (fun _ _ _ h => h) (Or.inl ⟨by rfl, ?hy1⟩) (by assumption) ?tk1
  case hy1 => (intro w hSw; (try dsimp only at hSw); go_simp; (try with_reducible rfl))
  try simp only [Act.put, List.setIfInBounds_toArray, List.set_cons_zero, List.set_cons_succ]
  refine wpAnyH_take (i := 1) (oi := { dst := some 21, op := Go.Op.move (Go.Operand.tmp 1), type := 3, pos := _, after := #[], guard := none }) (v := ?vv2) rfl (by kernel_rfl) (by kernel_rfl) (by kernel_rfl) (fun _ _ _ h => h) (Or.inl ⟨by rfl, ?hy2⟩) (by assumption) ?tk2
  case hy2 => (intro w hSw; (try dsimp only at hSw); go_simp; (try with_reducible rfl))
  try simp only [Act.put, List.setIfInBounds_toArray, List.set_cons_zero, List.set_cons_succ]
  refine wpAnyH_take (i := 2) (oi := { dst := some 22, op := Go.Op.slice 50 (Go.Operand.tmp 20) none (some (Go.Operand.tmp 21)) none, type := 50, pos := _, after := #[{ on := 0, ground := Go.Ground.data }, { on := 1, ground := Go.Ground.data }], guard := none }) (v := ?vv3) rfl (by kernel_rfl) (by kernel_rfl) (by kernel_rfl) (fun _ _ _ h => h) (Or.inl ⟨by rfl, ?hy3⟩) (by assumption) ?tk3
  case hy3 => (intro w hSw; (try dsimp only at hSw); go_simp; (try with_reducible rfl))
  try simp only [Act.put, List.setIfInBounds_toArray, List.set_cons_zero, List.set_cons_succ]
  refine wpAnyH_take (i := 3) (oi := { dst := some 23, op := Go.Op.move (Go.Operand.tmp 0), type := 50, pos := _, after := #[], guard := none }) (v := ?vv4) rfl (by kernel_rfl) (by kernel_rfl) (by kernel_rfl) (fun _ _ _ h => h) (Or.inl ⟨by rfl, ?hy4⟩) (by assumption) ?tk4
  case hy4 => (intro w hSw; (try dsimp only at hSw); go_simp; (try with_reducible rfl))
  try simp only [Act.put, List.setIfInBounds_toArray, List.set_cons_zero, List.set_cons_succ]
  refine wpAnyH_take (i := 4) (oi := { dst := some 24, op := Go.Op.move (Go.Operand.tmp 2), type := 3, pos := _, after := #[], guard := none }) (v := ?vv5) rfl (by kernel_rfl) (by kernel_rfl) (by kernel_rfl) (fun _ _ _ h => h) (Or.inl ⟨by rfl, ?hy5⟩) (by assumption) ?tk5
  case hy5 => (intro w hSw; (try dsimp only at hSw); go_simp; (try with_reducible rfl))
  try simp only [Act.put, List.setIfInBounds_toArray, List.set_cons_zero, List.set_cons_succ]
  refine wpAnyH_take (i := 5) (oi := { dst := some 25, op := Go.Op.slice 50 (Go.Operand.tmp 23) (some (Go.Operand.tmp 24)) none none, type := 50, pos := _, after := #[{ on := 3, ground := Go.Ground.data }, { on := 4, ground := Go.Ground.data }], guard := none }) (v := ?vv6) rfl (by kernel_rfl) (by kernel_rfl) (by kernel_rfl) (fun _ _ _ h => h) (Or.inl ⟨by rfl, ?hy6⟩) (by assumption) ?tk6
  case hy6 => (intro w hSw; (try dsimp only at hSw); go_simp; (try with_reducible rfl))
  try simp only [Act.put, List.setIfInBounds_toArray, List.set_cons_zero, List.set_cons_succ]
  refine wpAnyH_ready (rs := [6]) (by kernel_rfl) (by simp) ?_
  refine AllReadyH.cons (o := { dst := some 26, op := Go.Op.call { callee := Go.Callee.builtin Go.Builtin.append, args := #[Go.Operand.tmp 22, Go.Operand.tmp 25], argTypes := #[50, 50] }, type := 50, pos := _, after := #[{ on := 2, ground := Go.Ground.data }, { on := 5, ground := Go.Ground.data }], guard := none }) rfl (fun K' hK' => ?_) AllReadyH.nil
  refine ite_take (by rfl) ?_
  refine wp_append_fits_any (.tmp 22) (.tmp 25) 50 rfl base 35 i0_ 1 Tryz.underlying50 hi_ hz1 g i cap (xs.take (i * 1)) rfl hpre _ (q - i) _ (xs.drop ((i + 1) * 1)) rfl hdl ?hn0 ?hsr hone' (by omega) ?hKK
  case hn0 =>
    intro h
    first | (split at h <;> simp at h) | simp at h
  case hsr =>
    intro ad had j u hu
    by_cases hq : q = i
    · rw [List.drop_eq_nil_of_le (by rw [hown.1]; omega)] at hu
      simp at hu
    · have hq' : ¬ (cap = i + 1) := by omega
      have had' : ad = ⟨g, (i + 1) * 1, none⟩ := by
        first | (simp [hq'] at had ⊢; exact had.symm) | (simp at had ⊢; exact had.symm)
      subst had'
      exact HR.out j u hu
  intro w3 hown3 hg3
  rw [eN] at hown3
  rw [eN]
  clear hHeld
  refine hK'.out _ _ trivial (fun hHeld => ?_)
  clear hK' K'
  try simp only [Act.put, List.setIfInBounds_toArray, List.set_cons_zero, List.set_cons_succ]
  refine wpAnyH_take (i := 7) (oi := { dst := some 0, op := Go.Op.assign (Go.Operand.tmp 26), type := 50, pos := _, after := #[{ on := 6, ground := Go.Ground.data }, { on := 6, ground := Go.Ground.chain }, { on := 0, ground := Go.Ground.phase }, { on := 1, ground := Go.Ground.phase }, { on := 2, ground := Go.Ground.phase }, { on := 3, ground := Go.Ground.phase }, { on := 4, ground := Go.Ground.phase }, { on := 5, ground := Go.Ground.phase }, { on := 6, ground := Go.Ground.phase }], guard := none }) (v := ?vv7) rfl (by kernel_rfl) (by kernel_rfl) (by kernel_rfl) (fun _ _ _ h => h) (Or.inl ⟨by rfl, ?hy7⟩) (by assumption) ?tk7
  case hy7 => (intro w hSw; (try dsimp only at hSw); go_simp; (try with_reducible rfl))
  try simp only [Act.put, List.setIfInBounds_toArray, List.set_cons_zero, List.set_cons_succ]
  refine wpAnyH_done (by kernel_rfl) ?_ _
  have hcb := row_block hown3
  obtain ⟨cur, hg4, hcs, _⟩ := hcb
  have hl4 : q * 1 + 1 ≤ cur.size := by rw [hcs]; have := Nat.mul_le_mul_right 1 n3; omega
  have hclr := fun ty c => run_clear1 w3 50 ty 35 (c := c) Tryz.underlying50 info35 rfl (by simp [Value.oneCell', Value.cells]) zc35 hg4 hl4
  have ho5 := row_tail (k := q * 1) (cs := (cur.toList.take (q * 1) ++ (.int .i64 0 : Value).cells.toList ++ cur.toList.drop (q * 1 + 1)).toArray) hown3 hg4 (Nat.le_refl _) (by simp [Value.cells]; omega) (by simp [List.take_append, List.take_take]; omega)
  generalize (cur.toList.take (q * 1) ++ (.int .i64 0 : Value).cells.toList ++ cur.toList.drop (q * 1 + 1)).toArray = cs5 at hclr ho5
  have HO := hideIt ho5
  clear ho5 hpre hdl hone' hg0 hcs0 hown hone
  simp only [Nat.mul_one] at hclr
  have hg3' : w.grownBy w3 (some g) := ⟨hg3.os, hg3.tape, hg3.output, hg3.size, hg3.block⟩
  generalize (if cap = i + 1 then some (⟨g, 0, none⟩ : Addr) else some ⟨g, i + 1, none⟩) = ao
  go_wp2
  go_ret
  refine ⟨rfl, ?_, grown_trans hg3' (setRow_grown _ _ _)⟩
  first | exact HO.out | (have := HO.out; simp only [Nat.mul_one] at this; exact this)
theorem zc40 : Builtin.zeroCells (.agg #[.int .i64 0, .int .i64 0, .int .u32 0, .int .u64 0, .int .u64 0, .int .u64 0, .int .u64 0, .int .u64 0, .int .u64 0] : Value).cells 1 = (.agg #[.int .i64 0, .int .i64 0, .int .u32 0, .int .u64 0, .int .u64 0, .int .u64 0, .int .u64 0, .int .u64 0, .int .u64 0] : Value).cells := by kernel_rfl
set_option maxRecDepth 20000 in
set_option maxHeartbeats 4000000 in
theorem delete_msgs {w : World} {base g n cap i : Nat} {xs : List Value} (hown : w.ownsRow base 40 9 (.slice (some ⟨g, 0, none⟩) n cap) n xs) (hone : ∀ u ∈ xs, u.oneCell' = true) (hi : i < n) (hn : n ≤ 1000) :
    Calls Tryz.prog 155 #[.slice (some ⟨g, 0, none⟩) n cap, .int .i64 (i : Int), .int .i64 ((i : Int) + 1)] w fun e w' => e = .returned (.slice (some ⟨g, 0, none⟩) (n - 1) cap) ∧ w'.ownsRow base 40 9 (.slice (some ⟨g, 0, none⟩) (n - 1) cap) (n - 1) (xs.take (i * 9) ++ xs.drop ((i + 1) * 9)) ∧ w.grownBy w' (some g) := by
  obtain ⟨q, rfl⟩ : ∃ q, n = q + 1 := ⟨n - 1, by omega⟩
  simp only [Nat.add_sub_cancel]
  obtain ⟨i0_, hi_, hzz, hz1, hz2⟩ := info_parts info40
  obtain ⟨cur0, hg0, hcs0, hnc⟩ := row_block hown
  have i0 : (0 : Int) ≤ i := by omega
  have i1 : (i : Int) + 1 ≤ ((q + 1 : Nat) : Int) := by omega
  have i2 : ((q + 1 : Nat) : Int) ≤ (cap : Int) := by omega
  have i3 : ((i : Int) == (i : Int) + 1) = false := by simp; omega
  have hpre := row_prefix hown (i := i) (by omega)
  have hdl : (xs.drop ((i + 1) * 9)).length = (q - i) * 9 := by rw [List.length_drop, hown.1]; omega
  have hone' : ∀ u ∈ xs.drop ((i + 1) * 9), u.oneCell' = true := fun u hu => hone u (List.mem_of_mem_drop hu)
  have HR := hideIt (fun (j : Nat) (u : Value) (hu : (xs.drop ((i + 1) * 9))[j]? = some u) => row_cells hown (o := (i + 1) * 9) hu)
  go_enter Tryz.func155, Tryz.ntmps155
  have eN : i + (q - i) = q := by omega
  have n6 : i ≤ q := by omega
  have i4 : (0 : Int) ≤ (i : Int) + 1 := by omega
  have n0 : i ≤ cap := by omega
  have n1 : i + 1 ≤ q + 1 := by omega
  have n3 : q + 1 ≤ cap := by omega
  have n4 : q ≤ cap := by omega
  have n5 : ¬ (cap = q) := by omega
  have n2 : i + 1 ≤ cap := by omega
  go_upto_region 5 with fail
  refine wp_region_held_drew (S := (fun _ => True)) (by kernel_rfl) trivial (fun hHeld => ?_)
  refine wpAnyH_take (i := 0) (oi := { dst := some 20, op := Go.Op.move (Go.Operand.tmp 0), type := 56, pos := _, after := #[], guard := none }) (v := ?vv8) rfl (by kernel_rfl) (by kernel_rfl) (by kernel_rfl) (fun _ _ _ h => h) (Or.inl ⟨by rfl, ?hy8⟩) (by assumption) ?tk8
  case hy8 => (intro w hSw; (try dsimp only at hSw); go_simp; (try with_reducible rfl))
  try simp only [Act.put, List.setIfInBounds_toArray, List.set_cons_zero, List.set_cons_succ]
  refine wpAnyH_take (i := 1) (oi := { dst := some 21, op := Go.Op.move (Go.Operand.tmp 1), type := 3, pos := _, after := #[], guard := none }) (v := ?vv9) rfl (by kernel_rfl) (by kernel_rfl) (by kernel_rfl) (fun _ _ _ h => h) (Or.inl ⟨by rfl, ?hy9⟩) (by assumption) ?tk9
  case hy9 => (intro w hSw; (try dsimp only at hSw); go_simp; (try with_reducible rfl))
  try simp only [Act.put, List.setIfInBounds_toArray, List.set_cons_zero, List.set_cons_succ]
  refine wpAnyH_take (i := 2) (oi := { dst := some 22, op := Go.Op.slice 56 (Go.Operand.tmp 20) none (some (Go.Operand.tmp 21)) none, type := 56, pos := _, after := #[{ on := 0, ground := Go.Ground.data }, { on := 1, ground := Go.Ground.data }], guard := none }) (v := ?vv10) rfl (by kernel_rfl) (by kernel_rfl) (by kernel_rfl) (fun _ _ _ h => h) (Or.inl ⟨by rfl, ?hy10⟩) (by assumption) ?tk10
  case hy10 => (intro w hSw; (try dsimp only at hSw); go_simp; (try with_reducible rfl))
  try simp only [Act.put, List.setIfInBounds_toArray, List.set_cons_zero, List.set_cons_succ]
  refine wpAnyH_take (i := 3) (oi := { dst := some 23, op := Go.Op.move (Go.Operand.tmp 0), type := 56, pos := _, after := #[], guard := none }) (v := ?vv11) rfl (by kernel_rfl) (by kernel_rfl) (by kernel_rfl) (fun _ _ _ h => h) (Or.inl ⟨by rfl, ?hy11⟩) (by assumption) ?tk11
  case hy11 => (intro w hSw; (try dsimp only at hSw); go_simp; (try with_reducible rfl))
  try simp only [Act.put, List.setIfInBounds_toArray, List.set_cons_zero, List.set_cons_succ]
  refine wpAnyH_take (i := 4) (oi := { dst := some 24, op := Go.Op.move (Go.Operand.tmp 2), type := 3, pos := _, after := #[], guard := none }) (v := ?vv12) rfl (by kernel_rfl) (by kernel_rfl) (by kernel_rfl) (fun _ _ _ h => h) (Or.inl ⟨by rfl, ?hy12⟩) (by assumption) ?tk12
  case hy12 => (intro w hSw; (try dsimp only at hSw); go_simp; (try with_reducible rfl))
  try simp only [Act.put, List.setIfInBounds_toArray, List.set_cons_zero, List.set_cons_succ]
  refine wpAnyH_take (i := 5) (oi := { dst := some 25, op := Go.Op.slice 56 (Go.Operand.tmp 23) (some (Go.Operand.tmp 24)) none none, type := 56, pos := _, after := #[{ on := 3, ground := Go.Ground.data }, { on := 4, ground := Go.Ground.data }], guard := none }) (v := ?vv13) rfl (by kernel_rfl) (by kernel_rfl) (by kernel_rfl) (fun _ _ _ h => h) (Or.inl ⟨by rfl, ?hy13⟩) (by assumption) ?tk13
  case hy13 => (intro w hSw; (try dsimp only at hSw); go_simp; (try with_reducible rfl))
  try simp only [Act.put, List.setIfInBounds_toArray, List.set_cons_zero, List.set_cons_succ]
  refine wpAnyH_ready (rs := [6]) (by kernel_rfl) (by simp) ?_
  refine AllReadyH.cons (o := { dst := some 26, op := Go.Op.call { callee := Go.Callee.builtin Go.Builtin.append, args := #[Go.Operand.tmp 22, Go.Operand.tmp 25], argTypes := #[56, 56] }, type := 56, pos := _, after := #[{ on := 2, ground := Go.Ground.data }, { on := 5, ground := Go.Ground.data }], guard := none }) rfl (fun K' hK' => ?_) AllReadyH.nil
  refine ite_take (by rfl) ?_
  refine wp_append_fits_any (.tmp 22) (.tmp 25) 56 rfl base 40 i0_ 9 Tryz.underlying56 hi_ hz1 g i cap (xs.take (i * 9)) rfl hpre _ (q - i) _ (xs.drop ((i + 1) * 9)) rfl hdl ?hn0 ?hsr hone' (by omega) ?hKK
  case hn0 =>
    intro h
    first | (split at h <;> simp at h) | simp at h
  case hsr =>
    intro ad had j u hu
    by_cases hq : q = i
    · rw [List.drop_eq_nil_of_le (by rw [hown.1]; omega)] at hu
      simp at hu
    · have hq' : ¬ (cap = i + 1) := by omega
      have had' : ad = ⟨g, (i + 1) * 9, none⟩ := by
        first | (simp [hq'] at had ⊢; exact had.symm) | (simp at had ⊢; exact had.symm)
      subst had'
      exact HR.out j u hu
  intro w3 hown3 hg3
  rw [eN] at hown3
  rw [eN]
  clear hHeld
  refine hK'.out _ _ trivial (fun hHeld => ?_)
  clear hK' K'
  try simp only [Act.put, List.setIfInBounds_toArray, List.set_cons_zero, List.set_cons_succ]
  refine wpAnyH_take (i := 7) (oi := { dst := some 0, op := Go.Op.assign (Go.Operand.tmp 26), type := 56, pos := _, after := #[{ on := 6, ground := Go.Ground.data }, { on := 6, ground := Go.Ground.chain }, { on := 0, ground := Go.Ground.phase }, { on := 1, ground := Go.Ground.phase }, { on := 2, ground := Go.Ground.phase }, { on := 3, ground := Go.Ground.phase }, { on := 4, ground := Go.Ground.phase }, { on := 5, ground := Go.Ground.phase }, { on := 6, ground := Go.Ground.phase }], guard := none }) (v := ?vv14) rfl (by kernel_rfl) (by kernel_rfl) (by kernel_rfl) (fun _ _ _ h => h) (Or.inl ⟨by rfl, ?hy14⟩) (by assumption) ?tk14
  case hy14 => (intro w hSw; (try dsimp only at hSw); go_simp; (try with_reducible rfl))
  try simp only [Act.put, List.setIfInBounds_toArray, List.set_cons_zero, List.set_cons_succ]
  refine wpAnyH_done (by kernel_rfl) ?_ _
  have hcb := row_block hown3
  obtain ⟨cur, hg4, hcs, _⟩ := hcb
  have hl4 : q * 9 + 9 ≤ cur.size := by rw [hcs]; have := Nat.mul_le_mul_right 9 n3; omega
  have hclr := fun ty c => run_clear1 w3 56 ty 40 (c := c) Tryz.underlying56 info40 rfl (by simp [Value.oneCell', Value.cells]) zc40 hg4 hl4
  have ho5 := row_tail (k := q * 9) (cs := (cur.toList.take (q * 9) ++ (.agg #[.int .i64 0, .int .i64 0, .int .u32 0, .int .u64 0, .int .u64 0, .int .u64 0, .int .u64 0, .int .u64 0, .int .u64 0] : Value).cells.toList ++ cur.toList.drop (q * 9 + 9)).toArray) hown3 hg4 (Nat.le_refl _) (by simp [Value.cells]; omega) (by simp [List.take_append, List.take_take]; omega)
  generalize (cur.toList.take (q * 9) ++ (.agg #[.int .i64 0, .int .i64 0, .int .u32 0, .int .u64 0, .int .u64 0, .int .u64 0, .int .u64 0, .int .u64 0, .int .u64 0] : Value).cells.toList ++ cur.toList.drop (q * 9 + 9)).toArray = cs5 at hclr ho5
  have HO := hideIt ho5
  clear ho5 hpre hdl hone' hg0 hcs0 hown hone
  have hg3' : w.grownBy w3 (some g) := ⟨hg3.os, hg3.tape, hg3.output, hg3.size, hg3.block⟩
  generalize (if cap = i + 1 then some (⟨g, 0, none⟩ : Addr) else some ⟨g, (i + 1) * 9, none⟩) = ao
  go_wp2
  go_ret
  refine ⟨rfl, ?_, grown_trans hg3' (setRow_grown _ _ _)⟩
  first | exact HO.out | (have := HO.out; simp only [Nat.mul_one] at this; exact this)
theorem zc84 : Builtin.zeroCells (.agg #[.int .u64 0, .int .i64 0, .int .u64 0, .int .u64 0] : Value).cells 1 = (.agg #[.int .u64 0, .int .i64 0, .int .u64 0, .int .u64 0] : Value).cells := by kernel_rfl
set_option maxRecDepth 20000 in
set_option maxHeartbeats 4000000 in
theorem delete_tms {w : World} {base g n cap i : Nat} {xs : List Value} (hown : w.ownsRow base 84 4 (.slice (some ⟨g, 0, none⟩) n cap) n xs) (hone : ∀ u ∈ xs, u.oneCell' = true) (hi : i < n) (hn : n ≤ 1000) :
    Calls Tryz.prog 159 #[.slice (some ⟨g, 0, none⟩) n cap, .int .i64 (i : Int), .int .i64 ((i : Int) + 1)] w fun e w' => e = .returned (.slice (some ⟨g, 0, none⟩) (n - 1) cap) ∧ w'.ownsRow base 84 4 (.slice (some ⟨g, 0, none⟩) (n - 1) cap) (n - 1) (xs.take (i * 4) ++ xs.drop ((i + 1) * 4)) ∧ w.grownBy w' (some g) := by
  obtain ⟨q, rfl⟩ : ∃ q, n = q + 1 := ⟨n - 1, by omega⟩
  simp only [Nat.add_sub_cancel]
  obtain ⟨i0_, hi_, hzz, hz1, hz2⟩ := info_parts info84
  obtain ⟨cur0, hg0, hcs0, hnc⟩ := row_block hown
  have i0 : (0 : Int) ≤ i := by omega
  have i1 : (i : Int) + 1 ≤ ((q + 1 : Nat) : Int) := by omega
  have i2 : ((q + 1 : Nat) : Int) ≤ (cap : Int) := by omega
  have i3 : ((i : Int) == (i : Int) + 1) = false := by simp; omega
  have hpre := row_prefix hown (i := i) (by omega)
  have hdl : (xs.drop ((i + 1) * 4)).length = (q - i) * 4 := by rw [List.length_drop, hown.1]; omega
  have hone' : ∀ u ∈ xs.drop ((i + 1) * 4), u.oneCell' = true := fun u hu => hone u (List.mem_of_mem_drop hu)
  have HR := hideIt (fun (j : Nat) (u : Value) (hu : (xs.drop ((i + 1) * 4))[j]? = some u) => row_cells hown (o := (i + 1) * 4) hu)
  go_enter Tryz.func159, Tryz.ntmps159
  have eN : i + (q - i) = q := by omega
  have n6 : i ≤ q := by omega
  have i4 : (0 : Int) ≤ (i : Int) + 1 := by omega
  have n0 : i ≤ cap := by omega
  have n1 : i + 1 ≤ q + 1 := by omega
  have n3 : q + 1 ≤ cap := by omega
  have n4 : q ≤ cap := by omega
  have n5 : ¬ (cap = q) := by omega
  have n2 : i + 1 ≤ cap := by omega
  go_upto_region 5 with fail
  refine wp_region_held_drew (S := (fun _ => True)) (by kernel_rfl) trivial (fun hHeld => ?_)
  refine wpAnyH_take (i := 0) (oi := { dst := some 20, op := Go.Op.move (Go.Operand.tmp 0), type := 59, pos := _, after := #[], guard := none }) (v := ?vv15) rfl (by kernel_rfl) (by kernel_rfl) (by kernel_rfl) (fun _ _ _ h => h) (Or.inl ⟨by rfl, ?hy15⟩) (by assumption) ?tk15
  case hy15 => (intro w hSw; (try dsimp only at hSw); go_simp; (try with_reducible rfl))
  try simp only [Act.put, List.setIfInBounds_toArray, List.set_cons_zero, List.set_cons_succ]
  refine wpAnyH_take (i := 1) (oi := { dst := some 21, op := Go.Op.move (Go.Operand.tmp 1), type := 3, pos := _, after := #[], guard := none }) (v := ?vv16) rfl (by kernel_rfl) (by kernel_rfl) (by kernel_rfl) (fun _ _ _ h => h) (Or.inl ⟨by rfl, ?hy16⟩) (by assumption) ?tk16
  case hy16 => (intro w hSw; (try dsimp only at hSw); go_simp; (try with_reducible rfl))
  try simp only [Act.put, List.setIfInBounds_toArray, List.set_cons_zero, List.set_cons_succ]
  refine wpAnyH_take (i := 2) (oi := { dst := some 22, op := Go.Op.slice 59 (Go.Operand.tmp 20) none (some (Go.Operand.tmp 21)) none, type := 59, pos := _, after := #[{ on := 0, ground := Go.Ground.data }, { on := 1, ground := Go.Ground.data }], guard := none }) (v := ?vv17) rfl (by kernel_rfl) (by kernel_rfl) (by kernel_rfl) (fun _ _ _ h => h) (Or.inl ⟨by rfl, ?hy17⟩) (by assumption) ?tk17
  case hy17 => (intro w hSw; (try dsimp only at hSw); go_simp; (try with_reducible rfl))
  try simp only [Act.put, List.setIfInBounds_toArray, List.set_cons_zero, List.set_cons_succ]
  refine wpAnyH_take (i := 3) (oi := { dst := some 23, op := Go.Op.move (Go.Operand.tmp 0), type := 59, pos := _, after := #[], guard := none }) (v := ?vv18) rfl (by kernel_rfl) (by kernel_rfl) (by kernel_rfl) (fun _ _ _ h => h) (Or.inl ⟨by rfl, ?hy18⟩) (by assumption) ?tk18
  case hy18 => (intro w hSw; (try dsimp only at hSw); go_simp; (try with_reducible rfl))
  try simp only [Act.put, List.setIfInBounds_toArray, List.set_cons_zero, List.set_cons_succ]
  refine wpAnyH_take (i := 4) (oi := { dst := some 24, op := Go.Op.move (Go.Operand.tmp 2), type := 3, pos := _, after := #[], guard := none }) (v := ?vv19) rfl (by kernel_rfl) (by kernel_rfl) (by kernel_rfl) (fun _ _ _ h => h) (Or.inl ⟨by rfl, ?hy19⟩) (by assumption) ?tk19
  case hy19 => (intro w hSw; (try dsimp only at hSw); go_simp; (try with_reducible rfl))
  try simp only [Act.put, List.setIfInBounds_toArray, List.set_cons_zero, List.set_cons_succ]
  refine wpAnyH_take (i := 5) (oi := { dst := some 25, op := Go.Op.slice 59 (Go.Operand.tmp 23) (some (Go.Operand.tmp 24)) none none, type := 59, pos := _, after := #[{ on := 3, ground := Go.Ground.data }, { on := 4, ground := Go.Ground.data }], guard := none }) (v := ?vv20) rfl (by kernel_rfl) (by kernel_rfl) (by kernel_rfl) (fun _ _ _ h => h) (Or.inl ⟨by rfl, ?hy20⟩) (by assumption) ?tk20
  case hy20 => (intro w hSw; (try dsimp only at hSw); go_simp; (try with_reducible rfl))
  try simp only [Act.put, List.setIfInBounds_toArray, List.set_cons_zero, List.set_cons_succ]
  refine wpAnyH_ready (rs := [6]) (by kernel_rfl) (by simp) ?_
  refine AllReadyH.cons (o := { dst := some 26, op := Go.Op.call { callee := Go.Callee.builtin Go.Builtin.append, args := #[Go.Operand.tmp 22, Go.Operand.tmp 25], argTypes := #[59, 59] }, type := 59, pos := _, after := #[{ on := 2, ground := Go.Ground.data }, { on := 5, ground := Go.Ground.data }], guard := none }) rfl (fun K' hK' => ?_) AllReadyH.nil
  refine ite_take (by rfl) ?_
  refine wp_append_fits_any (.tmp 22) (.tmp 25) 59 rfl base 84 i0_ 4 Tryz.underlying59 hi_ hz1 g i cap (xs.take (i * 4)) rfl hpre _ (q - i) _ (xs.drop ((i + 1) * 4)) rfl hdl ?hn0 ?hsr hone' (by omega) ?hKK
  case hn0 =>
    intro h
    first | (split at h <;> simp at h) | simp at h
  case hsr =>
    intro ad had j u hu
    by_cases hq : q = i
    · rw [List.drop_eq_nil_of_le (by rw [hown.1]; omega)] at hu
      simp at hu
    · have hq' : ¬ (cap = i + 1) := by omega
      have had' : ad = ⟨g, (i + 1) * 4, none⟩ := by
        first | (simp [hq'] at had ⊢; exact had.symm) | (simp at had ⊢; exact had.symm)
      subst had'
      exact HR.out j u hu
  intro w3 hown3 hg3
  rw [eN] at hown3
  rw [eN]
  clear hHeld
  refine hK'.out _ _ trivial (fun hHeld => ?_)
  clear hK' K'
  try simp only [Act.put, List.setIfInBounds_toArray, List.set_cons_zero, List.set_cons_succ]
  refine wpAnyH_take (i := 7) (oi := { dst := some 0, op := Go.Op.assign (Go.Operand.tmp 26), type := 59, pos := _, after := #[{ on := 6, ground := Go.Ground.data }, { on := 6, ground := Go.Ground.chain }, { on := 0, ground := Go.Ground.phase }, { on := 1, ground := Go.Ground.phase }, { on := 2, ground := Go.Ground.phase }, { on := 3, ground := Go.Ground.phase }, { on := 4, ground := Go.Ground.phase }, { on := 5, ground := Go.Ground.phase }, { on := 6, ground := Go.Ground.phase }], guard := none }) (v := ?vv21) rfl (by kernel_rfl) (by kernel_rfl) (by kernel_rfl) (fun _ _ _ h => h) (Or.inl ⟨by rfl, ?hy21⟩) (by assumption) ?tk21
  case hy21 => (intro w hSw; (try dsimp only at hSw); go_simp; (try with_reducible rfl))
  try simp only [Act.put, List.setIfInBounds_toArray, List.set_cons_zero, List.set_cons_succ]
  refine wpAnyH_done (by kernel_rfl) ?_ _
  have hcb := row_block hown3
  obtain ⟨cur, hg4, hcs, _⟩ := hcb
  have hl4 : q * 4 + 4 ≤ cur.size := by rw [hcs]; have := Nat.mul_le_mul_right 4 n3; omega
  have hclr := fun ty c => run_clear1 w3 59 ty 84 (c := c) Tryz.underlying59 info84 rfl (by simp [Value.oneCell', Value.cells]) zc84 hg4 hl4
  have ho5 := row_tail (k := q * 4) (cs := (cur.toList.take (q * 4) ++ (.agg #[.int .u64 0, .int .i64 0, .int .u64 0, .int .u64 0] : Value).cells.toList ++ cur.toList.drop (q * 4 + 4)).toArray) hown3 hg4 (Nat.le_refl _) (by simp [Value.cells]; omega) (by simp [List.take_append, List.take_take]; omega)
  generalize (cur.toList.take (q * 4) ++ (.agg #[.int .u64 0, .int .i64 0, .int .u64 0, .int .u64 0] : Value).cells.toList ++ cur.toList.drop (q * 4 + 4)).toArray = cs5 at hclr ho5
  have HO := hideIt ho5
  clear ho5 hpre hdl hone' hg0 hcs0 hown hone
  have hg3' : w.grownBy w3 (some g) := ⟨hg3.os, hg3.tape, hg3.output, hg3.size, hg3.block⟩
  generalize (if cap = i + 1 then some (⟨g, 0, none⟩ : Addr) else some ⟨g, (i + 1) * 4, none⟩) = ao
  go_wp2
  go_ret
  refine ⟨rfl, ?_, grown_trans hg3' (setRow_grown _ _ _)⟩
  first | exact HO.out | (have := HO.out; simp only [Nat.mul_one] at this; exact this)
end Go.Proofs.Qxb6500877aGreatDoor
