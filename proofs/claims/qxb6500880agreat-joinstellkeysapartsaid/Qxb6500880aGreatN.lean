import Derived.Deep.CutBlock
import Derived.OwnWalk
import Derived.Maps.AppendAt
import Derived.Maps.OwnSet
import Derived.Maps.OwnOps
import Derived.Laws.ResultCell
import Derived.Test.Qxb6500880aGreatM
set_option linter.unusedVariables false
set_option linter.unusedSimpArgs false
namespace Go.Proofs.Qxb6500880aGreat
open Go.RowKit

theorem ite_take {c : Prop} [Decidable c] {A B : Prop} (h : c) (ha : A) : if c then A else B := by rw [if_pos h]; exact ha
theorem wp_append_own_at {P : Program} {w : World} {o : Oper} {a : Act} {K : Act → World → Prop} {Q : Exit → Act → World → Prop} (s x : Operand) (t : TypeId)
    (ho : o.op = .call { callee := .builtin .append, args := #[s, x], argTypes := #[t, t] })
    (base : Nat) (e : TypeId) (i : TypeInfo) (z : Value) (size bytes : Nat) (ht : P.underlying t = some (.slice e)) (hi : P.info? e = some i) (hz : i.zero = some z)
    (hsize : i.size = size) (hby : i.bytes = bytes) (hzs : z.cells.size = size) (hsz : 0 < size)
    (v : Value) (n : Nat) (xs : List Value) (hs : a.eval s = v) (hown : w.ownsRow base e size v n xs)
    (ad : Addr) (m c : Nat) (news : List Value) (hx : a.eval x = .slice (some ad) m c) (hl : news.length = m * size) (hnews : ∀ j u, news[j]? = some u → w.cell? (ad.add j) = some u) (h1 : ∀ u ∈ news, u.oneCell' = true)
    (h63 : n + m ≤ maxLen) (hbytes : (n + m) * bytes ≤ 140737488355328) (hbase : base ≤ w.heap.size)
    (h : ∀ v' w', w'.ownsRow base e size v' (n + m) (xs ++ news) → w.grownBy w' v.ownBlock → (v'.ownBlock = v.ownBlock ∨ v'.ownBlock = some w.heap.size) → K (a.put o.dst v') w') : o.wp P a w K Q := by
  obtain ⟨v', w', hr, h2, h3, h4, h5⟩ := run_append_own_at (P := P) w base t o.type e i z size bytes ht hi hz hsize hby hzs hsz v n xs hown ad m c news hl hnews h1 h63 hbytes hbase
  unfold Oper.wp execOp
  simp only [ho, resolve, invoke, builtin, Sem.run_bind, Sem.run_pure, Result.andThen_ok, List.map_toArray, List.map_cons, List.map_nil, hs, hx, hr]
  exact h v' w' h2 h3 h5
def jC (rb : Nat → Nat) (l : Nat → Value) : Nat → List Value
  | 0 => []
  | i + 1 => jC rb l i ++ [.pointer (some ⟨rb i, 0, none⟩), l i, .int .i64 (i : Int)]
def updV (l : Nat → Value) (i : Nat) (v : Value) : Nat → Value := fun j => if j = i then v else l j
theorem jC_upd (rb : Nat → Nat) (l : Nat → Value) (i : Nat) (v : Value) : ∀ k, k ≤ i → jC rb (updV l i v) k = jC rb l k
  | 0, _ => rfl
  | k + 1, h => by
    have e : updV l i v k = l k := if_neg (by omega)
    unfold jC
    rw [jC_upd rb l i v k (by omega), e]
/-- The rule in hand: its head, its joins so far. -/
structure RuF (w : World) (RB hb : Nat) (rb : Nat → Nat) (base : Nat) (hv J : Value) (l : Nat → Value) (i : Nat) (rg : Int) : Prop where
  id : w.cell? ⟨RB, 0, none⟩ = some (.int .i64 0)
  hr : w.cell? ⟨RB, 1, none⟩ = some (.pointer (some ⟨hb, 0, none⟩))
  ha : w.cell? ⟨RB, 2, none⟩ = some (hv)
  hl : w.cell? ⟨RB, 3, none⟩ = some (.int .i64 (-1))
  jo : w.cell? ⟨RB, 4, none⟩ = some (J)
  fi : w.cell? ⟨RB, 5, none⟩ = some (.slice none 0 0)
  fo : w.cell? ⟨RB, 6, none⟩ = some (.slice none 0 0)
  rg : w.cell? ⟨RB, 7, none⟩ = some (.int .i64 rg)
  fz : ∀ o, w.frozen? ⟨RB, o, none⟩ = false
  own : w.ownsRow base 102 3 J i (jC rb l i)
theorem RuF.keep {w w' : World} {RB hb base : Nat} {rb : Nat → Nat} {hv J : Value} {l : Nat → Value} {i : Nat} {rg : Int} (h : RuF w RB hb rb base hv J l i rg) (e : w'.heap[RB]? = w.heap[RB]?) (hj : ∀ q, J.ownBlock = some q → w'.heap[q]? = w.heap[q]?) : RuF w' RB hb rb base hv J l i rg :=
  ⟨(World.cell?_of_block (a := ⟨RB, 0, none⟩) e).trans h.id, (World.cell?_of_block (a := ⟨RB, 1, none⟩) e).trans h.hr, (World.cell?_of_block (a := ⟨RB, 2, none⟩) e).trans h.ha, (World.cell?_of_block (a := ⟨RB, 3, none⟩) e).trans h.hl, (World.cell?_of_block (a := ⟨RB, 4, none⟩) e).trans h.jo, (World.cell?_of_block (a := ⟨RB, 5, none⟩) e).trans h.fi, (World.cell?_of_block (a := ⟨RB, 6, none⟩) e).trans h.fo, (World.cell?_of_block (a := ⟨RB, 7, none⟩) e).trans h.rg, fun o => (World.frozen?_of_block (a := ⟨RB, o, none⟩) e).trans (h.fz o), own_one h.own hj⟩
theorem RuF.lt {w : World} {RB hb base : Nat} {rb : Nat → Nat} {hv J : Value} {l : Nat → Value} {i : Nat} {rg : Int} (h : RuF w RB hb rb base hv J l i rg) : RB < w.heap.size := World.block_lt_of_cell? _ _ h.id
theorem RuF.below {w w' : World} {RB hb base : Nat} {rb : Nat → Nat} {hv J : Value} {l : Nat → Value} {i : Nat} {rg : Int} (h : RuF w RB hb rb base hv J l i rg) (hb' : Below w.heap.size w w') : RuF w' RB hb rb base hv J l i rg :=
  h.keep (hb'.block RB h.lt) (fun q hq => hb'.block q (h.own.lt q hq).2)
theorem RuF.push {w wa w3 : World} {RB hb base : Nat} {rb : Nat → Nat} {hv J J' v : Value} {l : Nat → Value} {i : Nat} {rg : Int} (h : RuF w RB hb rb base hv J l i rg) (hRB : RB < base) (ho : w3.ownsRow base 102 3 J' (i + 1) (jC rb l i ++ [.pointer (some ⟨rb i, 0, none⟩), v, .int .i64 (i : Int)])) (hbA : Below w.heap.size w wa) (hg : wa.grownBy w3 J.ownBlock) : RuF (w3.setCell ⟨RB, 4, none⟩ J') RB hb rb base hv J' (updV l i v) (i + 1) rg := by
  have hl := h.lt
  have hsz := hbA.size
  have hr : some RB ≠ J.ownBlock := fun e => by have := (h.own.lt RB e.symm).1; omega
  have eb : w3.heap[RB]? = w.heap[RB]? := (hg.block RB (by omega) hr).trans (hbA.block RB hl)
  have o : ∀ j, j ≠ 4 → (w3.setCell ⟨RB, 4, none⟩ J').cell? ⟨RB, j, none⟩ = w.cell? ⟨RB, j, none⟩ := fun j hj => (World.cell?_setCell_other _ _ _ _ (by simp <;> omega)).trans (World.cell?_of_block (a := ⟨RB, j, none⟩) eb)
  have j4 : w3.cell? ⟨RB, 4, none⟩ = some J := (World.cell?_of_block (a := ⟨RB, 4, none⟩) eb).trans h.jo
  have e1 : jC rb (updV l i v) (i + 1) = jC rb l i ++ [.pointer (some ⟨rb i, 0, none⟩), v, .int .i64 (i : Int)] := by
    show jC rb (updV l i v) i ++ _ = _
    rw [jC_upd rb l i v i (Nat.le_refl _)]
    have : updV l i v i = v := if_pos rfl
    rw [this]
  refine ⟨(o 0 (by omega)).trans h.id, (o 1 (by omega)).trans h.hr, (o 2 (by omega)).trans h.ha, (o 3 (by omega)).trans h.hl, World.cell?_setCell_same _ _ _ j4, (o 5 (by omega)).trans h.fi, (o 6 (by omega)).trans h.fo, (o 7 (by omega)).trans h.rg, fun o => (World.frozen?_setCell _ _ _ _).trans ((World.frozen?_of_block (a := ⟨RB, o, none⟩) eb).trans (h.fz o)), ?_⟩
  rw [e1]
  exact own_one ho (fun q hq => far_set (fun e => by have := (ho.lt q hq).1; omega))
theorem info102 : (Tryz.prog.info? 102).map (fun i => (i.zero, i.size, i.bytes)) = some (some (.agg #[.pointer none, .slice none 0 0, .int .i64 0]), 3, 40) := by kernel_rfl
theorem cell_new3 (w : World) (a b c : Value) : ∀ j u, ([a, b, c] : List Value)[j]? = some u → (w.alloc (.cells #[a, b, c] 102)).cell? ((⟨w.heap.size, 0, none⟩ : Addr).add j) = some u := by
  intro j u h
  match j, h with
  | 0, h => simp at h; subst h; simp [Addr.add]
  | 1, h => simp at h; subst h; simp [Addr.add]
  | 2, h => simp at h; subst h; simp [Addr.add]
  | j + 3, h => simp at h
set_option maxRecDepth 20000 in
set_option maxHeartbeats 8000000 in
theorem literal_any {w : World} {CB E mb nb rb hb RB base k kk n i : Nat} {hv J v : Value} {rg : Int} {l : Nat → Value} {s sh : RelS} {f : Nat → Nat} {fn : Fin 4 → Option Nat} {rf : Nat → Nat} {key kh : Fin 4} (HC : CoAt w CB E mb) (HE : w.cell? ⟨E, 6, none⟩ = some (.map (some nb))) (HN : MapN w nb kk fn) (hfn : fn key = some rb) (hrf : rf i = rb) (HR : RelAt w rb (nmS key) s) (HH : RelAt w hb (nmS kh) sh) (hA : s.A = n) (HT : TermsAt w v n f) (HM : MapR w mb k (idM k)) (hf : ∀ j, j < n → f j ≤ kA k f j) (hvm : v.ownBlock ≠ some mb) (hn : n ≤ 100) (hn0 : 0 < n) (hk : k ≤ 1000) (U : RuF w RB hb rf base hv J l i rg) (hi : i ≤ 100) (hd : CB ≠ mb ∧ RB ≠ mb ∧ hb ≠ mb ∧ rb ≠ mb ∧ RB < base ∧ base ≤ w.heap.size ∧ mb < base) :
    Calls Tryz.prog 26 #[.pointer (some ⟨CB, 0, none⟩), .pointer (some ⟨RB, 0, none⟩), .agg #[.int .u8 0, .int .u8 0, .string (nmS key), v], .int .i64 (i : Int)] w fun e w' => e = .returned (.int .u8 0) ∧ ∃ v' J', OpsAt w' v' n f ∧ (∃ q, v'.ownBlock = some q ∧ w.heap.size ≤ q ∧ J'.ownBlock ≠ some q) ∧ RuF w' RB hb rf base hv J' (updV l i v') (i + 1) rg ∧ MapR w' mb (kA k f n) (idM (kA k f n)) ∧ (J'.ownBlock = J.ownBlock ∨ ∃ q, J'.ownBlock = some q ∧ w.heap.size ≤ q) ∧ Ws (fun q => q = mb ∨ q = RB ∨ J.ownBlock = some q) w w' := by
  obtain ⟨i9, hi9, hx0, hx1, hx2⟩ := info_parts info102
  obtain ⟨hd1, hd2, hd3, hd4, hd5, hd6, hd7⟩ := hd
  have HRF := hideIt hrf
  clear hrf
  obtain ⟨p, c, ev, hc, HT'⟩ := HT
  have HT : TermsAt w v n f := ⟨p, c, ev, hc, HT'⟩
  clear HT'
  subst ev
  obtain ⟨pj, cj, ej⟩ := own_shape U.own
  subst ej
  have bT := one_alloc w (.cells #[.int .u8 0, .int .u8 0, .string (nmS key), .slice p n c] 36)
  have hat := atom_any (w := w.alloc (.cells #[.int .u8 0, .int .u8 0, .string (nmS key), .slice p n c] 36)) (i : Int) (HC.blk (bT.block CB HC.lt)) (cell_later bT HE) (HN.below bT) hfn (HR.below bT) hA (HT.below bT) (HM.below bT) hf hd1 hvm hn hk
  have hml := HM.lt
  have hRBl := U.lt
  have hhl := HH.lt
  have hrl := HR.lt
  have HQ := hideIt (And.intro HR (And.intro HH U))
  obtain ⟨nm, hnm⟩ : ∃ nm, nmS key = nm := ⟨_, rfl⟩
  rw [hnm] at hat ⊢
  rw [hnm] at bT
  have t0 : (w.alloc (.cells #[.int .u8 0, .int .u8 0, .string nm, .slice p n c] 36)).cell? ⟨w.heap.size, 0, none⟩ = some (.int .u8 0) := by simp
  have HBT := hideIt bT
  clear HC HE HN hfn HR HH HT HM hf hvm U hnm bT
  go_enter Tryz.func26, Tryz.ntmps26
  go_wp2_with fail
  refine hat.mono ?_
  rintro e w2 ⟨v', rfl, HO, ⟨qv, ho, hqv⟩, HM2, W2⟩
  obtain ⟨pv, cv, hv'⟩ : ∃ pv cv, v' = .slice pv n cv := by
    obtain ⟨pv, cv, e, _⟩ := HO
    exact ⟨pv, cv, e⟩
  subst hv'
  have hs2 := W2.size
  have hsT : (w.alloc (.cells #[.int .u8 0, .int .u8 0, .string nm, .slice p n c] 36)).heap.size = w.heap.size + 1 := by simp
  have kp : ∀ q, q < w.heap.size → q ≠ mb → w2.heap[q]? = w.heap[q]? := fun q h1 h2 => (W2.block q (by omega) h2).trans (HBT.out.block q h1)
  have u0 : w2.cell? ⟨w.heap.size, 0, none⟩ = some (.int .u8 0) := (World.cell?_of_block (a := ⟨w.heap.size, 0, none⟩) (W2.block w.heap.size (by omega) (by omega))).trans t0
  obtain ⟨HR, HH, U⟩ := HQ.out
  have HR2 := HR.blk (kp rb hrl hd4)
  have HH2 := HH.blk (kp hb hhl hd3)
  have jq : ∀ q, (Value.slice pj i cj).ownBlock = some q → base ≤ q ∧ q < w.heap.size := fun q hq => U.own.lt q hq
  have U2 := U.keep (kp RB hRBl hd2) (fun q hq => kp q (jq q hq).2 (by have := (jq q hq).1; omega))
  have HQ2 := hideIt (And.intro HO (And.intro HM2 (And.intro W2 (And.intro U2 kp))))
  have y1 := U2.hr
  have y2 := HH2.sr
  have y3 := HR2.sr
  have bA := one_alloc w2 (.cells #[.pointer (some ⟨rb, 0, none⟩), .slice pv n cv, .int .i64 (i : Int)] 102)
  have JQ := hideIt jq
  have HHO := hideIt (And.intro ho hqv)
  clear HO HM2 W2 U2 kp HR HH U HR2 HH2 hat t0 jq ho hqv
  have z1 := cell_later bA y1
  have z2 := cell_later bA y2
  have z3 := cell_later bA y3
  have z0 := cell_later bA u0
  have a0 : (w2.alloc (.cells #[.pointer (some ⟨rb, 0, none⟩), .slice pv n cv, .int .i64 (i : Int)] 102)).cell? ⟨w2.heap.size, 0, none⟩ = some (.pointer (some ⟨rb, 0, none⟩)) := by simp
  have a1 : (w2.alloc (.cells #[.pointer (some ⟨rb, 0, none⟩), .slice pv n cv, .int .i64 (i : Int)] 102)).cell? ⟨w2.heap.size, 1, none⟩ = some (.slice pv n cv) := by simp
  have a2 : (w2.alloc (.cells #[.pointer (some ⟨rb, 0, none⟩), .slice pv n cv, .int .i64 (i : Int)] 102)).cell? ⟨w2.heap.size, 2, none⟩ = some (.int .i64 (i : Int)) := by simp
  go_upto_region 7 with fail
  have U3 := HQ2.out.2.2.2.1.below bA
  have j0 := U3.jo
  have fzd := U3.fz
  have HOWN := hideIt U3.own
  have HU3 := hideIt (And.intro U3 bA)
  have hs3 : w2.heap.size < (w2.alloc (.cells #[.pointer (some ⟨rb, 0, none⟩), .slice pv n cv, .int .i64 (i : Int)] 102)).heap.size := by simp
  clear bA y1 y2 y3 u0 U3
  generalize World.alloc w2 (.cells #[.pointer (some ⟨rb, 0, none⟩), .slice pv n cv, .int .i64 (i : Int)] 102) = wd at *
  generalize hp9 : w2.heap.size = p9 at *
  have hrRB : some RB ≠ (Value.slice pj i cj).ownBlock := fun e => by have := (JQ.out RB e.symm).1; omega
  have hrp9 : some p9 ≠ (Value.slice pj i cj).ownBlock := fun e => by have := (JQ.out p9 e.symm).2; omega
  have hRBl : RB < wd.heap.size := by omega
  go_upto_region 15 with fail
  refine wp_region_l (l := 10) (S := (fun w' => w'.cell? ⟨RB, 4, none⟩ = some (.slice pj i cj) ∧ w'.cell? ⟨p9, 0, none⟩ = some (.pointer (some ⟨rb, 0, none⟩)) ∧ w'.cell? ⟨p9, 1, none⟩ = some (.slice pv n cv) ∧ w'.cell? ⟨p9, 2, none⟩ = some (.int .i64 (i : Int)))) (by kernel_rfl) ⟨j0, a0, a1, a2⟩ (fun hHeld => ?_)
  refine AnyL.take2 (i := 0) (oi := { dst := some 55, op := Go.Op.move (Go.Operand.tmp 1), type := 92, pos := _, after := #[], guard := none }) (v := ?vv9001) (by kernel_rfl) (by kernel_rfl) rfl (by kernel_rfl) (by kernel_rfl) (by kernel_rfl) (fun _ _ _ h => h) (Or.inl ⟨by rfl, ?hy9001⟩) (by assumption) ?tk9001
  case hy9001 => (intro w hSw; (try dsimp only at hSw); go_simp; (try with_reducible rfl))
  try simp only [Act.put, List.setIfInBounds_toArray, List.set_cons_zero, List.set_cons_succ]
  refine AnyL.take2 (i := 1) (oi := { dst := some 56, op := Go.Op.move (Go.Operand.tmp 1), type := 92, pos := _, after := #[], guard := none }) (v := ?vv9002) (by kernel_rfl) (by kernel_rfl) rfl (by kernel_rfl) (by kernel_rfl) (by kernel_rfl) (fun _ _ _ h => h) (Or.inl ⟨by rfl, ?hy9002⟩) (by assumption) ?tk9002
  case hy9002 => (intro w hSw; (try dsimp only at hSw); go_simp; (try with_reducible rfl))
  try simp only [Act.put, List.setIfInBounds_toArray, List.set_cons_zero, List.set_cons_succ]
  refine AnyL.take2 (i := 2) (oi := { dst := some 57, op := Go.Op.nilCheck (Go.Operand.tmp 56), type := 0, pos := _, after := #[{ on := 1, ground := Go.Ground.data }], guard := none }) (v := ?vv9003) (by kernel_rfl) (by kernel_rfl) rfl (by kernel_rfl) (by kernel_rfl) (by kernel_rfl) (fun _ _ _ h => h) (Or.inl ⟨by rfl, ?hy9003⟩) (by assumption) ?tk9003
  case hy9003 => (intro w hSw; (try dsimp only at hSw); go_simp; (try with_reducible rfl))
  try simp only [Act.put, List.setIfInBounds_toArray, List.set_cons_zero, List.set_cons_succ]
  refine AnyL.take2 (i := 3) (oi := { dst := some 58, op := Go.Op.fieldAddr 106 (Go.Operand.tmp 57) 2, type := 0, pos := _, after := #[{ on := 2, ground := Go.Ground.data }], guard := none }) (v := ?vv9004) (by kernel_rfl) (by kernel_rfl) rfl (by kernel_rfl) (by kernel_rfl) (by kernel_rfl) (fun _ _ _ h => h) (Or.inl ⟨by rfl, ?hy9004⟩) (by assumption) ?tk9004
  case hy9004 => (intro w hSw; (try dsimp only at hSw); go_simp; (try with_reducible rfl))
  try simp only [Act.put, List.setIfInBounds_toArray, List.set_cons_zero, List.set_cons_succ]
  refine AnyL.take2 (i := 4) (oi := { dst := some 59, op := Go.Op.load 103 (Go.Operand.tmp 58), type := 103, pos := _, after := #[{ on := 3, ground := Go.Ground.data }], guard := none }) (v := ?vv9005) (by kernel_rfl) (by kernel_rfl) rfl (by kernel_rfl) (by kernel_rfl) (by kernel_rfl) (fun _ _ _ h => h) (Or.inl ⟨by rfl, ?hy9005⟩) (by assumption) ?tk9005
  case hy9005 => (intro w hSw; (try dsimp only at hSw); go_simp; (try with_reducible rfl))
  try simp only [Act.put, List.setIfInBounds_toArray, List.set_cons_zero, List.set_cons_succ]
  refine AnyL.take2 (i := 5) (oi := { dst := some 60, op := Go.Op.load 102 (Go.Operand.tmp 9), type := 102, pos := _, after := #[], guard := none }) (v := ?vv9006) (by kernel_rfl) (by kernel_rfl) rfl (by kernel_rfl) (by kernel_rfl) (by kernel_rfl) (fun _ _ _ h => h) (Or.inl ⟨by rfl, ?hy9006⟩) (by assumption) ?tk9006
  case hy9006 => (intro w hSw; (try dsimp only at hSw); go_simp; (try with_reducible rfl))
  try simp only [Act.put, List.setIfInBounds_toArray, List.set_cons_zero, List.set_cons_succ]
  refine AnyL.one (i := 6) (o := { dst := some 61, op := Go.Op.buildSlice 103 1 #[(0, Go.Operand.tmp 60)], type := 103, pos := _, after := #[{ on := 5, ground := Go.Ground.data }], guard := none }) (by kernel_rfl) rfl rfl (fun K' hK' => ?_)
  go_simp
  clear hHeld
  refine hK'.out _ _ ⟨cell_later (below_dr (one_alloc _ _)) j0, cell_later (below_dr (one_alloc _ _)) a0, cell_later (below_dr (one_alloc _ _)) a1, cell_later (below_dr (one_alloc _ _)) a2⟩ (fun hHeld => ?_)
  clear hK' K'
  try simp only [Act.put, List.setIfInBounds_toArray, List.set_cons_zero, List.set_cons_succ]
  refine AnyL.one (i := 7) (o := { dst := some 62, op := Go.Op.call { callee := Go.Callee.builtin Go.Builtin.append, args := #[Go.Operand.tmp 59, Go.Operand.tmp 61], argTypes := #[103, 103] }, type := 103, pos := _, after := #[{ on := 4, ground := Go.Ground.data }, { on := 6, ground := Go.Ground.data }], guard := none }) (by kernel_rfl) rfl rfl (fun K' hK' => ?_)
  refine ite_take (by rfl) ?_
  refine wp_append_own_at (.tmp 59) (.tmp 61) 103 rfl base 102 i9 (.agg #[.pointer none, .slice none 0 0, .int .i64 0]) 3 40 Tryz.underlying103 hi9 hx0 hx1 hx2 rfl (by decide) (.slice pj i cj) i (jC rf l i) rfl (HOWN.out.alloc _) ⟨wd.heap.size, 0, none⟩ 1 1 [.pointer (some ⟨rb, 0, none⟩), .slice pv n cv, .int .i64 (i : Int)] rfl rfl (cell_new3 _ _ _ _) (by simp [Value.oneCell']) (by unfold maxLen; omega) (by omega) (by simp; omega) ?_
  intro v' w3 hown' hgrow hblk
  obtain ⟨p', c', rfl⟩ := own_shape hown'
  have k0 := hgrow.cell (a := ⟨RB, 4, none⟩) hHeld.1 hrRB
  have k1 := hgrow.cell (a := ⟨p9, 0, none⟩) hHeld.2.1 hrp9
  have k2 := hgrow.cell (a := ⟨p9, 1, none⟩) hHeld.2.2.1 hrp9
  have k3 := hgrow.cell (a := ⟨p9, 2, none⟩) hHeld.2.2.2 hrp9
  have fz3 : ∀ o, w3.frozen? ⟨RB, o, none⟩ = false := fun o => ((World.frozen?_of_block (a := ⟨RB, o, none⟩) (hgrow.block RB (by simp; omega) hrRB)).trans (World.frozen?_of_block (a := ⟨RB, o, none⟩) ((one_alloc wd _).block RB hRBl))).trans (fzd o)
  have HG := hideIt (And.intro hown' (And.intro hgrow hblk))
  clear hown' hgrow hblk
  clear hHeld
  refine hK'.out _ _ ⟨k0, k1, k2, k3⟩ (fun hHeld => ?_)
  clear hK' K'
  try simp only [Act.put, List.setIfInBounds_toArray, List.set_cons_zero, List.set_cons_succ]
  refine AnyL.take2 (i := 8) (oi := { dst := some 63, op := Go.Op.nilCheck (Go.Operand.tmp 55), type := 0, pos := _, after := #[{ on := 0, ground := Go.Ground.data }, { on := 0, ground := Go.Ground.phase }, { on := 1, ground := Go.Ground.phase }, { on := 2, ground := Go.Ground.phase }, { on := 3, ground := Go.Ground.phase }, { on := 4, ground := Go.Ground.phase }, { on := 5, ground := Go.Ground.phase }, { on := 6, ground := Go.Ground.phase }, { on := 7, ground := Go.Ground.phase }], guard := none }) (v := ?vv9007) (by kernel_rfl) (by kernel_rfl) rfl (by kernel_rfl) (by kernel_rfl) (by kernel_rfl) (fun _ _ _ h => h) (Or.inl ⟨by rfl, ?hy9007⟩) (by assumption) ?tk9007
  case hy9007 => (intro w hSw; (try dsimp only at hSw); go_simp; (try with_reducible rfl))
  try simp only [Act.put, List.setIfInBounds_toArray, List.set_cons_zero, List.set_cons_succ]
  refine AnyL.take2 (i := 9) (oi := { dst := some 64, op := Go.Op.fieldAddr 106 (Go.Operand.tmp 63) 2, type := 0, pos := _, after := #[{ on := 8, ground := Go.Ground.data }, { on := 0, ground := Go.Ground.phase }, { on := 1, ground := Go.Ground.phase }, { on := 2, ground := Go.Ground.phase }, { on := 3, ground := Go.Ground.phase }, { on := 4, ground := Go.Ground.phase }, { on := 5, ground := Go.Ground.phase }, { on := 6, ground := Go.Ground.phase }, { on := 7, ground := Go.Ground.phase }], guard := none }) (v := ?vv9008) (by kernel_rfl) (by kernel_rfl) rfl (by kernel_rfl) (by kernel_rfl) (by kernel_rfl) (fun _ _ _ h => h) (Or.inl ⟨by rfl, ?hy9008⟩) (by assumption) ?tk9008
  case hy9008 => (intro w hSw; (try dsimp only at hSw); go_simp; (try with_reducible rfl))
  try simp only [Act.put, List.setIfInBounds_toArray, List.set_cons_zero, List.set_cons_succ]
  refine AnyL.last (o := { dst := none, op := Go.Op.store 103 (Go.Operand.tmp 64) (Go.Operand.tmp 62), type := 0, pos := _, after := #[{ on := 9, ground := Go.Ground.data }, { on := 7, ground := Go.Ground.data }, { on := 7, ground := Go.Ground.chain }, { on := 0, ground := Go.Ground.phase }, { on := 1, ground := Go.Ground.phase }, { on := 2, ground := Go.Ground.phase }, { on := 3, ground := Go.Ground.phase }, { on := 4, ground := Go.Ground.phase }, { on := 5, ground := Go.Ground.phase }, { on := 6, ground := Go.Ground.phase }, { on := 7, ground := Go.Ground.phase }], guard := none }) (by kernel_rfl) rfl (by kernel_rfl) (fun K' hK' => ?_)
  go_simp
  clear hHeld
  refine hK'.out _ _ ?_
  clear hK' K'
  try simp only [Act.put, List.setIfInBounds_toArray, List.set_cons_zero, List.set_cons_succ]
  go_wp2
  go_ret
  obtain ⟨HO, HM2, W2, U2, kp⟩ := HQ2.out
  obtain ⟨U3, bA⟩ := HU3.out
  obtain ⟨hown', hgrow, hblk⟩ := HG.out
  obtain ⟨ho, hqv⟩ := HHO.out
  have bDA := below_dr (one_alloc wd (.cells #[.pointer (some ⟨rb, 0, none⟩), .slice pv n cv, .int .i64 (i : Int)] 102))
  rw [← HRF.out] at hown'
  have U5 := U3.push hd5 hown' bDA hgrow
  have hsz := bDA.size
  have hsz3 := hgrow.size
  have keep5 : ∀ q, q < wd.heap.size → q ≠ RB → (Value.slice pj i cj).ownBlock ≠ some q → (w3.setCell ⟨RB, 4, none⟩ (.slice p' (i + 1) c')).heap[q]? = wd.heap[q]? := fun q h1 h2 h3 => (far_set h2).trans ((hgrow.block q (by omega) (fun e => h3 e.symm)).trans (bDA.block q h1))
  have hjq : ∀ q, w.heap.size ≤ q → (Value.slice pj i cj).ownBlock ≠ some q := fun q hq e => by have := (JQ.out q e).2; omega
  have hOb : ∀ q, (Value.slice pv n cv).ownBlock = some q → q < w2.heap.size → q < p9 := fun q _ h => by omega
  have bA' : Below w2.heap.size w2 wd := by rw [hp9]; exact bA
  have hqv2 : qv < w2.heap.size := by
    obtain ⟨p0, c0, e0, _, h0⟩ := HO
    rcases h0 with h0 | ⟨g, e1, h0⟩
    · omega
    · simp only [Value.slice.injEq] at e0
      rw [e0.1, e1] at ho
      have : g = qv := Option.some.inj ho
      rw [← this]
      exact World.block_lt_of_cell? _ _ (h0 0 hn0).1
  have hq1 : ∀ q, (Value.slice pv n cv).ownBlock = some q → w.heap.size < q := fun q hq => by
    rw [ho] at hq
    have : qv = q := Option.some.inj hq
    omega
  refine ⟨rfl, _, _, (HO.below bA').keep (fun q hq hl => keep5 q hl (by have := hq1 q hq; omega) (hjq q (by have := hq1 q hq; omega))), ⟨qv, ho, by omega, fun e => ?_⟩, U5, (HM2.below bA').blk (keep5 mb (by omega) (fun e => hd2 e.symm) (fun e => by have := (JQ.out mb e).1; omega)), ?_, ?_⟩
  · rcases hblk with z | z
    · rw [z] at e
      exact hjq qv (by omega) e
    · rw [z] at e
      have := Option.some.inj e
      omega
  · rcases hblk with z | z
    · exact .inl z
    · exact .inr ⟨_, z, by omega⟩
  · refine ⟨hgrow.os.trans (bDA.os.trans (bA.os.trans (W2.os.trans HBT.out.os))), hgrow.tape.trans (bDA.tape.trans (bA.tape.trans (W2.tape.trans HBT.out.tape))), hgrow.output.trans (bDA.output.trans (bA.output.trans (W2.output.trans HBT.out.output))), ?_, fun q h1 h2 => ?_⟩
    · simp
      omega
    · exact (keep5 q (by omega) (fun e => h2 (.inr (.inl e))) (fun e => h2 (.inr (.inr e)))).trans ((bA.block q (by omega)).trans (kp q h1 (fun e => h2 (.inl e))))
end Go.Proofs.Qxb6500880aGreat
