import Derived.Deep.CutBlock
import Derived.OwnWalk
import Derived.Maps.AppendAt
import Derived.Maps.OwnSet
import Derived.Maps.OwnOps
import Derived.Laws.ResultCell
import Derived.Test.Qxb6500880aGreatZh
set_option linter.unusedVariables false
set_option linter.unusedSimpArgs false
namespace Go.Proofs.Qxb6500880aGreat
open Go.RowKit

/-- How many of the first t columns are known. -/
def kc (κ : Nat → Bool) : Nat → Nat
  | 0 => 0
  | t + 1 => if κ t = true then kc κ t + 1 else kc κ t
theorem kc_le (κ : Nat → Bool) : ∀ t, kc κ t ≤ t
  | 0 => Nat.le_refl _
  | t + 1 => by
    have := kc_le κ t
    unfold kc
    split <;> omega
theorem kc_mono (κ : Nat → Bool) (t : Nat) : ∀ d, kc κ t ≤ kc κ (t + d)
  | 0 => Nat.le_refl _
  | d + 1 => by
    have := kc_mono κ t d
    show kc κ t ≤ (if κ (t + d) = true then kc κ (t + d) + 1 else kc κ (t + d))
    split <;> omega
theorem kc_lt {κ : Nat → Bool} {t n : Nat} (h : t < n) (hk : κ t = true) : kc κ t < kc κ n := by
  obtain ⟨d, rfl⟩ : ∃ d, n = t + 1 + d := ⟨n - (t + 1), by omega⟩
  have h1 := kc_mono κ (t + 1) d
  have h2 : kc κ (t + 1) = kc κ t + 1 := if_pos hk
  omega
/-- k operands as values. -/
def opL (g : Nat → Nat) : Nat → List Value
  | 0 => []
  | k + 1 => opL g k ++ [.int .i64 (g k : Int), .int .u32 0]
/-- k binding actions. -/
def actG (u f : Nat → Nat) : Nat → List Value
  | 0 => []
  | k + 1 => actG u f k ++ [.int .i64 (u k : Int), .bool true, .int .i64 (f (u k) : Int), .int .u32 0]
/-- What the unknown among the first i columns have filled. -/
def bu (κ : Nat → Bool) (f : Nat → Nat) (b : Nat → Bool) : Nat → Nat → Bool
  | 0 => b
  | i + 1 => if κ i = true then bu κ f b i else onB (bu κ f b i) (f i)
theorem bu_iff (κ : Nat → Bool) (f : Nat → Nat) (b : Nat → Bool) (x : Nat) : ∀ i, bu κ f b i x = true → b x = true ∨ ∃ t, t < i ∧ f t = x
  | 0, h => .inl h
  | i + 1, h => by
    unfold bu at h
    split at h
    · rcases bu_iff κ f b x i h with z | ⟨t, z1, z2⟩
      · exact .inl z
      · exact .inr ⟨t, by omega, z2⟩
    · unfold onB at h
      split at h
      · rename_i e
        exact .inr ⟨i, by omega, e.symm⟩
      · rcases bu_iff κ f b x i h with z | ⟨t, z1, z2⟩
        · exact .inl z
        · exact .inr ⟨t, by omega, z2⟩
/-- A step's cells, with an index. -/
def stI (p how ix ky ac : Value) : Nat → Value
  | 0 => p
  | 1 => .int .i64 0
  | 2 => .int .u8 0
  | 3 => how
  | 4 => ix
  | 5 => ky
  | 6 => ac
  | _ => .slice none 0 0
theorem stI_ac (p how ix ky ac ac' : Value) : updV (stI p how ix ky ac) 6 ac' = stI p how ix ky ac' := by
  funext i
  unfold updV
  by_cases h : i = 6
  · subst h; rfl
  · rw [if_neg h]
    unfold stI
    split <;> first | rfl | omega
theorem stI_ix (p how ky ac ix : Value) : updV (stV p how ky ac) 4 ix = stI p how ix ky ac := by
  funext i
  unfold updV
  by_cases h : i = 4
  · subst h; rfl
  · rw [if_neg h]
    match i, h with
    | 0, _ => rfl
    | 1, _ => rfl
    | 2, _ => rfl
    | 3, _ => rfl
    | 4, h => exact absurd rfl h
    | 5, _ => rfl
    | 6, _ => rfl
    | n + 7, _ => rfl
theorem slice1 {n c : Nat} {p : Option Addr} (w' : World) (hn : 1 ≤ n) : (Instr.slice 41 (.slice p n c) (some (.int .i64 1)) none none).run Tryz.prog w' = .ok (.slice (if c = 1 then p else p.map (fun x => x.add 1)) (n - 1) (c - 1)) w' := by
  have hu : Tryz.prog.underlying 41 = some (.slice (Tryz.prog.elem 41)) := by kernel_rfl
  have hsz : (sizeOf (Tryz.prog.elem 41)).run Tryz.prog w' = .ok 1 w' := by kernel_rfl
  rw [run_slice_l w' 41 p n c hu .i64 1 (by omega) (by omega), hsz]
  simp only [Result.andThen, sliced]
  rfl
set_option maxRecDepth 20000 in
set_option maxHeartbeats 8000000 in
theorem step_probe {w : World} {PL E FL gj ao rq ga n ca R K U : Nat} {f cf uf : Nat → Nat} {b κ : Nat → Bool} {c : Nat → Value} {nm : ByteArray} {s : RelS} (h0 : w.cell? ⟨PL, 0, none⟩ = some (.pointer (some ⟨E, 0, none⟩))) (HE : EngAt w E c) (h3 : c 3 = .bool false) (h20 : c 20 = .int .i64 0) (HR : AtX w gj ao rq ga n ca f) (H : RelAt w rq nm s) (hix : s.idx = .slice none 0 0) (HB : BoolAt w FL R b) (hκ : ∀ t, t < n → b (f t) = κ t) (hi : ∀ t t', t < n → t' < n → f t = f t' → t = t') (hfR : ∀ t, t < n → f t < R)
    (hK : kc κ n = K) (hK0 : 0 < K) (hKn : K < n) (hU : kc (fun t => !κ t) n = U) (hcf : ∀ t, t < n → κ t = true → cf (kc κ t) = t) (hck : ∀ k, k < K → κ (cf k) = true) (huf : ∀ t, t < n → κ t = false → uf (kc (fun t => !κ t) t) = t)
    (hd : FL ≠ PL ∧ FL ≠ E ∧ FL ≠ gj ∧ FL ≠ ga ∧ FL ≠ rq ∧ E ≠ PL ∧ E ≠ gj ∧ E ≠ ga ∧ E ≠ rq ∧ rq ≠ PL ∧ rq ≠ gj ∧ rq ≠ ga) (hn : n ≤ 100) (hR : R ≤ 1000) :
    Calls Tryz.prog 60 #[.pointer (some ⟨PL, 0, none⟩), .pointer (some ⟨gj, ao, none⟩), .int .u8 0, .slice (some ⟨FL, 0, none⟩) R R] w fun e w' => ∃ IX gc cc gi ci kv av, e = .returned (.agg #[.pointer (some ⟨gj, ao, none⟩), .int .i64 0, .int .u8 0, .int .u8 1, .pointer (some ⟨IX, 0, none⟩), kv, av, .slice none 0 0]) ∧ RelAt w' rq nm { s with idx := .slice (some ⟨gi, 0, none⟩) 1 ci } ∧ w'.cell? ⟨gi, 0, none⟩ = some (.pointer (some ⟨IX, 0, none⟩)) ∧ IxC w' IX gc cc K cf ∧ IxN w' IX ∧ (w.heap.size ≤ IX ∧ w.heap.size ≤ gc ∧ w.heap.size ≤ gi ∧ IX ≠ gc ∧ gi ≠ IX) ∧ w'.ownsRow (w.heap.size + 2) 136 2 kv K (opL (fun k => f (cf k)) K) ∧ w'.ownsRow (w.heap.size + 2) 223 4 av U (actG uf f U) ∧ (kv.ownBlock ≠ some IX ∧ av.ownBlock ≠ some IX) ∧ (∃ b', BoolAt w' FL R b') ∧ EngAt w' E (updV c 20 (.int .i64 1)) ∧ Ws (fun q => q = FL ∨ q = rq ∨ q = E) w w' := by
  obtain ⟨i9, hi9, hx0, hx1, hx2⟩ := info_parts info136
  obtain ⟨i3, hi3, hz0, hz1, hz2⟩ := info_parts info3
  obtain ⟨i2, hi2, hy0, hy1, hy2⟩ := info_parts info223
  obtain ⟨hd1, hd2, hd3, hd4, hd5, hd6, hd7, hd8, hd9, hd10, hd11, hd12⟩ := hd
  have hn0 := HR.n0
  have hFl : FL < w.heap.size := World.block_lt_of_cell? _ _ (HB.c _ (hfR 0 hn0))
  have hPl : PL < w.heap.size := World.block_lt_of_cell? _ _ h0
  have hEl := HE.lt
  have hrl := H.lt
  obtain ⟨hgl, hal⟩ := HR.lt
  have hKU : kc κ n ≤ n := kc_le κ n
  have HKK := hideIt (And.intro hK (And.intro hU (And.intro hcf (And.intro hck huf))))
  have bZ := one_alloc w (.cells #[.pointer none, .int .i64 0, .int .u8 0, .int .u8 0, .pointer none, .slice none 0 0, .slice none 0 0, .slice none 0 0] 191)
  have bS := one_alloc (w.alloc (.cells #[.pointer none, .int .i64 0, .int .u8 0, .int .u8 0, .pointer none, .slice none 0 0, .slice none 0 0, .slice none 0 0] 191)) (.cells #[.pointer (some ⟨gj, ao, none⟩), .int .i64 0, .int .u8 0, .int .u8 0, .pointer none, .slice none 0 0, .slice none 0 0, .slice none 0 0] 191)
  have b2 := then_ bZ bS
  have hs2 : ((w.alloc (.cells #[.pointer none, .int .i64 0, .int .u8 0, .int .u8 0, .pointer none, .slice none 0 0, .slice none 0 0, .slice none 0 0] 191)).alloc (.cells #[.pointer (some ⟨gj, ao, none⟩), .int .i64 0, .int .u8 0, .int .u8 0, .pointer none, .slice none 0 0, .slice none 0 0, .slice none 0 0] 191)).heap.size = w.heap.size + 2 := by simp
  have T2 : StB ((w.alloc (.cells #[.pointer none, .int .i64 0, .int .u8 0, .int .u8 0, .pointer none, .slice none 0 0, .slice none 0 0, .slice none 0 0] 191)).alloc (.cells #[.pointer (some ⟨gj, ao, none⟩), .int .i64 0, .int .u8 0, .int .u8 0, .pointer none, .slice none 0 0, .slice none 0 0, .slice none 0 0] 191)) (w.heap.size + 1) (stV (.pointer (some ⟨gj, ao, none⟩)) (.int .u8 0) (.slice none 0 0) (.slice none 0 0)) := by
    refine ⟨fun i hi => ?_, fun o => new_frz (by simp) _ _ _⟩
    rw [new_cell (by simp)]
    rcases (by omega : i = 0 ∨ i = 1 ∨ i = 2 ∨ i = 3 ∨ i = 4 ∨ i = 5 ∨ i = 6 ∨ i = 7) with h | h | h | h | h | h | h | h <;> (subst h; rfl)
  have T0 : StB ((w.alloc (.cells #[.pointer none, .int .i64 0, .int .u8 0, .int .u8 0, .pointer none, .slice none 0 0, .slice none 0 0, .slice none 0 0] 191)).alloc (.cells #[.pointer (some ⟨gj, ao, none⟩), .int .i64 0, .int .u8 0, .int .u8 0, .pointer none, .slice none 0 0, .slice none 0 0, .slice none 0 0] 191)) w.heap.size (stV (.pointer none) (.int .u8 0) (.slice none 0 0) (.slice none 0 0)) := by
    have T : StB (w.alloc (.cells #[.pointer none, .int .i64 0, .int .u8 0, .int .u8 0, .pointer none, .slice none 0 0, .slice none 0 0, .slice none 0 0] 191)) w.heap.size (stV (.pointer none) (.int .u8 0) (.slice none 0 0) (.slice none 0 0)) := by
      refine ⟨fun i hi => ?_, fun o => new_frz rfl _ _ _⟩
      rw [new_cell rfl]
      rcases (by omega : i = 0 ∨ i = 1 ∨ i = 2 ∨ i = 3 ∨ i = 4 ∨ i = 5 ∨ i = 6 ∨ i = 7) with h | h | h | h | h | h | h | h <;> (subst h; rfl)
    exact T.blk (bS.block _ (by simp))
  have l0 := cell_later b2 h0
  have l3 := cell_later b2 (HE.get h3 (by omega))
  have lj := cell_later b2 HR.a1
  have HT2 := hideIt (And.intro T2 (And.intro T0 (And.intro b2 hs2)))
  have HQ := hideIt (And.intro HR (And.intro HB (And.intro hκ (And.intro hi (And.intro hfR (And.intro H (And.intro hix (And.intro HE (And.intro h20 h0)))))))))
  clear bZ bS b2 hs2 T2 T0 h0 h3 HR HB hκ hi hfR hK hU hcf hck huf H hix HE h20
  go_enter Tryz.func60, Tryz.ntmps60
  go_upto_region 3 with fail
  generalize ((w.alloc (.cells #[.pointer none, .int .i64 0, .int .u8 0, .int .u8 0, .pointer none, .slice none 0 0, .slice none 0 0, .slice none 0 0] 191)).alloc (.cells #[.pointer (some ⟨gj, ao, none⟩), .int .i64 0, .int .u8 0, .int .u8 0, .pointer none, .slice none 0 0, .slice none 0 0, .slice none 0 0] 191)) = w2 at *
  go_wp2_with fail
  go_loopg [34, 10] n (fun gg v v10 wr => ∃ i : Nat, i + gg = n ∧ v = .int .i64 (i : Int) ∧ ∃ kv, wr.ownsRow (w.heap.size + 2) 3 1 v10 (kc κ i) (intF cf (kc κ i)) ∧ wr.ownsRow (w.heap.size + 2) 136 2 kv (kc κ i) (opL (fun k => f (cf k)) (kc κ i)) ∧ (∀ q, v10.ownBlock = some q → kv.ownBlock ≠ some q) ∧ StB wr (w.heap.size + 1) (stV (.pointer (some ⟨gj, ao, none⟩)) (.int .u8 0) kv (.slice none 0 0)) ∧ StB wr w.heap.size (stV (.pointer none) (.int .u8 0) (.slice none 0 0) (.slice none 0 0)) ∧ Below (w.heap.size + 1) w2 wr ∧ w.heap.size + 2 ≤ wr.heap.size)
  case atStart =>
    obtain ⟨T2, T0, b2, hs2⟩ := HT2.out
    exact ⟨0, by omega, rfl, _, own_nil _ _ _ _, own_nil _ _ _ _, fun q hq => by simp [Value.ownBlock] at hq, T2, T0, Below.refl _ _, by omega⟩
  case round =>
    obtain ⟨i, hi, rfl, kv, ownc, ownk, hck2, T, T0', bw, hsz⟩ := hrel
    obtain ⟨T2, T0, b2, hs2⟩ := HT2.out
    obtain ⟨HR, HB, hκ, hinj, hfR, H, hix, HE, h20, h0⟩ := HQ.out
    have bl : ∀ q o v, w2.cell? ⟨q, o, none⟩ = some v → q < w.heap.size → wr.cell? ⟨q, o, none⟩ = some v := fun q o v h1 h2 => (World.cell?_of_block (a := ⟨q, o, none⟩) (bw.block q (by omega))).trans h1
    by_cases hin : i < n
    · have i0 : (0 : Int) ≤ i := by omega
      have i1 : (i : Int) < (n : Int) := by omega
      obtain ⟨a0, a1⟩ := HR.c i hin
      have d0 := bl _ _ _ (cell_later b2 a0) hal
      have d1 := bl _ _ _ (cell_later b2 a1) hal
      have hfi := hfR i hin
      have hbf := hκ i hin
      obtain ⟨x, hx⟩ : ∃ x, f i = x := ⟨_, rfl⟩
      rw [hx] at d0 hfi hbf
      have HXX := hideIt hx
      have bA := one_alloc wr (.cells #[.int .i64 (x : Int), .int .u32 0] 136)
      have hFw : wr.heap[FL]? = w.heap[FL]? := (bw.block FL (by omega)).trans (b2.block FL hFl)
      have hkn := known_any ((HB.blk hFw).blk (bA.block FL (by omega))) hfi hR
      rw [hbf] at hkn
      have HY := hideIt (And.intro (And.intro ownc ownk) (And.intro hck2 (And.intro (And.intro T T0') (And.intro bw bA))))
      clear T2 T0 b2 HR HB hκ hinj hfR H hix HE h20 h0 a0 a1 bA bw hx hbf ownc ownk hck2 T T0' bl hFw
      go_wp2_with fail
      refine hkn.mono ?_
      rintro e w5 ⟨rfl, hb5⟩
      obtain ⟨⟨ownc, ownk⟩, hck2, ⟨T, T0'⟩, bw, bA⟩ := HY.out
      have b5 := then_ bA hb5
      have hs5 : wr.heap.size < w5.heap.size := by have := hb5.size; simp at this; omega
      cases hkk : κ i with
      | false =>
        have ek : kc κ (i + 1) = kc κ i := if_neg (by rw [hkk]; simp)
        have HZ := hideIt (And.intro b5 ek)
        clear hb5 hkn d0 d1 ownc ownk hck2 T T0' bw bA b5 ek hkk
        go_wp2
        go_roundg (n - (i + 1))
        case measure => omega
        case rel =>
          obtain ⟨⟨ownc, ownk⟩, hck2, ⟨T, T0'⟩, bw, bA⟩ := HY.out
          obtain ⟨b5, ek⟩ := HZ.out
          refine ⟨i + 1, by omega, by go_num, kv, ?_, ?_, hck2, T.blk (b5.block _ (by omega)), T0'.blk (b5.block _ (by omega)), bw.trans (b5.mono (by omega)), by omega⟩
          · rw [ek]; exact own_keep ownc (fun q _ hl => b5.block q hl)
          · rw [ek]; exact own_keep ownk (fun q _ hl => b5.block q hl)
      | true =>
        have ek : kc κ (i + 1) = kc κ i + 1 := if_pos hkk
        have ecf : cf (kc κ i) = i := HKK.out.2.2.1 i hin hkk
        have hkl : kc κ i ≤ 100 := by have := kc_le κ i; omega
        obtain ⟨k, hk⟩ : ∃ k, kc κ i = k := ⟨_, rfl⟩
        rw [hk] at ek ecf hkl ownc ownk
        have q0 : (wr.alloc (.cells #[.int .i64 (x : Int), .int .u32 0] 136)).cell? ⟨wr.heap.size, 0, none⟩ = some (.int .i64 (x : Int)) := by simp
        have q1 : (wr.alloc (.cells #[.int .i64 (x : Int), .int .u32 0] 136)).cell? ⟨wr.heap.size, 1, none⟩ = some (.int .u32 0) := by simp
        have q0 := cell_later hb5 q0
        have q1 := cell_later hb5 q1
        have T5 : StB w5 (w.heap.size + 1) _ := T.blk (b5.block _ (by omega))
        have T50 : StB w5 w.heap.size _ := T0'.blk (b5.block _ (by omega))
        have ownc5 := own_keep ownc (w' := w5) (fun q _ hl => b5.block q hl)
        have ownk5 := own_keep ownk (w' := w5) (fun q _ hl => b5.block q hl)
        obtain ⟨pc, cc, rfl⟩ := own_shape ownc5
        obtain ⟨pk, ck, rfl⟩ := own_shape ownk5
        have hcS : ∀ q, (Value.slice pc k cc).ownBlock = some q → w.heap.size + 2 ≤ q ∧ q < wr.heap.size := fun q hq => ownc.lt q hq
        have hkS : ∀ q, (Value.slice pk k ck).ownBlock = some q → w.heap.size + 2 ≤ q ∧ q < wr.heap.size := fun q hq => ownk.lt q hq
        have hw25 : w.heap.size + 2 ≤ w5.heap.size := by omega
        have bN := one_alloc w5 (.cells #[.int .i64 (i : Int)] 3)
        have HOC := hideIt ownc5
        have HZ5 := hideIt (And.intro T5 (And.intro T50 (And.intro b5 (And.intro ownk5 (And.intro bN (And.intro bw hck2))))))
        have HSS := hideIt (And.intro hcS hkS)
        have HEK := hideIt (And.intro ek (And.intro ecf hk))
        clear T T0' bw bA hb5 b5 T5 T50 hkn HY bN ownc ownk ownc5 ownk5 hck2 ek ecf hk d0 d1 hkk hcS hkS
        go_wp2_with (first | (at_builtin; refine wpList_append_own_at _ rfl (.tmp 42) (.tmp 44) 41 rfl (w.heap.size + 2) 3 i3 (.int .i64 0) 1 8 Tryz.underlying41 hi3 hz0 hz1 hz2 rfl (by decide) (.slice pc k cc) k (intF cf k) rfl (HOC.out.alloc _) ⟨w5.heap.size, 0, none⟩ 1 1 [.int .i64 (i : Int)] rfl rfl (cell_new1 _ _ _) (by simp [Value.oneCell']) (by unfold maxLen; omega) (by omega) (by simp <;> omega) ?_) | go_in)
        intro v' w6 hown' hgrow hiff hblk
        obtain ⟨T5, T50, b5, ownk5, bN, bw, hck2⟩ := HZ5.out
        obtain ⟨hcS, hkS⟩ := HSS.out
        have hsN : (w5.alloc (.cells #[.int .i64 (i : Int)] 3)).heap.size = w5.heap.size + 1 := by simp
        have e6 : ∀ q, q < w5.heap.size → (Value.slice pc k cc).ownBlock ≠ some q → w6.heap[q]? = w5.heap[q]? := fun q h1 h2 => (hgrow.block q (by omega) (fun e => h2 e.symm)).trans (bN.block q h1)
        have e6l : ∀ q, q < w.heap.size + 2 → w6.heap[q]? = w5.heap[q]? := fun q h1 => e6 q (by omega) (fun e => by have := hcS q e; omega)
        have T6 : StB w6 (w.heap.size + 1) _ := T5.blk (e6l _ (by omega))
        have T60 : StB w6 w.heap.size _ := T50.blk (e6l _ (by omega))
        have hxq : (Value.slice pc k cc).ownBlock ≠ some wr.heap.size := fun e => by have := hcS _ e; omega
        have ownk6 : w6.ownsRow (w.heap.size + 2) 136 2 (.slice pk k ck) k (opL (fun k => f (cf k)) k) := own_keep ownk5 (fun q hq hl => e6 q hl (fun e => hck2 q e hq))
        have r0 := (World.cell?_of_block (a := ⟨wr.heap.size, 0, none⟩) (e6 _ hs5 hxq)).trans q0
        have r1 := (World.cell?_of_block (a := ⟨wr.heap.size, 1, none⟩) (e6 _ hs5 hxq)).trans q1
        have hs6 : w5.heap.size ≤ w6.heap.size := by have := hgrow.size; omega
        have hvk : ∀ q, v'.ownBlock = some q → (Value.slice pk k ck).ownBlock ≠ some q := fun q hq e => by
          rcases hblk with z | z
          · exact hck2 q (z ▸ hq) e
          · rw [z] at hq
            have := Option.some.inj hq
            have := hkS q e
            omega
        have b6 : Below (w.heap.size + 1) w2 w6 := ⟨hgrow.os.trans (bN.os.trans (b5.os.trans bw.os)), hgrow.tape.trans (bN.tape.trans (b5.tape.trans bw.tape)), hgrow.output.trans (bN.output.trans (b5.output.trans bw.output)), by have := bw.size; omega, fun q hq => (e6l q (by omega)).trans ((b5.block q (by omega)).trans (bw.block q hq))⟩
        obtain ⟨pc2, cc2, rfl⟩ := own_shape hown'
        have s5 : w6.cell? ⟨w.heap.size + 1, 5, none⟩ = some (.slice pk k ck) := T6.c 5 (by omega)
        have sf := T6.fz
        have bM := one_alloc w6 (.cells #[.int .i64 (x : Int), .int .u32 0] 136)
        have HOK := hideIt ownk6
        have HZ6 := hideIt (And.intro T6 (And.intro T60 (And.intro b6 (And.intro hown' (And.intro bM hvk)))))
        have hw26 : w.heap.size + 2 ≤ w6.heap.size := by omega
        clear hown' hgrow hiff hblk T5 T50 b5 ownk5 bN bw hck2 e6 e6l T6 T60 ownk6 b6 bM hvk q0 q1 HZ5 hcS hkS
        go_wp2_with (first | (at_builtin; refine wpList_append_own_at _ rfl (.tmp 47) (.tmp 49) 100 rfl (w.heap.size + 2) 136 i9 (.agg #[.int .i64 0, .int .u32 0]) 2 16 Tryz.underlying100 hi9 hx0 hx1 hx2 rfl (by decide) (.slice pk k ck) k (opL (fun k => f (cf k)) k) rfl (HOK.out.alloc _) ⟨w6.heap.size, 0, none⟩ 1 1 [.int .i64 (x : Int), .int .u32 0] rfl rfl (cell_new_2 _ _ _ _) (by simp [Value.oneCell']) (by unfold maxLen; omega) (by omega) (by simp <;> omega) ?_) | go_in)
        intro v' w7 hown' hgrow hiff hblk
        obtain ⟨T6, T60, b6, ownc, bM, hvk⟩ := HZ6.out
        obtain ⟨hcS, hkS⟩ := HSS.out
        have hsM : (w6.alloc (.cells #[.int .i64 (x : Int), .int .u32 0] 136)).heap.size = w6.heap.size + 1 := by simp
        have e7 : ∀ q, q < w6.heap.size → (Value.slice pk k ck).ownBlock ≠ some q → w7.heap[q]? = w6.heap[q]? := fun q h1 h2 => (hgrow.block q (by omega) (fun e => h2 e.symm)).trans (bM.block q h1)
        have e7l : ∀ q, q < w.heap.size + 2 → w7.heap[q]? = w6.heap[q]? := fun q h1 => e7 q (by omega) (fun e => by have := hkS q e; omega)
        have T7 : StB w7 (w.heap.size + 1) _ := T6.blk (e7l _ (by omega))
        have T70 : StB w7 w.heap.size _ := T60.blk (e7l _ (by omega))
        have ownc7 := own_keep ownc (w' := w7) (fun q hq hl => e7 q hl (fun e => hvk q hq e))
        have hvk7 : ∀ q, (Value.slice pc2 (k + 1) cc2).ownBlock = some q → v'.ownBlock ≠ some q := fun q hq e => by
          rcases hblk with z | z
          · exact hvk q hq (z ▸ e)
          · rw [z] at e
            have := Option.some.inj e
            have := (ownc.lt q hq).2
            omega
        have b7 : Below (w.heap.size + 1) w2 w7 := ⟨hgrow.os.trans (bM.os.trans b6.os), hgrow.tape.trans (bM.tape.trans b6.tape), hgrow.output.trans (bM.output.trans b6.output), by have := hgrow.size; have := b6.size; omega, fun q hq => (e7l q (by omega)).trans (b6.block q hq)⟩
        obtain ⟨pk2, ck2, rfl⟩ := own_shape hown'
        have s7 : w7.cell? ⟨w.heap.size + 1, 5, none⟩ = some (.slice pk k ck) := T7.c 5 (by omega)
        have sf7 := T7.fz
        have hs7 : w.heap.size + 2 ≤ w7.heap.size := by have := hgrow.size; omega
        have HZ7 := hideIt (And.intro T7 (And.intro T70 (And.intro b7 (And.intro ownc7 (And.intro hown' hvk7)))))
        clear hown' hgrow hiff hblk T6 T60 b6 ownc bM hvk e7 e7l T7 T70 b7 ownc7 hvk7 s5 sf r0 r1 HZ6 hcS hkS
        go_wp2
        go_roundg (n - (i + 1))
        case measure => omega
        case rel =>
          obtain ⟨T7, T70, b7, ownc, ownk, hvk⟩ := HZ7.out
          obtain ⟨ek, ecf, hk⟩ := HEK.out
          refine ⟨i + 1, by omega, by go_num, .slice pk2 (k + 1) ck2, ?_, ?_, hvk, ?_, T70.blk (far_set (by omega)), below_cell b7 (Nat.le_refl _) _, by simpa using hs7⟩
          · rw [ek, intF_succ, ecf]
            exact own_one ownc (fun q hq => far_set (fun e => by have := (ownc.lt q hq).1; omega))
          · rw [ek]
            show World.ownsRow _ _ _ _ _ _ (opL (fun k => f (cf k)) k ++ [.int .i64 ((f (cf k) : Nat) : Int), .int .u32 0])
            rw [ecf, HXX.out]
            exact own_one ownk (fun q hq => far_set (fun e => by have := (ownk.lt q hq).1; omega))
          · have := T7.put (k := 5) (by omega) (.slice pk2 (k + 1) ck2)
            rw [stV_ky] at this
            exact this
    · have ein : i = n := by omega
      have i1 : ¬ ((i : Int) < (n : Int)) := by omega
      rw [ein, HKK.out.1] at ownc ownk
      clear ein
      obtain ⟨gc0, cc0, rfl, hcc0, hgc0, hgcl0, hcell, hcf0⟩ := own_full ownc hK0
      obtain ⟨pk, ck, rfl⟩ := own_shape ownk
      have hcc : ∀ j, j < K → wr.cell? ⟨gc0, j, none⟩ = some (.int .i64 (cf j : Int)) := fun j hj => by
        have := hcell j (by omega)
        rw [intF_get hj] at this
        exact this
      have hkS : ∀ q, (Value.slice pk K ck).ownBlock = some q → w.heap.size + 2 ≤ q ∧ q < wr.heap.size ∧ q ≠ gc0 := fun q hq => ⟨(ownk.lt q hq).1, (ownk.lt q hq).2, fun e => hck2 gc0 rfl (e ▸ hq)⟩
      have k0 := bl _ _ _ l0 hPl
      have k3 := bl _ _ _ l3 hEl
      have kj := bl _ _ _ lj hgl
      have kr := bl _ _ _ (cell_later b2 HR.a0) hgl
      have c3 : wr.cell? ⟨w.heap.size + 1, 3, none⟩ = some (.int .u8 0) := T.c 3 (by omega)
      have tf := T.fz
      have hKi : ((K : Int) == (n : Int)) = false := by simp; omega
      have hKi2 : (K : Int) > 0 := by omega
      have hKi3 : (0 : Int) < (K : Int) := by omega
      have hw2 : w.heap.size + 2 ≤ wr.heap.size := by omega
      have eLo : ∀ q, q < w.heap.size → wr.heap[q]? = w.heap[q]? := fun q hq => (bw.block q (by omega)).trans (b2.block q hq)
      have hne : ¬ ((K : Int) = (n : Int)) := by omega
      have T9 : StB (wr.setCell ⟨w.heap.size + 1, 3, none⟩ (.int .u8 1)) (w.heap.size + 1) (stV (.pointer (some ⟨gj, ao, none⟩)) (.int .u8 1) (.slice pk K ck) (.slice none 0 0)) := by
        have := T.put (k := 3) (by omega) (.int .u8 1)
        rw [stV_how] at this
        exact this
      have T90 : StB (wr.setCell ⟨w.heap.size + 1, 3, none⟩ (.int .u8 1)) w.heap.size _ := T0'.blk (far_set (by omega))
      have f9 : ∀ q, q ≠ w.heap.size + 1 → (wr.setCell ⟨w.heap.size + 1, 3, none⟩ (.int .u8 1)).heap[q]? = wr.heap[q]? := fun q hq => far_set hq
      have hix9 := indexOn_new (w := wr.setCell ⟨w.heap.size + 1, 3, none⟩ (.int .u8 1)) (c := cc0) ((H.blk (eLo rq hrl)).blk (f9 rq (by omega))) hix (fun j hj => (World.cell?_of_block (a := ⟨gc0, j, none⟩) (f9 gc0 (by omega))).trans (hcc j hj)) (by omega) hK0
      have s9 : (wr.setCell ⟨w.heap.size + 1, 3, none⟩ (.int .u8 1)).heap.size = wr.heap.size := by simp
      have r9 := (World.cell?_of_block (a := ⟨gj, ao, none⟩) (f9 gj (by omega))).trans kr
      have ownk9 := own_keep ownk (w' := wr.setCell ⟨w.heap.size + 1, 3, none⟩ (.int .u8 1)) (fun q hq hl => f9 q (by have := (hkS q hq).1; omega))
      have cc9 : ∀ j, j < K → (wr.setCell ⟨w.heap.size + 1, 3, none⟩ (.int .u8 1)).cell? ⟨gc0, j, none⟩ = some (.int .i64 (cf j : Int)) := fun j hj => (World.cell?_of_block (a := ⟨gc0, j, none⟩) (f9 gc0 (by omega))).trans (hcc j hj)
      have b9 : Below w.heap.size w (wr.setCell ⟨w.heap.size + 1, 3, none⟩ (.int .u8 1)) := b2.trans ((below_cell bw (Nat.le_refl _) _).mono (by omega))
      have HX9 := hideIt (And.intro T9 (And.intro T90 (And.intro ownk9 (And.intro cc9 (And.intro b9 (And.intro s9 (And.intro HR (And.intro HB (And.intro hκ (And.intro hinj (And.intro hfR (And.intro HE (And.intro h20 h0)))))))))))))
      have HKS := hideIt hkS
      clear T9 T90 ownk9 cc9 b9 s9 HR HB hκ hinj hfR HE h20 h0 hkS T2 T0 b2 ownc ownk hck2 T T0' bw bl hcell hcf0 hcc H hix kr eLo f9 HQ HT2 l0 l3 lj hi hin
      go_upto_region 18 with fail
      generalize wr.setCell ⟨w.heap.size + 1, 3, none⟩ (.int .u8 1) = w9 at *
      clear k0 k3 c3 tf
      go_wp2_with fail
      refine hix9.mono ?_
      rintro e w5 ⟨IX, gc, cc, gi, ci, rfl, R5, g5, C5, N5, ⟨n1, n2, n3, n4, n5, n6⟩, W5⟩
      obtain ⟨T9, T90, ownk9, cc9, b9, s9, HR, HB, hκ, hinj, hfR, HE, h20, h0⟩ := HX9.out
      have hs5 := W5.size
      have k5 : ∀ q, q < w9.heap.size → q ≠ rq → w5.heap[q]? = w9.heap[q]? := fun q h1 h2 => W5.block q h1 h2
      have T5 : StB w5 (w.heap.size + 1) _ := T9.blk (k5 _ (by omega) (by omega))
      have T50 : StB w5 w.heap.size _ := T90.blk (k5 _ (by omega) (by omega))
      have s4 : w5.cell? ⟨w.heap.size + 1, 4, none⟩ = some (.pointer none) := T5.c 4 (by omega)
      have tf5 := T5.fz
      have k9l : ∀ q, q < w.heap.size → q ≠ rq → w5.heap[q]? = w.heap[q]? := fun q h1 h2 => (k5 q (by omega) h2).trans (b9.block q h1)
      have HE5 : EngAt w5 E c := HE.blk (k9l E hEl (fun e => hd9 e))
      have T6 : StB (w5.setCell ⟨w.heap.size + 1, 4, none⟩ (.pointer (some ⟨IX, 0, none⟩))) (w.heap.size + 1) (stI (.pointer (some ⟨gj, ao, none⟩)) (.int .u8 1) (.pointer (some ⟨IX, 0, none⟩)) (.slice pk K ck) (.slice none 0 0)) := by
        have := T5.put (k := 4) (by omega) (.pointer (some ⟨IX, 0, none⟩))
        rw [stI_ix] at this
        exact this
      have f6 : ∀ q, q ≠ w.heap.size + 1 → (w5.setCell ⟨w.heap.size + 1, 4, none⟩ (.pointer (some ⟨IX, 0, none⟩))).heap[q]? = w5.heap[q]? := fun q hq => far_set hq
      have T60 : StB (w5.setCell ⟨w.heap.size + 1, 4, none⟩ (.pointer (some ⟨IX, 0, none⟩))) w.heap.size _ := T50.blk (f6 _ (by omega))
      have HE6 : EngAt (w5.setCell ⟨w.heap.size + 1, 4, none⟩ (.pointer (some ⟨IX, 0, none⟩))) E c := HE5.blk (f6 E (by omega))
      have p0 := (World.cell?_of_block (a := ⟨PL, 0, none⟩) ((f6 PL (by omega)).trans (k9l PL hPl (fun e => hd10 e.symm)))).trans h0
      have e20 := HE6.get h20 (by omega)
      have ef := HE6.fz
      have f7 : ∀ q, q ≠ w.heap.size + 1 → q ≠ E → ((w5.setCell ⟨w.heap.size + 1, 4, none⟩ (.pointer (some ⟨IX, 0, none⟩))).setCell ⟨E, 20, none⟩ (.int .i64 1)).heap[q]? = w5.heap[q]? := fun q h1 h2 => (far_set h2).trans (far_set h1)
      have R7 : RelAt ((w5.setCell ⟨w.heap.size + 1, 4, none⟩ (.pointer (some ⟨IX, 0, none⟩))).setCell ⟨E, 20, none⟩ (.int .i64 1)) rq nm _ := R5.blk (f7 rq (by omega) (fun e => hd9 e.symm))
      have g7 := (World.cell?_of_block (a := ⟨gi, 0, none⟩) (f7 gi (by omega) (by omega))).trans g5
      have C7 : IxC ((w5.setCell ⟨w.heap.size + 1, 4, none⟩ (.pointer (some ⟨IX, 0, none⟩))).setCell ⟨E, 20, none⟩ (.int .i64 1)) IX gc cc K cf := C5.keep (World.cell?_of_block (a := ⟨IX, 0, none⟩) (f7 IX (by omega) (by omega))) (f7 gc (by omega) (by omega))
      have N7 : IxN ((w5.setCell ⟨w.heap.size + 1, 4, none⟩ (.pointer (some ⟨IX, 0, none⟩))).setCell ⟨E, 20, none⟩ (.int .i64 1)) IX := N5.blk (f7 IX (by omega) (by omega))
      have hkS := HKS.out
      have ownk7 := own_keep ownk9 (w' := (w5.setCell ⟨w.heap.size + 1, 4, none⟩ (.pointer (some ⟨IX, 0, none⟩))).setCell ⟨E, 20, none⟩ (.int .i64 1)) (fun q hq hl => (f7 q (by have := hkS q hq; omega) (by have := hkS q hq; omega)).trans (k5 q hl (by have := hkS q hq; omega)))
      have cc7 : ∀ j, j < K → ((w5.setCell ⟨w.heap.size + 1, 4, none⟩ (.pointer (some ⟨IX, 0, none⟩))).setCell ⟨E, 20, none⟩ (.int .i64 1)).cell? ⟨gc0, j, none⟩ = some (.int .i64 (cf j : Int)) := fun j hj => (World.cell?_of_block (a := ⟨gc0, j, none⟩) ((f7 gc0 (by omega) (by omega)).trans (k5 gc0 (by omega) (by omega)))).trans (cc9 j hj)
      have T7 : StB ((w5.setCell ⟨w.heap.size + 1, 4, none⟩ (.pointer (some ⟨IX, 0, none⟩))).setCell ⟨E, 20, none⟩ (.int .i64 1)) (w.heap.size + 1) _ := T6.blk (far_set (by omega))
      have T70 : StB ((w5.setCell ⟨w.heap.size + 1, 4, none⟩ (.pointer (some ⟨IX, 0, none⟩))).setCell ⟨E, 20, none⟩ (.int .i64 1)) w.heap.size _ := T60.blk (far_set (by omega))
      have HE7 := HE6.put (k := 20) (by omega) (.int .i64 1)
      have lo7 : ∀ q, q < w.heap.size → q ≠ rq → q ≠ E → ((w5.setCell ⟨w.heap.size + 1, 4, none⟩ (.pointer (some ⟨IX, 0, none⟩))).setCell ⟨E, 20, none⟩ (.int .i64 1)).heap[q]? = w.heap[q]? := fun q h1 h2 h3 => (f7 q (by omega) h3).trans (k9l q h1 h2)
      have HR7 := HR.keep (lo7 gj hgl (fun e => hd11 e.symm) (fun e => hd7 e.symm)) (lo7 ga hal (fun e => hd12 e.symm) (fun e => hd8 e.symm))
      have HB7 := HB.blk (lo7 FL hFl hd5 hd2)
      have W7 : Ws (fun q => q = FL ∨ q = rq ∨ q = E) w ((w5.setCell ⟨w.heap.size + 1, 4, none⟩ (.pointer (some ⟨IX, 0, none⟩))).setCell ⟨E, 20, none⟩ (.int .i64 1)) := (((Ws.of_below b9).trans (Ws.of_wr W5 (.inr (.inl rfl)))).set (.inr (by omega))).set (.inl (.inr (.inr rfl)))
      have sz7 : w.heap.size + 2 ≤ ((w5.setCell ⟨w.heap.size + 1, 4, none⟩ (.pointer (some ⟨IX, 0, none⟩))).setCell ⟨E, 20, none⟩ (.int .i64 1)).heap.size ∧ IX < ((w5.setCell ⟨w.heap.size + 1, 4, none⟩ (.pointer (some ⟨IX, 0, none⟩))).setCell ⟨E, 20, none⟩ (.int .i64 1)).heap.size := by
        have : IX < w5.heap.size := World.block_lt_of_cell? _ _ N5.x1
        simp
        omega
      have mj := HR7.a1
      have HX7 := hideIt (And.intro T7 (And.intro T70 (And.intro R7 (And.intro g7 (And.intro C7 (And.intro N7 (And.intro ownk7 (And.intro cc7 (And.intro HE7 (And.intro HR7 (And.intro HB7 (And.intro W7 (And.intro sz7 (And.intro hκ (And.intro hinj hfR)))))))))))))))
      have hIX2 : w.heap.size + 2 ≤ IX ∧ w.heap.size + 2 ≤ gc ∧ w.heap.size + 2 ≤ gi := by omega
      have hkIX : ∀ q, (Value.slice pk K ck).ownBlock = some q → q ≠ IX ∧ q ≠ gc ∧ q ≠ gi := fun q hq => by have := hkS q hq; omega
      have hgcIX : gc0 ≠ IX := by omega
      have HKI := hideIt hkIX
      clear T9 T90 ownk9 cc9 b9 s9 HR HB hκ hinj hfR HE h20 h0 hs5 k5 T5 T50 k9l HE5 T6 f6 T60 HE6 f7 R7 g7 C7 N7 hkS ownk7 cc7 T7 T70 HE7 lo7 HR7 HB7 W7 sz7 R5 g5 C5 N5 W5 hix9 HX9 kj r9 hkIX
      go_upto_region 21 with fail
      generalize (w5.setCell ⟨w.heap.size + 1, 4, none⟩ (.pointer (some ⟨IX, 0, none⟩))).setCell ⟨E, 20, none⟩ (.int .i64 1) = w7 at *
      clear s4 tf5 p0 e20 ef
      generalize hvc : Value.slice (some ⟨gc0, 0, none⟩) K cc0 = vc
      have HVC := hideIt hvc
      clear hvc
      go_wp2_with fail
      go_loopg [106, 10] n (fun gg v v10 wx => ∃ i : Nat, i + gg = n ∧ v = .int .i64 (i : Int) ∧ (∃ p c', v10 = .slice p (K - kc κ i) c' ∧ (kc κ i < K → p = some ⟨gc0, kc κ i, none⟩ ∧ K - kc κ i ≤ c')) ∧ ∃ av, StB wx (w.heap.size + 1) (stI (.pointer (some ⟨gj, ao, none⟩)) (.int .u8 1) (.pointer (some ⟨IX, 0, none⟩)) (.slice pk K ck) av) ∧ StB wx w.heap.size (stV (.pointer none) (.int .u8 0) (.slice none 0 0) (.slice none 0 0)) ∧ wx.ownsRow w7.heap.size 223 4 av (kc (fun t => !κ t) i) (actG uf f (kc (fun t => !κ t) i)) ∧ BoolAt wx FL R (bu κ f b i) ∧ Ws (fun q => q = FL ∨ q = w.heap.size + 1) w7 wx)
      case atStart =>
        obtain ⟨T7, T70, R7, g7, C7, N7, ownk7, cc7, HE7, HR7, HB7, W7, sz7, hκ, hinj, hfR⟩ := HX7.out
        exact ⟨0, by omega, rfl, ⟨_, cc0, HVC.out.symm, fun _ => ⟨rfl, hcc0⟩⟩, _, T7, T70, own_nil _ _ _ _, HB7, Ws.refl _ _⟩
      case round =>
        clear mj
        obtain ⟨i, hi, rfl, ⟨pp, c', rfl, hpp⟩, av, T, T0, own, B, W⟩ := hrel
        obtain ⟨T7, T70, R7, g7, C7, N7, ownk7, cc7, HE7, HR7, HB7, W7, sz7, hκ, hinj, hfR⟩ := HX7.out
        have hsw := W.size
        have kp : ∀ q, q < w7.heap.size → q ≠ FL → q ≠ w.heap.size + 1 → wr.heap[q]? = w7.heap[q]? := fun q h1 h2 h3 => W.block q h1 (fun e => by rcases e with e | e; exact h2 e; exact h3 e)
        by_cases hin : i < n
        · have i0 : (0 : Int) ≤ i := by omega
          have i1 : (i : Int) < (n : Int) := by omega
          obtain ⟨a0, a1⟩ := HR7.c i hin
          have ea := kp ga (by omega) (fun e => hd4 e.symm) (by omega)
          have d0 := (World.cell?_of_block (a := ⟨ga, i * 2, none⟩) ea).trans a0
          have d1 := (World.cell?_of_block (a := ⟨ga, i * 2 + 1, none⟩) ea).trans a1
          have hfi := hfR i hin
          obtain ⟨x, hx⟩ : ∃ x, f i = x := ⟨_, rfl⟩
          rw [hx] at d0 hfi
          have HXX := hideIt hx
          have bA := one_alloc wr (.cells #[.int .i64 (x : Int), .int .u32 0] 136)
          have hFw : FL < wr.heap.size := by omega
          have hcg : ∀ j, j < K → (wr.alloc (.cells #[.int .i64 (x : Int), .int .u32 0] 136)).cell? ⟨gc0, j, none⟩ = some (.int .i64 (cf j : Int)) := fun j hj => cell_later bA ((World.cell?_of_block (a := ⟨gc0, j, none⟩) (kp gc0 (World.block_lt_of_cell? _ _ (cc7 j hj)) (by omega) (by omega))).trans (cc7 j hj))
          cases hkk : κ i with
          | true =>
            have ek : kc κ (i + 1) = kc κ i + 1 := if_pos hkk
            have eu : kc (fun t => !κ t) (i + 1) = kc (fun t => !κ t) i := if_neg (by show ¬ ((!κ i) = true); rw [hkk]; simp)
            have eb : bu κ f b (i + 1) = bu κ f b i := if_pos hkk
            have ecf : cf (kc κ i) = i := HKK.out.2.2.1 i hin hkk
            have hkl : kc κ i < K := by rw [← HKK.out.1]; exact kc_lt hin hkk
            obtain ⟨rfl, hc'⟩ := hpp hkl
            obtain ⟨k, hk⟩ : ∃ k, kc κ i = k := ⟨_, rfl⟩
            rw [hk] at ek ecf hkl hc' ⊢
            have hc0 := hcg k hkl
            rw [ecf] at hc0
            obtain ⟨m, hm⟩ : ∃ m, K - k = m := ⟨_, rfl⟩
            rw [hm] at hc' ⊢
            have hm1 : (m : Int) > 0 := by omega
            have hm2 : (0 : Int) < (m : Int) := by omega
            have hsl1 := fun w' => slice1 (n := m) (c := c') (p := some ⟨gc0, k, none⟩) w' (by omega)
            obtain ⟨pn, hpn⟩ : ∃ pn, (if c' = 1 then (some ⟨gc0, k, none⟩ : Option Addr) else (some ⟨gc0, k, none⟩ : Option Addr).map (fun x => x.add 1)) = pn := ⟨_, rfl⟩
            rw [hpn] at hsl1
            have HZ := hideIt (And.intro (And.intro T T0) (And.intro own (And.intro B (And.intro W (And.intro bA (And.intro ek (And.intro eu (And.intro eb (And.intro hk (And.intro hm (And.intro hpn hc')))))))))))
            clear T T0 own B W bA ek eu eb ecf hk hm hpn hc' hpp T7 T70 R7 g7 C7 N7 ownk7 cc7 HE7 HR7 HB7 W7 sz7 hκ hinj hfR kp ea a0 a1 hcg hkk hx hsw
            go_wp2
            go_roundg (n - (i + 1))
            case measure => omega
            case rel =>
              obtain ⟨⟨T, T0⟩, own, B, W, bA, ek, eu, eb, hk, hm, hpn, hc'⟩ := HZ.out
              have hsz7 := HX7.out.2.2.2.2.2.2.2.2.2.2.2.2.1
              have hsw := W.size
              refine ⟨i + 1, by omega, by go_num, ⟨pn, c' - 1, by rw [ek, ← hm]; rfl, fun h => ?_⟩, av, T.blk (bA.block _ (by omega)), T0.blk (bA.block _ (by omega)), ?_, ?_, W.below bA⟩
              · rw [ek] at h ⊢
                have h1 : c' ≠ 1 := by omega
                rw [if_neg h1] at hpn
                refine ⟨hpn.symm.trans ?_, by omega⟩
                simp [Addr.add]
              · rw [eu]; exact own_keep own (fun q _ hl => bA.block q hl)
              · rw [eb]; exact B.blk (bA.block FL (by omega))
          | false =>
            have ek : kc κ (i + 1) = kc κ i := if_neg (by rw [hkk]; simp)
            have eu : kc (fun t => !κ t) (i + 1) = kc (fun t => !κ t) i + 1 := if_pos (by show (!κ i) = true; rw [hkk]; rfl)
            have eb : bu κ f b (i + 1) = onB (bu κ f b i) (f i) := if_neg (by rw [hkk]; simp)
            have euf : uf (kc (fun t => !κ t) i) = i := HKK.out.2.2.2.2 i hin hkk
            have hbf : bu κ f b i x = false := by
              cases hq : bu κ f b i x
              · rfl
              · rcases bu_iff κ f b x i hq with h | ⟨t, h1, h2⟩
                · have := hκ i hin; rw [hx, h, hkk] at this; cases this
                · have := hinj t i (by omega) hin (h2.trans hx.symm); omega
            have hkn := known_any (B.blk (bA.block FL hFw)) hfi hR
            rw [hbf] at hkn
            have hul : kc (fun t => !κ t) i ≤ 100 := by have := kc_le (fun t => !κ t) i; omega
            obtain ⟨u, hu⟩ : ∃ u, kc (fun t => !κ t) i = u := ⟨_, rfl⟩
            rw [hu] at eu euf own hul
            obtain ⟨y, hy⟩ : ∃ y, bu κ f b i x = y := ⟨_, rfl⟩
            have HEE := hideIt (And.intro ek (And.intro eu (And.intro eb (And.intro euf (And.intro hu hx)))))
            have HZ := hideIt (And.intro (And.intro T T0) (And.intro own (And.intro B (And.intro W bA))))
            have hno : ¬ (0 < K - kc κ i) ∨ (0 < K - kc κ i ∧ pp = some ⟨gc0, kc κ i, none⟩ ∧ K - kc κ i ≤ c' ∧ (wr.alloc (.cells #[.int .i64 (x : Int), .int .u32 0] 136)).cell? ⟨gc0, kc κ i, none⟩ = some (.int .i64 (cf (kc κ i) : Int)) ∧ cf (kc κ i) ≠ i) := by
              by_cases q : kc κ i < K
              · obtain ⟨e1, e2⟩ := hpp q
                exact .inr ⟨by omega, e1, e2, hcg _ q, fun e => by have := HKK.out.2.2.2.1 _ q; rw [e, hkk] at this; cases this⟩
              · exact .inl (by omega)
            have HPP := hideIt hpp
            obtain ⟨m, hm⟩ : ∃ m, K - kc κ i = m := ⟨_, rfl⟩
            have HMM := hideIt hm
            rw [hm] at hno ⊢
            have hsz7 := sz7
            clear T T0 own B W bA ek eu eb euf hpp T7 T70 R7 g7 C7 N7 ownk7 cc7 HE7 HR7 HB7 W7 sz7 hκ hinj hfR kp ea a0 a1 hcg hkk hx hsw hbf hu hy hm
            rcases hno with hno | ⟨hm0, rfl, hc', hcc, hne2⟩
            · have hm1 : ¬ ((m : Int) > 0) := by omega
              have hm2 : ¬ ((0 : Int) < (m : Int)) := by omega
              have hm3 : (m : Int) ≤ 0 := by omega
              go_wp2_with fail
              refine hkn.mono ?_
              rintro e w5 ⟨rfl, hb5⟩
              obtain ⟨⟨T, T0⟩, own, B, W, bA⟩ := HZ.out
              have hsw := W.size
              have q0 : (wr.alloc (.cells #[.int .i64 (x : Int), .int .u32 0] 136)).cell? ⟨wr.heap.size, 0, none⟩ = some (.int .i64 (x : Int)) := by simp
              have q1 : (wr.alloc (.cells #[.int .i64 (x : Int), .int .u32 0] 136)).cell? ⟨wr.heap.size, 1, none⟩ = some (.int .u32 0) := by simp
              have q0 := cell_later hb5 q0
              have q1 := cell_later hb5 q1
              have b5 := then_ bA hb5
              have B5 := B.blk (b5.block FL hFw)
              have W5 := W.below b5
              have T5 : StB w5 (w.heap.size + 1) _ := T.blk (b5.block _ (by omega))
              have T50 : StB w5 w.heap.size _ := T0.blk (b5.block _ (by omega))
              have own5 := own_keep own (w' := w5) (fun q _ hl => b5.block q hl)
              have f5 := B5.c x hfi
              have ff5 := B5.fz
              have hs5 : wr.heap.size < w5.heap.size := by have := hb5.size; simp at this; omega
              obtain ⟨y, hy⟩ : ∃ y, bu κ f b i x = y := ⟨_, rfl⟩
              rw [hy] at f5
              have x0 : (0 : Int) ≤ x := by omega
              have x1 : (x : Int) < (R : Int) := by omega
              have hF2' : FL ≠ wr.heap.size := by omega
              have T6 : StB (w5.setCell ⟨FL, x, none⟩ (.bool true)) (w.heap.size + 1) _ := T5.blk (far_set (by omega))
              have T60 : StB (w5.setCell ⟨FL, x, none⟩ (.bool true)) w.heap.size _ := T50.blk (far_set (by omega))
              have B6 := B5.put hfi
              have own6 := own_keep own5 (w' := w5.setCell ⟨FL, x, none⟩ (.bool true)) (fun q hq _ => far_set (fun (e : q = FL) => by have := (own5.lt q hq).1; omega))
              have W6 : Ws (fun q => q = FL ∨ q = w.heap.size + 1) w7 (w5.setCell ⟨FL, x, none⟩ (.bool true)) := W5.set (.inl (.inl rfl))
              have r0 : (w5.setCell ⟨FL, x, none⟩ (.bool true)).cell? ⟨wr.heap.size, 0, none⟩ = some (.int .i64 (x : Int)) := (World.cell?_of_block (a := ⟨wr.heap.size, 0, none⟩) (far_set (fun e => hF2' e.symm))).trans q0
              have r1 : (w5.setCell ⟨FL, x, none⟩ (.bool true)).cell? ⟨wr.heap.size, 1, none⟩ = some (.int .u32 0) := (World.cell?_of_block (a := ⟨wr.heap.size, 1, none⟩) (far_set (fun e => hF2' e.symm))).trans q1
              have hs6 : wr.heap.size < (w5.setCell ⟨FL, x, none⟩ (.bool true)).heap.size := by simpa using hs5
              have HZ6 := hideIt (And.intro (And.intro T6 T60) (And.intro B6 (And.intro W6 own6)))
              clear T T0 own B W bA b5 B5 W5 T5 T50 own5 hb5 hkn hy HZ d0 d1 T6 T60 B6 W6 own6
              go_upto_region 29 with fail
              generalize w5.setCell ⟨FL, x, none⟩ (.bool true) = w6 at *
              clear q0 q1 f5 ff5
              obtain ⟨⟨T6, T60⟩, B6, W6, own6⟩ := HZ6.out
              obtain ⟨pv, cv, rfl⟩ := own_shape own6
              have t6 : w6.cell? ⟨w.heap.size + 1, 6, none⟩ = some (.slice pv u cv) := T6.c 6 (by omega)
              have tf := T6.fz
              have bN := one_alloc w6 (.cells #[.int .i64 (i : Int), .bool true, .int .i64 (x : Int), .int .u32 0] 223)
              have HO6 := hideIt own6
              have HZ7 := hideIt (And.intro (And.intro T6 T60) (And.intro B6 (And.intro W6 bN)))
              clear T6 T60 B6 W6 own6 bN HZ6
              go_wp2_with (first | (at_builtin; refine wpList_append_own_at _ rfl (.tmp 133) (.tmp 138) 189 rfl w7.heap.size 223 i2 (.agg #[.int .i64 0, .bool false, .int .i64 0, .int .u32 0]) 4 32 Tryz.underlying189 hi2 hy0 hy1 hy2 rfl (by decide) (.slice pv u cv) u (actG uf f u) rfl (HO6.out.alloc _) ⟨w6.heap.size, 0, none⟩ 1 1 [.int .i64 (i : Int), .bool true, .int .i64 (x : Int), .int .u32 0] rfl rfl (cell_new_4 _ _ _ _ _ _) (by simp [Value.oneCell']) (by unfold maxLen; omega) (by omega) (by simp <;> omega) ?_) | go_in)
              intro v' w8 hown' hgrow hiff hblk
              obtain ⟨p', c'', rfl⟩ := own_shape hown'
              obtain ⟨⟨T6, T60⟩, B6, W6, bN⟩ := HZ7.out
              have hsN : (w6.alloc (.cells #[.int .i64 (i : Int), .bool true, .int .i64 (x : Int), .int .u32 0] 223)).heap.size = w6.heap.size + 1 := by simp
              have e8 : ∀ q, q < w7.heap.size → w8.heap[q]? = w6.heap[q]? := fun q h2 => (hgrow.block q (by have := W6.size; omega) (fun e => by have := (HO6.out.lt q e.symm).1; omega)).trans (bN.block q (by have := W6.size; omega))
              have T8 : StB w8 (w.heap.size + 1) _ := T6.blk (e8 _ (by omega))
              have T80 : StB w8 w.heap.size _ := T60.blk (e8 _ (by omega))
              have B8 := B6.blk (e8 FL (by omega))
              have W8 : Ws (fun q => q = FL ∨ q = w.heap.size + 1) w7 w8 := ⟨hgrow.os.trans (bN.os.trans W6.os), hgrow.tape.trans (bN.tape.trans W6.tape), hgrow.output.trans (bN.output.trans W6.output), by have := hgrow.size; have := W6.size; omega, fun q h1 h2 => (e8 q h1).trans (W6.block q h1 h2)⟩
              have t8 := T8.c 6 (by omega)
              have tf8 := T8.fz
              have HZ8 := hideIt (And.intro (And.intro T8 T80) (And.intro hown' (And.intro B8 W8)))
              clear hown' hgrow hiff hblk T6 T60 B6 W6 bN e8 T8 T80 B8 W8 HZ7 t6 tf r0 r1
              go_wp2
              go_roundg (n - (i + 1))
              case measure => omega
              case rel =>
                obtain ⟨⟨T8, T80⟩, hown', B8, W8⟩ := HZ8.out
                obtain ⟨ek, eu, eb, euf, hu, hx⟩ := HEE.out
                refine ⟨i + 1, by omega, by go_num, ⟨_, c', by rw [ek, HMM.out], fun h => by rw [ek] at h ⊢; exact HPP.out h⟩, .slice p' (u + 1) c'', ?_, T80.blk (far_set (by omega)), ?_, ?_, W8.set (.inl (.inr rfl))⟩
                · have := T8.put (k := 6) (by omega) (.slice p' (u + 1) c'')
                  rw [stI_ac] at this
                  exact this
                · rw [eu]
                  show World.ownsRow _ _ _ _ _ _ (actG uf f u ++ [.int .i64 ((uf u : Nat) : Int), .bool true, .int .i64 ((f (uf u) : Nat) : Int), .int .u32 0])
                  rw [euf, hx]
                  exact own_one hown' (fun q hq => far_set (fun (e : q = w.heap.size + 1) => by have := (hown'.lt q hq).1; omega))
                · rw [eb, hx]
                  exact B8.blk (far_set (by omega))
            · have hm1 : (m : Int) > 0 := by omega
              have hm2 : (0 : Int) < (m : Int) := by omega
              obtain ⟨kk, hkk2⟩ : ∃ kk, kc κ i = kk := ⟨_, rfl⟩
              rw [hkk2] at hcc hne2 ⊢
              obtain ⟨cfk, hcfk⟩ : ∃ cfk, cf kk = cfk := ⟨_, rfl⟩
              rw [hcfk] at hcc hne2
              have hne3 : ¬ ((cfk : Int) = (i : Int)) := by omega
              have HKK2 := hideIt hkk2
              clear hkk2 hcfk hne2
              go_wp2_with fail
              refine hkn.mono ?_
              rintro e w5 ⟨rfl, hb5⟩
              obtain ⟨⟨T, T0⟩, own, B, W, bA⟩ := HZ.out
              have hsw := W.size
              have q0 : (wr.alloc (.cells #[.int .i64 (x : Int), .int .u32 0] 136)).cell? ⟨wr.heap.size, 0, none⟩ = some (.int .i64 (x : Int)) := by simp
              have q1 : (wr.alloc (.cells #[.int .i64 (x : Int), .int .u32 0] 136)).cell? ⟨wr.heap.size, 1, none⟩ = some (.int .u32 0) := by simp
              have q0 := cell_later hb5 q0
              have q1 := cell_later hb5 q1
              have b5 := then_ bA hb5
              have B5 := B.blk (b5.block FL hFw)
              have W5 := W.below b5
              have T5 : StB w5 (w.heap.size + 1) _ := T.blk (b5.block _ (by omega))
              have T50 : StB w5 w.heap.size _ := T0.blk (b5.block _ (by omega))
              have own5 := own_keep own (w' := w5) (fun q _ hl => b5.block q hl)
              have f5 := B5.c x hfi
              have ff5 := B5.fz
              have hs5 : wr.heap.size < w5.heap.size := by have := hb5.size; simp at this; omega
              obtain ⟨y, hy⟩ : ∃ y, bu κ f b i x = y := ⟨_, rfl⟩
              rw [hy] at f5
              have x0 : (0 : Int) ≤ x := by omega
              have x1 : (x : Int) < (R : Int) := by omega
              have hF2' : FL ≠ wr.heap.size := by omega
              have T6 : StB (w5.setCell ⟨FL, x, none⟩ (.bool true)) (w.heap.size + 1) _ := T5.blk (far_set (by omega))
              have T60 : StB (w5.setCell ⟨FL, x, none⟩ (.bool true)) w.heap.size _ := T50.blk (far_set (by omega))
              have B6 := B5.put hfi
              have own6 := own_keep own5 (w' := w5.setCell ⟨FL, x, none⟩ (.bool true)) (fun q hq _ => far_set (fun (e : q = FL) => by have := (own5.lt q hq).1; omega))
              have W6 : Ws (fun q => q = FL ∨ q = w.heap.size + 1) w7 (w5.setCell ⟨FL, x, none⟩ (.bool true)) := W5.set (.inl (.inl rfl))
              have r0 : (w5.setCell ⟨FL, x, none⟩ (.bool true)).cell? ⟨wr.heap.size, 0, none⟩ = some (.int .i64 (x : Int)) := (World.cell?_of_block (a := ⟨wr.heap.size, 0, none⟩) (far_set (fun e => hF2' e.symm))).trans q0
              have r1 : (w5.setCell ⟨FL, x, none⟩ (.bool true)).cell? ⟨wr.heap.size, 1, none⟩ = some (.int .u32 0) := (World.cell?_of_block (a := ⟨wr.heap.size, 1, none⟩) (far_set (fun e => hF2' e.symm))).trans q1
              have hs6 : wr.heap.size < (w5.setCell ⟨FL, x, none⟩ (.bool true)).heap.size := by simpa using hs5
              have HZ6 := hideIt (And.intro (And.intro T6 T60) (And.intro B6 (And.intro W6 own6)))
              clear T T0 own B W bA b5 B5 W5 T5 T50 own5 hb5 hkn hy HZ d0 d1 T6 T60 B6 W6 own6
              go_upto_region 29 with fail
              generalize w5.setCell ⟨FL, x, none⟩ (.bool true) = w6 at *
              clear q0 q1 f5 ff5
              obtain ⟨⟨T6, T60⟩, B6, W6, own6⟩ := HZ6.out
              obtain ⟨pv, cv, rfl⟩ := own_shape own6
              have t6 : w6.cell? ⟨w.heap.size + 1, 6, none⟩ = some (.slice pv u cv) := T6.c 6 (by omega)
              have tf := T6.fz
              have bN := one_alloc w6 (.cells #[.int .i64 (i : Int), .bool true, .int .i64 (x : Int), .int .u32 0] 223)
              have HO6 := hideIt own6
              have HZ7 := hideIt (And.intro (And.intro T6 T60) (And.intro B6 (And.intro W6 bN)))
              clear T6 T60 B6 W6 own6 bN HZ6
              go_wp2_with (first | (at_builtin; refine wpList_append_own_at _ rfl (.tmp 133) (.tmp 138) 189 rfl w7.heap.size 223 i2 (.agg #[.int .i64 0, .bool false, .int .i64 0, .int .u32 0]) 4 32 Tryz.underlying189 hi2 hy0 hy1 hy2 rfl (by decide) (.slice pv u cv) u (actG uf f u) rfl (HO6.out.alloc _) ⟨w6.heap.size, 0, none⟩ 1 1 [.int .i64 (i : Int), .bool true, .int .i64 (x : Int), .int .u32 0] rfl rfl (cell_new_4 _ _ _ _ _ _) (by simp [Value.oneCell']) (by unfold maxLen; omega) (by omega) (by simp <;> omega) ?_) | go_in)
              intro v' w8 hown' hgrow hiff hblk
              obtain ⟨p', c'', rfl⟩ := own_shape hown'
              obtain ⟨⟨T6, T60⟩, B6, W6, bN⟩ := HZ7.out
              have hsN : (w6.alloc (.cells #[.int .i64 (i : Int), .bool true, .int .i64 (x : Int), .int .u32 0] 223)).heap.size = w6.heap.size + 1 := by simp
              have e8 : ∀ q, q < w7.heap.size → w8.heap[q]? = w6.heap[q]? := fun q h2 => (hgrow.block q (by have := W6.size; omega) (fun e => by have := (HO6.out.lt q e.symm).1; omega)).trans (bN.block q (by have := W6.size; omega))
              have T8 : StB w8 (w.heap.size + 1) _ := T6.blk (e8 _ (by omega))
              have T80 : StB w8 w.heap.size _ := T60.blk (e8 _ (by omega))
              have B8 := B6.blk (e8 FL (by omega))
              have W8 : Ws (fun q => q = FL ∨ q = w.heap.size + 1) w7 w8 := ⟨hgrow.os.trans (bN.os.trans W6.os), hgrow.tape.trans (bN.tape.trans W6.tape), hgrow.output.trans (bN.output.trans W6.output), by have := hgrow.size; have := W6.size; omega, fun q h1 h2 => (e8 q h1).trans (W6.block q h1 h2)⟩
              have t8 := T8.c 6 (by omega)
              have tf8 := T8.fz
              have HZ8 := hideIt (And.intro (And.intro T8 T80) (And.intro hown' (And.intro B8 W8)))
              clear hown' hgrow hiff hblk T6 T60 B6 W6 bN e8 T8 T80 B8 W8 HZ7 t6 tf r0 r1
              go_wp2
              go_roundg (n - (i + 1))
              case measure => omega
              case rel =>
                obtain ⟨⟨T8, T80⟩, hown', B8, W8⟩ := HZ8.out
                obtain ⟨ek, eu, eb, euf, hu, hx⟩ := HEE.out
                refine ⟨i + 1, by omega, by go_num, ⟨_, c', by rw [ek, HMM.out], fun h => by rw [ek] at h ⊢; rw [HKK2.out] at h ⊢; have := HMM.out; rw [HKK2.out] at this; exact ⟨rfl, by omega⟩⟩, .slice p' (u + 1) c'', ?_, T80.blk (far_set (by omega)), ?_, ?_, W8.set (.inl (.inr rfl))⟩
                · have := T8.put (k := 6) (by omega) (.slice p' (u + 1) c'')
                  rw [stI_ac] at this
                  exact this
                · rw [eu]
                  show World.ownsRow _ _ _ _ _ _ (actG uf f u ++ [.int .i64 ((uf u : Nat) : Int), .bool true, .int .i64 ((f (uf u) : Nat) : Int), .int .u32 0])
                  rw [euf, hx]
                  exact own_one hown' (fun q hq => far_set (fun (e : q = w.heap.size + 1) => by have := (hown'.lt q hq).1; omega))
                · rw [eb, hx]
                  exact B8.blk (far_set (by omega))
        · have ein : i = n := by omega
          have i1 : ¬ ((i : Int) < (n : Int)) := by omega
          rw [ein, HKK.out.2.1] at own
          obtain ⟨pa, ca', rfl⟩ := own_shape own
          have s0 : wr.cell? ⟨w.heap.size + 1, 0, none⟩ = some (.pointer (some ⟨gj, ao, none⟩)) := T.c 0 (by omega)
          have s1 : wr.cell? ⟨w.heap.size + 1, 1, none⟩ = some (.int .i64 0) := T.c 1 (by omega)
          have s2 : wr.cell? ⟨w.heap.size + 1, 2, none⟩ = some (.int .u8 0) := T.c 2 (by omega)
          have s3 : wr.cell? ⟨w.heap.size + 1, 3, none⟩ = some (.int .u8 1) := T.c 3 (by omega)
          have s4 : wr.cell? ⟨w.heap.size + 1, 4, none⟩ = some (.pointer (some ⟨IX, 0, none⟩)) := T.c 4 (by omega)
          have s5 : wr.cell? ⟨w.heap.size + 1, 5, none⟩ = some (.slice pk K ck) := T.c 5 (by omega)
          have s6 : wr.cell? ⟨w.heap.size + 1, 6, none⟩ = some (.slice pa U ca') := T.c 6 (by omega)
          have s7 : wr.cell? ⟨w.heap.size + 1, 7, none⟩ = some (.slice none 0 0) := T.c 7 (by omega)
          have z0 : wr.cell? ⟨w.heap.size, 0, none⟩ = some (.pointer none) := T0.c 0 (by omega)
          have z1 : wr.cell? ⟨w.heap.size, 1, none⟩ = some (.int .i64 0) := T0.c 1 (by omega)
          have z2 : wr.cell? ⟨w.heap.size, 2, none⟩ = some (.int .u8 0) := T0.c 2 (by omega)
          have z3 : wr.cell? ⟨w.heap.size, 3, none⟩ = some (.int .u8 0) := T0.c 3 (by omega)
          have z4 : wr.cell? ⟨w.heap.size, 4, none⟩ = some (.pointer none) := T0.c 4 (by omega)
          have z5 : wr.cell? ⟨w.heap.size, 5, none⟩ = some (.slice none 0 0) := T0.c 5 (by omega)
          have z6 : wr.cell? ⟨w.heap.size, 6, none⟩ = some (.slice none 0 0) := T0.c 6 (by omega)
          have z7 : wr.cell? ⟨w.heap.size, 7, none⟩ = some (.slice none 0 0) := T0.c 7 (by omega)
          have tf := T.fz
          have uf' := T0.fz
          have HZ := hideIt (And.intro own (And.intro B W))
          clear T T0 own B W hpp T7 T70 R7 g7 C7 N7 ownk7 cc7 HE7 HR7 HB7 W7 sz7 hκ hinj hfR kp hsw ein hi hin
          go_wp2
          refine bodyPost_ret (v := .agg #[.pointer (some ⟨gj, ao, none⟩), .int .i64 0, .int .u8 0, .int .u8 1, .pointer (some ⟨IX, 0, none⟩), .slice pk K ck, .slice pa U ca', .slice none 0 0]) ?_ rfl ?_
          · rw [results_one_cell rfl]
            go_simp
          · obtain ⟨own, B, W⟩ := HZ.out
            obtain ⟨T7, T70, R7, g7, C7, N7, ownk7, cc7, HE7, HR7, HB7, W7, sz7, hκ, hinj, hfR⟩ := HX7.out
            have hsw := W.size
            have zz : ∀ q, q ≠ w.heap.size → (((((((((wr.setCell ⟨w.heap.size, 0, none⟩ (.pointer (some ⟨gj, ao, none⟩))).setCell ⟨w.heap.size, 1, none⟩ (.int .i64 0)).setCell ⟨w.heap.size, 2, none⟩ (.int .u8 0)).setCell ⟨w.heap.size, 3, none⟩ (.int .u8 1)).setCell ⟨w.heap.size, 4, none⟩ (.pointer (some ⟨IX, 0, none⟩))).setCell ⟨w.heap.size, 5, none⟩ (.slice pk K ck)).setCell ⟨w.heap.size, 6, none⟩ (.slice pa U ca')).setCell ⟨w.heap.size, 7, none⟩ (.slice none 0 0))).heap[q]? = wr.heap[q]? := fun q HH => (far_set HH).trans ((far_set HH).trans ((far_set HH).trans ((far_set HH).trans ((far_set HH).trans ((far_set HH).trans ((far_set HH).trans (far_set HH)))))))
            have kp : ∀ q, q < w7.heap.size → q ≠ FL → q ≠ w.heap.size + 1 → wr.heap[q]? = w7.heap[q]? := fun q h1 h2 h3 => W.block q h1 (fun e => by rcases e with e | e; exact h2 e; exact h3 e)
            have kz : ∀ q, q < w7.heap.size → q ≠ FL → q ≠ w.heap.size + 1 → q ≠ w.heap.size → (((((((((wr.setCell ⟨w.heap.size, 0, none⟩ (.pointer (some ⟨gj, ao, none⟩))).setCell ⟨w.heap.size, 1, none⟩ (.int .i64 0)).setCell ⟨w.heap.size, 2, none⟩ (.int .u8 0)).setCell ⟨w.heap.size, 3, none⟩ (.int .u8 1)).setCell ⟨w.heap.size, 4, none⟩ (.pointer (some ⟨IX, 0, none⟩))).setCell ⟨w.heap.size, 5, none⟩ (.slice pk K ck)).setCell ⟨w.heap.size, 6, none⟩ (.slice pa U ca')).setCell ⟨w.heap.size, 7, none⟩ (.slice none 0 0))).heap[q]? = w7.heap[q]? := fun q h1 h2 h3 h4 => (zz q h4).trans (kp q h1 h2 h3)
            have hgil := World.block_lt_of_cell? _ _ g7
            have hgcl := World.block_lt_of_cell? _ _ (C7.c 0 hK0)
            have hkI := HKI.out
            have wF : Ws (fun q => q = FL ∨ q = rq ∨ q = E) w (((((((((wr.setCell ⟨w.heap.size, 0, none⟩ (.pointer (some ⟨gj, ao, none⟩))).setCell ⟨w.heap.size, 1, none⟩ (.int .i64 0)).setCell ⟨w.heap.size, 2, none⟩ (.int .u8 0)).setCell ⟨w.heap.size, 3, none⟩ (.int .u8 1)).setCell ⟨w.heap.size, 4, none⟩ (.pointer (some ⟨IX, 0, none⟩))).setCell ⟨w.heap.size, 5, none⟩ (.slice pk K ck)).setCell ⟨w.heap.size, 6, none⟩ (.slice pa U ca')).setCell ⟨w.heap.size, 7, none⟩ (.slice none 0 0))) := (((((((((W7.then W (fun q hq => by rcases hq with z | z; exact .inl (.inl z); exact .inr (by omega))).set (.inr (Nat.le_refl _))).set (.inr (Nat.le_refl _))).set (.inr (Nat.le_refl _))).set (.inr (Nat.le_refl _))).set (.inr (Nat.le_refl _))).set (.inr (Nat.le_refl _))).set (.inr (Nat.le_refl _))).set (.inr (Nat.le_refl _)))
            refine ⟨IX, gc, cc, gi, ci, _, _, rfl, R7.blk (kz rq R7.lt (fun e => hd5 e.symm) (by omega) (by omega)), (World.cell?_of_block (a := ⟨gi, 0, none⟩) (kz gi hgil (by omega) (by omega) (by omega))).trans g7, C7.keep (World.cell?_of_block (a := ⟨IX, 0, none⟩) (kz IX sz7.2 (by omega) (by omega) (by omega))) (kz gc hgcl (by omega) (by omega) (by omega)), N7.blk (kz IX sz7.2 (by omega) (by omega) (by omega)), ⟨by omega, by omega, by omega, by omega, by omega⟩, own_keep ownk7 (fun q hq hl => kz q hl (by have := (ownk7.lt q hq).1; omega) (by have := (ownk7.lt q hq).1; omega) (by have := (ownk7.lt q hq).1; omega)), own_base (own_keep own (fun q hq hl => zz q (by have := (own.lt q hq).1; omega))) (by omega), ⟨fun e => (hkI _ e).1 rfl, fun e => by have := (own.lt _ e).1; omega⟩, ⟨_, B.blk (zz FL (by omega))⟩, HE7.blk (kz E HE7.lt (fun e => hd2 e.symm) (by omega) (by omega)), wF⟩
end Go.Proofs.Qxb6500880aGreat
