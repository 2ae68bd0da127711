import Derived.Test.Qxb6500872aDoorWk
import Derived.Test.Qxb6500872aDoorNumD
import Derived.Laws.BytesArg
set_option linter.unusedVariables false
namespace Go.Proofs.Qxb6500872aDoor
open Go.RowKit

theorem Tryd.info5 : (Tryd.prog.info? 5).map (fun i => (i.zero, i.size, i.bytes)) = some (some (.int .u8 0), 1, 1) := by kernel_rfl

theorem make_bytes (k : Nat) (h1 : k ≤ 1000000) (W : World) : (Instr.makeSlice 76 (.int .i64 ((k : Int) * 10 + 9)) (.int .i64 ((k : Int) * 10 + 9))).run Tryd.prog W
    = .ok (.slice (some ⟨W.heap.size, 0, none⟩) (k * 10 + 9) (k * 10 + 9)) (W.alloc (.cells (madeCells #[.int .u8 0] (k * 10 + 9)) 5)) := by
  obtain ⟨i, hi, hz0, hz1, hz2⟩ := info_parts Tryd.info5
  have := run_make (P := Tryd.prog) W 76 5 i (.int .u8 0) Tryd.underlying76 hi hz0 .i64 .i64 ((k : Int) * 10 + 9) ((k : Int) * 10 + 9) (by omega) (Int.le_refl _) (by rw [hz2]; omega) (by omega)
  rw [hz1, Nat.mul_one, show ((k : Int) * 10 + 9).toNat = k * 10 + 9 by omega] at this
  exact this

/-- A row of bytes. -/
structure Bytes (w : World) (b L : Nat) (bs : List Int) : Prop where
  len : bs.length = L
  cell : ∀ j, j < L → w.cell? ⟨b, j, none⟩ = some (.int .u8 (bs[j]?.getD 0))
  free : ∀ o, w.frozen? ⟨b, o, none⟩ = false

theorem made_bytes (W : World) (L : Nat) : Bytes (W.alloc (.cells (madeCells #[.int .u8 0] L) 5)) W.heap.size L (List.replicate L 0) := by
  refine ⟨by simp, fun j hj => ?_, fun o => by simp⟩
  rw [zeros_getD]
  simp [madeCells, hj, Nat.mod_one]

theorem Bytes.below {w w' : World} {b L : Nat} {bs : List Int} (h : Bytes w b L bs) (hb : Below w.heap.size w w') (hlt : b < w.heap.size) : Bytes w' b L bs :=
  ⟨h.len, fun j hj => cell_later hb (h.cell j hj), fun o => (hb.frozen (p := ⟨b, o, none⟩) hlt).trans (h.free o)⟩
theorem Bytes.far {w w' : World} {b L : Nat} {bs : List Int} (h : Bytes w b L bs) {c lo hi : Nat} (hW : Wrote c lo hi w w') (hne : b ≠ c) : Bytes w' b L bs :=
  ⟨h.len, fun j hj => by rw [hW.cell_far hne]; exact h.cell j hj, fun o => (hW.frz _).trans (h.free o)⟩
theorem Bytes.set {w : World} {b L : Nat} {bs : List Int} (h : Bytes w b L bs) {k : Nat} (hk : k < L) (v : Int) : Bytes (w.setCell ⟨b, k, none⟩ (.int .u8 v)) b L (bs.set k v) := by
  refine ⟨by rw [List.length_set]; exact h.len, fun j hj => ?_, fun o => by rw [World.frozen?_setCell]; exact h.free o⟩
  rw [getD_set _ (by rw [h.len]; exact hk)]
  by_cases hjk : j = k
  · subst hjk
    rw [if_pos rfl]
    exact World.cell?_setCell_same _ _ _ (h.cell j hj)
  · rw [if_neg hjk, World.cell?_setCell_other _ _ _ _ (by intro e; injection e with _ e2 _; omega)]
    exact h.cell j hj

theorem Wrote.setCells {b lo hi : Nat} : ∀ (vs : List Value) (o : Nat) {w w' : World}, Wrote b lo hi w w' → lo ≤ o → o + vs.length ≤ hi → Wrote b lo hi w (w'.setCells b o vs)
  | [], _, _, _, h, _, _ => h
  | v :: vs, o, _, _, h, h1, h2 => by
    simp only [List.length_cons] at h2
    exact Wrote.setCells vs (o + 1) (h.setCell h1 (by omega) v) (by omega) (by omega)

/-- copy(dst, src): the limbs of src. -/
theorem copy_limbs {W : World} {b n c bx ox c' : Nat} {zs xs : List Int} {sT : TypeId} (h : Limbs W (some ⟨b, 0, none⟩) n c zs) (hf : ∀ o, W.frozen? ⟨b, o, none⟩ = false) (h' : Limbs W (some ⟨bx, ox, none⟩) n c' xs) :
    (Builtin.copy_ #[26, sT] 3 #[.slice (some ⟨b, 0, none⟩) n c, .slice (some ⟨bx, ox, none⟩) n c']).run Tryd.prog W = .ok (.int .i64 (n : Int)) (W.setCells b 0 (xs.map (Value.int .u32)))
    ∧ Limbs (W.setCells b 0 (xs.map (Value.int .u32))) (some ⟨b, 0, none⟩) n c xs ∧ Wrote b 0 n W (W.setCells b 0 (xs.map (Value.int .u32))) := by
  have hl := h'.len
  have hd : ∀ j, j < (xs.map (Value.int .u32)).length → (W.cell? ⟨b, 0 + j, none⟩).isSome = true := by
    intro j hj
    rw [List.length_map, hl] at hj
    obtain ⟨_, _, he, hcell⟩ := h.at hj
    cases he
    rw [hcell j hj]; rfl
  have hin := World.cell?_setCells_in b (xs.map (Value.int .u32)) 0 W hd
  refine ⟨?_, ⟨hl, h.cap, h.big, h'.rng, .inr ⟨_, _, rfl, fun j hj => ?_⟩⟩, Wrote.setCells _ 0 (Wrote.refl _ _ _ _) (Nat.le_refl _) (by simp [hl])⟩
  · have := run_copy_cells (P := Tryd.prog) W 26 sT 3 61 b 0 n c ⟨bx, ox, none⟩ n c' (xs.map (Value.int .u32)) Tryd.underlying26 (by kernel_rfl) (by simp [hl]) (fun j v hj => by
      rw [List.getElem?_map] at hj
      have hjl : j < n := by
        rw [← hl]
        rcases Nat.lt_or_ge j xs.length with hc | hc
        · exact hc
        · rw [List.getElem?_eq_none hc] at hj; simp at hj
      obtain ⟨_, _, he, hcell⟩ := h'.at hjl
      cases he
      have hplain : (⟨bx, ox, none⟩ : Addr).add j = ⟨bx, ox + j, none⟩ := by unfold Addr.add; split <;> simp_all
      rw [hplain, hcell j hjl]
      rw [List.getElem?_eq_getElem (by omega)] at hj ⊢
      simpa using hj) hd (fun j _ => hf _) (ints_oneCell _ _)
    rw [this]
    simp [goInt, hl]
  · have hj' : j < (xs.map (Value.int .u32)).length := by rw [List.length_map, hl]; exact hj
    rw [hin j hj', List.getElem_map, List.getElem?_eq_getElem (by omega)]
    rfl

/-- The numbers at a round's head of the printing. -/
def PInv (w : World) (N : Nat) (V : Int) (g : Nat) (vp vr : Value) (wr : World) : Prop :=
  ∃ (pos k cap : Nat) (rs bs : List Int), vp = .int .i64 (pos : Int) ∧ vr = .slice (some ⟨w.heap.size + 1, 0, none⟩) k cap ∧ Limbs wr (some ⟨w.heap.size + 1, 0, none⟩) k cap rs ∧ nl rs k = k ∧ Bytes wr w.heap.size (N * 10 + 9) bs ∧ pos ≤ N * 10 + 9 ∧ Dig (bs.drop pos) ∧
    V = pv rs k * Tp (N * 10 + 9 - pos) + dval (bs.drop pos) ∧ g = (pv rs k).toNat ∧ (∀ o, wr.frozen? ⟨w.heap.size + 1, o, none⟩ = false) ∧ Below w.heap.size w wr

/-- The numbers at a digit's head. -/
def DInv (w w4 : World) (N : Nat) (V R : Int) (pos g : Nat) (vp vc vk : Value) (wq : World) : Prop :=
  ∃ (j p : Nat) (ch : Int) (bs : List Int), j ≤ 9 ∧ g = 9 - j ∧ vk = .int .i64 (j : Int) ∧ vp = .int .i64 (p : Int) ∧ vc = .int .u32 ch ∧ p + j = pos ∧ 0 ≤ ch ∧ ch < Tp (9 - j) ∧ Bytes wq w.heap.size (N * 10 + 9) bs ∧ Wrote w.heap.size 0 (N * 10 + 9) w4 wq ∧ Dig (bs.drop p) ∧
    V = (R * Tp (9 - j) + ch) * Tp (N * 10 + 9 - pos + j) + dval (bs.drop p)

theorem pv_ge_one {rs : List Int} (h : Rng rs) {k : Nat} (hk : nl rs k = k) (h0 : 0 < k) : 1 ≤ pv rs k := by
  obtain ⟨m, rfl⟩ : ∃ m, k = m + 1 := ⟨k - 1, by omega⟩
  have := pv_top h (nl_last hk)
  have := Bp_pos m
  omega

theorem canon_of {l : List Int} {V : Int} (hd : Dig l) (hv : dval l = V) (hV : 0 < V) (hh : l.head? ≠ some 48) : Canon l := by
  refine ⟨?_, hd, fun h => absurd h hh⟩
  intro e
  subst e
  simp [dval] at hv
  omega

theorem drop_cons {bs : List Int} {p : Nat} (hp : p < bs.length) : bs.drop p = bs[p]?.getD 0 :: bs.drop (p + 1) := by
  rw [List.drop_eq_getElem_cons hp, List.getElem?_eq_getElem hp]; rfl

theorem conv_bytes {w : World} {b L p : Nat} {bs : List Int} (h : Bytes w b L bs) (hp : p ≤ L) (cap : Nat) : (convert 76 9 (.slice (some ⟨b, p, none⟩) (L - p) cap)).run Tryd.prog w = .ok (.string (strOfNums (bs.drop p))) w :=
  run_convert_bytes_arg w 76 5 Tryd.underlying76 Tryd.underlying5 b p (L - p) cap (bs.drop p) (by rw [List.length_drop, h.len]) (fun i hi => by
    rw [h.cell _ (by omega)]
    simp [List.getD, List.getElem?_drop]) 9 Tryd.underlying9

set_option maxRecDepth 20000 in
set_option maxHeartbeats 2000000 in
theorem natString_any {a : Option Addr} {n c : Nat} {xs : List Int} {w : World} (h : Limbs w a n c xs) (hn : n ≤ 100000) :
    Calls Tryd.prog 30 #[.slice a n c] w fun e w' => (∃ l, e = .returned (.string (strOfNums l)) ∧ Canon l ∧ dval l = pv xs n ∧ l.length ≤ n * 10 + 9) ∧ Below w.heap.size w w' := by
  have hb := h.big
  have hc := h.cap
  have hnl := nl_le xs n
  have hU := h.norm
  have HX : Hid (xs.length = n) := h.len
  by_cases h0 : nl xs n = 0
  · have H0 : Hid (nl xs n = 0) := h0
    have hd : (((nl xs n : Nat) : Int) == 0) = true := by simp [h0]
    clear h0
    go_enter Tryd.func30, Tryd.ntmps30
    go_wp2_with (go_at_call 32; refine (norm_any h).mono ?_; rintro e w ⟨rfl, rfl⟩)
    go_ret
    refine ⟨⟨[48], rfl, ⟨by simp, fun c hc => by simp at hc; omega, fun _ => rfl⟩, ?_, by simp⟩, Below.refl _ _⟩
    rw [← pv_nl, H0.out]; rfl
  · have hd : (((nl xs n : Nat) : Int) == 0) = false := by simp [h0]
    obtain ⟨b1, o1, rfl, hc1⟩ := hU.at (k := 0) (by omega)
    have hmk1 := make_bytes (nl xs n) (by omega)
    have hmk2 := make_nat0 (nl xs n) (by omega)
    have hM := made_limbs (w.alloc (.cells (madeCells #[.int .u8 0] (nl xs n * 10 + 9)) 5)) (nl xs n) (by omega)
    have hBy := made_bytes w (nl xs n * 10 + 9)
    have hB0 := two_alloc w (.cells (madeCells #[.int .u8 0] (nl xs n * 10 + 9)) 5) (.cells (madeCells #[.int .u32 0] (nl xs n)) 61)
    obtain ⟨hcp, hRs, hWc⟩ := copy_limbs (sT := 26) hM (fun o => made_free _ _ _) (hU.below hB0)
    have hsz : (w.alloc (.cells (madeCells #[.int .u8 0] (nl xs n * 10 + 9)) 5)).heap.size = w.heap.size + 1 := by simp
    rw [hsz] at hcp hRs hWc
    have hBy2 := (hBy.below (one_alloc _ (.cells (madeCells #[.int .u32 0] (nl xs n)) 61)) (by simp)).far hWc (by omega)
    have hB2 := hB0.trans (hWc.below (B := w.heap.size) (by omega))
    have hf2 : ∀ o, (((w.alloc (.cells (madeCells #[.int .u8 0] (nl xs n * 10 + 9)) 5)).alloc (.cells (madeCells #[.int .u32 0] (nl xs n)) 61)).setCells (w.heap.size + 1) 0 ((norm xs).map (Value.int .u32))).frozen? ⟨w.heap.size + 1, o, none⟩ = false := fun o => by
      rw [hWc.frz]
      have := made_free (w.alloc (.cells (madeCells #[.int .u8 0] (nl xs n * 10 + 9)) 5)) (nl xs n) o
      rwa [hsz] at this
    have hz2 : (((w.alloc (.cells (madeCells #[.int .u8 0] (nl xs n * 10 + 9)) 5)).alloc (.cells (madeCells #[.int .u32 0] (nl xs n)) 61)).setCells (w.heap.size + 1) 0 ((norm xs).map (Value.int .u32))).heap.size = w.heap.size + 2 := by rw [hWc.size]; simp
    have HNN : Hid (nl (norm xs) (nl xs n) = nl xs n) := nl_norm HX.out
    have HPV : Hid (pv (norm xs) (nl xs n) = pv xs n) := pv_norm HX.out
    have htop := nl_normed HX.out (show 0 < nl xs n by omega)
    clear hsz hM hBy hB0 hWc hc1
    go_enter Tryd.func30, Tryd.ntmps30
    go_wp2_with (go_at_call 32; refine (norm_any h).mono ?_; rintro e w ⟨rfl, rfl⟩)
    generalize ((w.alloc (.cells (madeCells #[.int .u8 0] (nl xs n * 10 + 9)) 5)).alloc (.cells (madeCells #[.int .u32 0] (nl xs n)) 61)).setCells (w.heap.size + 1) 0 ((norm xs).map (Value.int .u32)) = W at *
    have hV0 : 0 ≤ pv xs n ∧ pv xs n < Bp (nl xs n) := by
      have := pv_bound h.rng (nl xs n)
      rwa [pv_nl] at this
    have hV1 : 1 ≤ pv xs n := by
      have := pv_ge_one hU.rng HNN.out (by omega)
      rwa [HPV.out] at this
    generalize hNN : nl xs n = N at *
    generalize hVV : pv xs n = V at *
    have HVV : Hid (pv xs n = V) := hVV
    clear hVV
    clear hmk1 hmk2 hcp h hU htop hz2 hNN
    go_loopg [4, 5] ((pv (norm xs) N).toNat) (fun g vp vr wr => PInv w N V g vp vr wr)
    case atStart =>
      refine ⟨N * 10 + 9, N, N, norm xs, _, by go_num, rfl, hRs, HNN.out, hBy2, Nat.le_refl _, ?_, ?_, rfl, hf2, hB2⟩
      · rw [List.drop_of_length_le (by simp)]; intro c hc; cases hc
      · rw [List.drop_of_length_le (by simp), Nat.sub_self, HPV.out]; simp [Tp, dval]
    case round =>
      obtain ⟨pos, k, cap, rs, bs, rfl, rfl, hR, hnz, hBs, hpos, hdig, hval, rfl, hfr, hB⟩ := hrel
      have HNZ : Hid (nl rs k = k) := hnz
      have HVL : Hid (V = pv rs k * Tp (N * 10 + 9 - pos) + dval (bs.drop pos)) := hval
      have HDG : Hid (Dig (bs.drop pos)) := hdig
      have HBL : Hid (bs.length = N * 10 + 9) := hBs.len
      have hcapb := hR.big
      have hcapk := hR.cap
      clear hnz hval hdig hRs hBy2 hf2 hB2
      by_cases hk0 : k = 0
      · subst hk0
        have HVD : Hid (dval (bs.drop pos) = V) := by
          show _ = _
          rw [HVL.out]; simp [pv]
        have hposL : pos < N * 10 + 9 := by
          by_cases hc : pos < N * 10 + 9
          · exact hc
          · have := HVD.out
            rw [List.drop_of_length_le (by rw [HBL.out]; omega)] at this
            simp [dval] at this
            omega
        go_wp2
        go_loop [4] (fun vp => ∃ p : Nat, vp = .int .i64 (p : Int) ∧ p < N * 10 + 9 ∧ Dig (bs.drop p) ∧ dval (bs.drop p) = V) (fun vp => N * 10 + 9 - (intOf vp).toNat)
        case atStart => exact ⟨pos, rfl, hposL, HDG.out, HVD.out⟩
        case round =>
          obtain ⟨p, rfl, hp, hdg, hvd⟩ := hrel
          have HD3 : Hid (Dig (bs.drop p)) := hdg
          have HV3 : Hid (dval (bs.drop p) = V) := hvd
          have cp := hBs.cell p hp
          have hcv := conv_bytes hBs (p := p) (by omega) (N * 10 + 9 - p)
          have hdc := drop_cons (show p < bs.length by rw [HBL.out]; exact hp)
          have HDC : Hid (bs.drop p = bs[p]?.getD 0 :: bs.drop (p + 1)) := hdc
          clear hdg hvd hdc
          by_cases hz : bs[p]?.getD 0 = 48
          · have HZ : Hid (bs[p]?.getD 0 = 48) := hz
            have hv' : dval (bs.drop (p + 1)) = V := by
              have := HV3.out
              rw [HDC.out, hz] at this
              simpa [dval] using this
            have HV4 : Hid (dval (bs.drop (p + 1)) = V) := hv'
            clear hv'
            go_wp2
            go_round
            case rel =>
              refine ⟨p + 1, by go_num, ?_, ?_, HV4.out⟩
              · by_cases hc : p + 1 < N * 10 + 9
                · exact hc
                · have := HV4.out
                  rw [List.drop_of_length_le (by rw [HBL.out]; omega)] at this
                  simp [dval] at this
                  omega
              · have := HD3.out
                rw [HDC.out] at this
                exact this.tail
            case measure => simp [intOf]; omega
          · go_wp2
            go_ret
            refine ⟨⟨_, rfl, canon_of HD3.out HV3.out (by omega) ?_, HV3.out.trans HVV.out.symm, by rw [List.length_drop, HBL.out]; omega⟩, hB⟩
            rw [HDC.out]
            simpa using hz
      · have hR1 := pv_ge_one hR.rng HNZ.out (by omega)
        have hroom : N * 10 + 9 - pos < 10 * N := room_left (R := pv rs k) (V := V) (by have := (dval_bound HDG.out).1; have := HVL.out; omega) hR1 hV0.2
        have hp9 : 9 ≤ pos := by omega
        go_wp2_with fail
        refine (divSmall_any hR hR (.inl ⟨rfl, rfl⟩) hfr (by omega) (by omega)).mono ?_
        rintro e w4 ⟨⟨us, c0, rfl, hU4, hdiv, hc0, hc1⟩, hW4⟩
        have HDV : Hid (pv us k * 1000000000 + c0 = pv rs k) := hdiv
        have HUL : Hid (us.length = k) := hU4.len
        clear hdiv
        have hB4 := hBs.far hW4 (by omega)
        go_wp2_with (go_at_call 32; refine (norm_any hU4).mono ?_; rintro e w4 ⟨rfl, rfl⟩)
        go_loopg [4, 6, 7] 9 (fun g vp vc vk wq => DInv w w4 N V (pv us k) pos g vp vc vk wq)
        case atStart =>
          refine ⟨0, pos, c0, bs, by omega, rfl, rfl, rfl, rfl, by omega, hc0, by simpa [Tp] using hc1, hB4, Wrote.refl _ _ _ _, HDG.out, ?_⟩
          rw [Nat.add_zero, HVL.out, ← HDV.out]
          simp [Tp]
        case round =>
          obtain ⟨j, p, ch, bs', hj, rfl, rfl, rfl, rfl, hpj, hch0, hch1, hBq, hWq, hdg, hvl⟩ := hrel
          have HPJ : Hid (p + j = pos) := hpj
          have HD2 : Hid (Dig (bs'.drop p)) := hdg
          have HV2 : Hid (V = (pv us k * Tp (9 - j) + ch) * Tp (N * 10 + 9 - pos + j) + dval (bs'.drop p)) := hvl
          have HL2 : Hid (bs'.length = N * 10 + 9) := hBq.len
          have hT9 : ch < 1000000000 := by
            have := Tp_mono (i := 9 - j) (j := 9) (by omega)
            have e : Tp 9 = 1000000000 := by decide
            omega
          have HCH : Hid (ch < Tp (9 - j)) := hch1
          clear hpj hdg hvl hch1
          by_cases hj9 : j < 9
          · obtain ⟨q, rfl⟩ : ∃ q, p = q + 1 := ⟨p - 1, by have := HPJ.out; omega⟩
            have hq : q < N * 10 + 9 := by have := HPJ.out; omega
            have cq := hBq.cell q hq
            have fq := hBq.free q
            go_wp2
            go_roundg (9 - (j + 1))
            case measure => omega
            case rel =>
              refine ⟨j + 1, q, ch / 10, bs'.set q (48 + ch % 10), by omega, by omega, by go_num, by go_num, by go_num, by have := HPJ.out; omega, by omega, ?_, ?_, hWq.setCell (Nat.zero_le _) hq _, ?_, ?_⟩
              · have := HCH.out
                rw [show 9 - j = (9 - (j + 1)) + 1 by omega] at this
                simp only [Tp] at this
                omega
              · exact hBq.set hq _
              · rw [drop_set_self (by rw [HL2.out]; exact hq)]
                intro x hx
                rcases List.mem_cons.1 hx with rfl | hx
                · omega
                · exact HD2.out x hx
              · rw [drop_set_self (by rw [HL2.out]; exact hq)]
                have hlen : (bs'.drop (q + 1)).length = N * 10 + 9 - pos + j := by rw [List.length_drop, HL2.out]; have := HPJ.out; omega
                simp only [dval]
                rw [hlen]
                exact print_step hj9 HV2.out
          · have hj' : j = 9 := by omega
            subst hj'
            have hch : ch = 0 := by have := HCH.out; simp [Tp] at this; omega
            have HC0 : Hid (ch = 0) := hch
            have hnl4 := nl_le us k
            clear hch
            go_wp2
            go_roundg (pv (norm us) (nl us k)).toNat
            case measure =>
              rw [pv_norm HUL.out]
              have := HDV.out
              have := (pv_bound hU4.rng k).1
              omega
            case rel =>
              refine ⟨p, _, _, norm us, bs', rfl, rfl, ?_, nl_norm HUL.out, hBq, by have := HPJ.out; omega, HD2.out, ?_, rfl, fun o => ?_, ?_⟩
              · exact hU4.norm.far hWq (fun x hx => by cases hx; simp)
              · rw [pv_norm HUL.out]
                have h2 := HV2.out
                rw [HC0.out] at h2
                simp only [Nat.sub_self, Tp, Int.mul_one, Int.add_zero] at h2
                rw [show N * 10 + 9 - p = N * 10 + 9 - pos + 9 by have := HPJ.out; omega]
                exact h2
              · exact (hWq.frz _).trans ((hW4.frz _).trans (hfr o))
              · exact (hB.trans (hW4.below (by omega))).trans (hWq.below (Nat.le_refl _))
end Go.Proofs.Qxb6500872aDoor
