import Derived.Test.Qxb6500872aDoorWl
set_option linter.unusedVariables false
namespace Go.Proofs.Qxb6500872aDoor
open Go.RowKit

/-- A text's bytes, as numbers. -/
def tx (s : ByteArray) : List Int := s.data.toList.map fun c => (c.toNat : Int)
theorem tx_len (s : ByteArray) : (tx s).length = s.size := by rw [tx, List.length_map, Array.length_toList]; rfl
theorem tx_get (s : ByteArray) {k : Nat} (hk : k < s.size) : (tx s)[k]?.getD 0 = (s[k].toNat : Int) := by
  have hk' : k < s.data.toList.length := by rw [Array.length_toList]; exact hk
  rw [tx, List.getElem?_map, List.getElem?_eq_getElem hk']
  rfl
theorem tx_strOf {l : List Int} (h : ∀ c ∈ l, 0 ≤ c ∧ c < 256) : tx (strOfNums l) = l := by
  simp only [tx, strOfNums_data, List.map_map]
  conv => rhs; rw [← List.map_id l]
  refine List.map_congr_left fun c hc => ?_
  have := h c hc
  simp
  omega
theorem Dig.byte {l : List Int} (h : Dig l) : ∀ c ∈ l, 0 ≤ c ∧ c < 256 := fun c hc => by have := h c hc; omega
theorem tx_inj {s t : ByteArray} (h : tx s = tx t) : s = t := by
  have h1 : s.data.toList = t.data.toList := by
    have hinj : ∀ (a b : List UInt8), (a.map fun c => (c.toNat : Int)) = (b.map fun c => (c.toNat : Int)) → a = b := by
      intro a
      induction a with
      | nil => intro b hb; cases b with
        | nil => rfl
        | cons y b => simp at hb
      | cons x a ih =>
        intro b hb
        cases b with
        | nil => simp at hb
        | cons y b =>
          simp only [List.map_cons, List.cons.injEq] at hb
          have hxy : x = y := UInt8.toNat_inj.1 (by omega)
          rw [hxy, ih b hb.2]
    exact hinj _ _ h
  have h2 : s.data = t.data := Array.toList_inj.1 h1
  cases s; cases t; simpa using h2
theorem tx_extract (s : ByteArray) (k : Nat) : tx (s.extract k s.size) = (tx s).drop k := by
  have e : (s.extract k s.size).data.toList = s.data.toList.drop k := by
    have h1 := ByteArray.extract_mk s.data.toList k s.size
    have h2 : (ByteArray.mk s.data.toList.toArray) = s := by cases s; simp
    rw [h2] at h1
    rw [h1]
    have h3 : s.size = s.data.toList.length := by rw [Array.length_toList]; rfl
    show (List.take (s.size - k) (List.drop k s.data.toList)).toArray.toList = _
    rw [List.toList_toArray, List.take_of_length_le (by rw [List.length_drop, h3]; omega)]
  rw [tx, e, List.map_drop]; rfl
theorem strOf_cons (c : Int) (l : List Int) : (⟨#[UInt8.ofNat c.toNat]⟩ : ByteArray) ++ strOfNums l = strOfNums (c :: l) := by
  have := ByteArray.mk_append_mk [UInt8.ofNat c.toNat] (l.map fun n => UInt8.ofNat n.toNat)
  simpa [strOfNums] using this

set_option maxHeartbeats 1000000 in
theorem istring_any {m : Bool} {a : Option Addr} {n c : Nat} {xs : List Int} {w : World} (h : Limbs w a n c xs) (hn : n ≤ 100000) :
    Calls Tryd.prog 7 #[.agg #[.bool m, .slice a n c]] w fun e w' => (∃ l, e = .returned (.string (strOfNums (if sgn m xs < 0 then 45 :: l else l))) ∧ Canon l ∧ dval l = pv xs n ∧ l.length ≤ n * 10 + 9) ∧ Below w.heap.size w w' := by
  have hB0 := one_alloc w (.cells #[.bool m, .slice a n c] 28)
  have H := h.below hB0
  by_cases hs : sgn m xs < 0
  · simp only [if_pos hs]
    go_enter Tryd.func7, Tryd.ntmps7
    go_wp2_with (go_at_call 29; refine (sign_any H).mono ?_; rintro e w1 ⟨rfl, hb1⟩; obtain ⟨c0, c1, _, _⟩ := kept2 hb1 (b := w.heap.size) (v0 := .bool m) (v1 := .slice a n c) (by simp) (by simp) (by simp) (by simp))
    refine (natString_any (H.below hb1) hn).mono ?_
    rintro e w2 ⟨⟨l, rfl, hcan, hdv, hll⟩, hb2⟩
    have HDV : Hid (dval l = pv xs n) := hdv
    have hsz := strOfNums_size l
    have hle : (strOfNums l).size ≤ 1000009 := by omega
    clear hdv hsz
    go_wp2
    go_ret
    exact ⟨⟨l, by rw [← strOf_cons]; rfl, hcan, HDV.out, hll⟩, chain hB0 (chain hb1 hb2)⟩
  · simp only [if_neg hs]
    go_enter Tryd.func7, Tryd.ntmps7
    go_wp2_with (go_at_call 29; refine (sign_any H).mono ?_; rintro e w1 ⟨rfl, hb1⟩; obtain ⟨c0, c1, _, _⟩ := kept2 hb1 (b := w.heap.size) (v0 := .bool m) (v1 := .slice a n c) (by simp) (by simp) (by simp) (by simp))
    refine (natString_any (H.below hb1) hn).mono ?_
    rintro e w2 ⟨⟨l, rfl, hcan, hdv, hll⟩, hb2⟩
    have HDV : Hid (dval l = pv xs n) := hdv
    clear hdv
    go_wp2
    go_ret
    exact ⟨⟨l, rfl, hcan, HDV.out, hll⟩, chain hB0 (chain hb1 hb2)⟩
theorem dig_take_succ {l : List Int} {k : Nat} (hk : k < l.length) (h : Dig (l.take k)) (hc : 48 ≤ l[k]?.getD 0 ∧ l[k]?.getD 0 ≤ 57) : Dig (l.take (k + 1)) := by
  intro c hcm
  rw [List.take_succ_eq_append_getElem hk] at hcm
  rcases List.mem_append.1 hcm with h1 | h1
  · exact h c h1
  · rw [List.getElem?_eq_getElem hk] at hc
    simp at h1 hc
    subst h1
    exact hc
theorem not_dig {l : List Int} {k : Nat} (hk : k < l.length) (hc : l[k]?.getD 0 < 48 ∨ 57 < l[k]?.getD 0) : ¬ Dig l := by
  intro h
  have := h l[k] (List.getElem_mem hk)
  rw [List.getElem?_eq_getElem hk] at hc
  simp at hc
  omega

/-- What ParseNat hands back. -/
def PNRet (l : List Int) (E : Value) (e : Ending) (w' : World) : Prop :=
  (l ≠ [] ∧ Dig l ∧ ∃ p k zs, e = .returned (.tuple #[.slice p k k, .nilIface]) ∧ Limbs w' p k k zs ∧ nl zs k = k ∧ pv zs k = dval l ∧ k ≤ l.length / 9 + 1) ∨
  (¬ (l ≠ [] ∧ Dig l) ∧ e = .returned (.tuple #[.slice none 0 0, E]))

theorem make_cap (n : Nat) (h1 : n ≤ 2000000) (W : World) : (Instr.makeSlice 26 (.int .i64 0) (.int .i64 ((n : Int) / 9 + 1))).run Tryd.prog W
    = .ok (.slice (some ⟨W.heap.size, 0, none⟩) 0 (n / 9 + 1)) (W.alloc (.cells (madeCells #[.int .u32 0] (n / 9 + 1)) 61)) := by
  obtain ⟨i, hi, hz0, hz1, hz2⟩ := info_parts Tryd.info61
  have := run_make (P := Tryd.prog) W 26 61 i (.int .u32 0) Tryd.underlying26 hi hz0 .i64 .i64 0 ((n : Int) / 9 + 1) (by omega) (by omega) (by rw [hz2]; omega) (by omega)
  rw [hz1, Nat.mul_one, show ((n : Int) / 9 + 1).toNat = n / 9 + 1 by omega] at this
  exact this

/-- The numbers at a chunk's head. -/
def ZInv (w : World) (S : Nat) (V : Int) (g : Nat) (vs vz : Value) (wr : World) : Prop :=
  ∃ (t : ByteArray) (k : Nat) (zs : List Int), vs = .string t ∧ vz = .slice (some ⟨w.heap.size, 0, none⟩) k (S / 9 + 1) ∧ g = t.size ∧ Limbs wr (some ⟨w.heap.size, 0, none⟩) k (S / 9 + 1) zs ∧ Dig (tx t) ∧
    pv zs k * Tp t.size + dval (tx t) = V ∧ k + (t.size + 8) / 9 ≤ S / 9 + 1 ∧ (∀ j, k ≤ j → j < S / 9 + 1 → ∃ x, wr.cell? ⟨w.heap.size, j, none⟩ = some x) ∧ (∀ o, wr.frozen? ⟨w.heap.size, o, none⟩ = false) ∧ Below w.heap.size w wr

set_option maxRecDepth 20000 in
set_option maxHeartbeats 2000000 in
theorem parseNat_any {s : ByteArray} {w : World} {E : Value} (hs : s.size ≤ 2000000) (hE : w.cell? ⟨1, 0, none⟩ = some E) :
    Calls Tryd.prog 27 #[.string s] w fun e w' => PNRet (tx s) E e w' ∧ Below w.heap.size w w' := by
  have HL : Hid ((tx s).length = s.size) := tx_len s
  by_cases h0 : s.size = 0
  · have hd : ((s.size : Int) == 0) = true := by simp [h0]
    have H0 : Hid (s.size = 0) := h0
    clear h0
    go_enter Tryd.func27, Tryd.ntmps27
    go_wp2
    go_quiet (fail)
    go_wp2
    go_ret2
    refine ⟨.inr ⟨fun hc => hc.1 ?_, rfl⟩, below_drewN (Below.refl _ _) _⟩
    exact List.length_eq_zero_iff.1 (by rw [HL.out, H0.out])
  · have hd : ((s.size : Int) == 0) = false := by simp [h0]
    go_enter Tryd.func27, Tryd.ntmps27
    go_wp2
    go_loop [4] (fun i => ∃ k : Nat, k ≤ s.size ∧ i = .int .i64 (k : Int) ∧ Dig ((tx s).take k)) (fun i => s.size - (intOf i).toNat)
    case atStart => exact ⟨0, Nat.zero_le _, rfl, by intro c hc; simp at hc⟩
    case round =>
      obtain ⟨k, hk, rfl, hdg⟩ := hrel
      have HDG : Hid (Dig ((tx s).take k)) := hdg
      clear hdg
      by_cases hlt : k < s.size
      · have hg := tx_get s hlt
        have HG : Hid ((tx s)[k]?.getD 0 = (s[k].toNat : Int)) := hg
        clear hg
        by_cases hlo : (s[k].toNat : Int) < 48
        · go_wp2
          go_quiet (fail)
          go_wp2
          go_ret2
          exact ⟨.inr ⟨fun hc => not_dig (by rw [HL.out]; exact hlt) (.inl (by rw [HG.out]; exact hlo)) hc.2, rfl⟩, below_drewN (Below.refl _ _) _⟩
        · by_cases hhi : 57 < (s[k].toNat : Int)
          · go_wp2
            go_quiet (fail)
            go_wp2
            go_ret2
            exact ⟨.inr ⟨fun hc => not_dig (by rw [HL.out]; exact hlt) (.inr (by rw [HG.out]; exact hhi)) hc.2, rfl⟩, below_drewN (Below.refl _ _) _⟩
          · go_wp2
            go_round
            case rel => exact ⟨k + 1, by omega, by go_num, dig_take_succ (by rw [HL.out]; exact hlt) HDG.out (by rw [HG.out]; omega)⟩
            case measure => simp [intOf]; omega
      · have HDA : Hid (Dig (tx s)) := by
          have := HDG.out
          rwa [List.take_of_length_le (by rw [HL.out]; omega)] at this
        have hmk := make_cap s.size hs
        go_wp2
        clear hmk HDG
        go_loopg [0, 5] s.size (fun g vs vz wr => ZInv w s.size (dval (tx s)) g vs vz wr)
        case atStart =>
          have hM := made_limbs w (s.size / 9 + 1) (by omega)
          refine ⟨s, 0, [], rfl, rfl, rfl, ⟨rfl, Nat.zero_le _, by omega, fun j => by simp, .inl rfl⟩, HDA.out, by simp [pv], by omega, fun j h1 h2 => ?_, fun o => made_free _ _ _, one_alloc _ _⟩
          exact ⟨_, hM.cell0 h2⟩
        case round =>
          obtain ⟨t, k, zs, rfl, rfl, rfl, hZ, hdg, hval, hcp, hroom, hfr, hB⟩ := hrel
          have HT : Hid ((tx t).length = t.size) := tx_len t
          have HDT : Hid (Dig (tx t)) := hdg
          have HVT : Hid (pv zs k * Tp t.size + dval (tx t) = dval (tx s)) := hval
          have hkb := hZ.cap
          have hts : t.size ≤ 9000000 := by omega
          clear hdg hval
          by_cases ht0 : t.size = 0
          · have HT0 : Hid (t.size = 0) := ht0
            have htd : ¬ (0 : Int) < (t.size : Int) := by omega
            clear ht0
            have HZL : Hid (zs.length = k) := hZ.len
            go_wp2_with (go_at_call 32; refine (norm_any hZ).mono ?_; rintro e wq ⟨rfl, hwq⟩; subst hwq)
            have hnl := nl_le zs k
            go_ret2
            refine ⟨.inl ⟨fun e => h0 (by rw [← HL.out, e]; rfl), HDA.out, _, _, _, rfl, hZ.norm, nl_norm HZL.out, ?_, by rw [HL.out]; omega⟩, hB⟩
            have hv := HVT.out
            have hnil : tx t = [] := List.length_eq_zero_iff.1 (by rw [HT.out, HT0.out])
            rw [HT0.out, hnil] at hv
            rw [pv_norm HZL.out]
            simpa [Tp, dval] using hv
          · go_upto_if 43 with fail
            go_cut [6] (fun s6 wc => wc = wr ∧ ∃ n : Nat, s6 = .int .i64 (n : Int) ∧ 1 ≤ n ∧ n ≤ 9 ∧ n ≤ t.size ∧ (t.size - n + 8) / 9 + 1 = (t.size + 8) / 9)
            case first =>
              by_cases hm : t.size % 9 = 0
              · have hmd : ((t.size : Int) % 9 == 0) = true := by simp; omega
                go_wp2
                go_meet
                case rel => exact ⟨rfl, 9, rfl, by omega, by omega, by omega, by omega⟩
              · have hmd : ((t.size : Int) % 9 == 0) = false := by simp; omega
                go_wp2
                go_meet
                case rel => exact ⟨rfl, t.size % 9, by go_num, by omega, by omega, by omega, by omega⟩
            case rest =>
              obtain ⟨rfl, n, rfl, hn1, hn9, hnt, hstep⟩ := hcut
              have HST : Hid ((t.size - n + 8) / 9 + 1 = (t.size + 8) / 9) := hstep
              clear hstep
              go_wp2
              go_loop [7, 8, 9] (fun vc vs vi => ∃ (j : Nat) (ch sc : Int), j ≤ n ∧ vi = .int .i64 (j : Int) ∧ vc = .int .u32 ch ∧ vs = .int .u32 sc ∧ ch = dval ((tx t).take j) ∧ sc = Tp j) (fun _ _ vi => n - (intOf vi).toNat)
              case atStart => exact ⟨0, 0, 1, Nat.zero_le _, rfl, rfl, rfl, by simp [dval], rfl⟩
              case round =>
                obtain ⟨j, ch, sc, hj, rfl, rfl, rfl, hch, hsc⟩ := hrel
                have HCH : Hid (ch = dval ((tx t).take j)) := hch
                have HSC : Hid (sc = Tp j) := hsc
                have hjl : ((tx t).take j).length = j := by rw [List.length_take, HT.out]; omega
                have hcb := dval_bound (l := (tx t).take j) (fun c hc => HDT.out c (List.mem_of_mem_take hc))
                rw [hjl, ← hch, ← hsc] at hcb
                have hs1 : 0 < sc := by rw [hsc]; exact Tp_pos j
                have hs9 : sc ≤ 1000000000 := by
                  rw [hsc]
                  have := Tp_mono (i := j) (j := 9) (by omega)
                  have e : Tp 9 = 1000000000 := by decide
                  omega
                clear hch hsc hjl
                by_cases hlt : j < n
                · have hs8 : sc ≤ 100000000 := by
                    rw [HSC.out]
                    have := Tp_mono (i := j) (j := 8) (by omega)
                    have e : Tp 8 = 100000000 := by decide
                    omega
                  have hjt : j < t.size := by omega
                  have hg := tx_get t hjt
                  have HG : Hid ((tx t)[j]?.getD 0 = (t[j].toNat : Int)) := hg
                  have hdj : 48 ≤ (t[j].toNat : Int) ∧ (t[j].toNat : Int) ≤ 57 := by
                    have hjl : j < (tx t).length := by rw [HT.out]; exact hjt
                    have := HDT.out (tx t)[j] (List.getElem_mem hjl)
                    rw [List.getElem?_eq_getElem hjl] at hg
                    simp at hg
                    rwa [hg] at this
                  clear hg
                  go_wp2
                  go_round
                  case rel =>
                    refine ⟨j + 1, _, _, by omega, by go_num, rfl, rfl, ?_, ?_⟩
                    · have hjl : j < (tx t).length := by rw [HT.out]; exact hjt
                      rw [List.take_succ_eq_append_getElem hjl, dval_append, ← HCH.out]
                      have hg := HG.out
                      rw [List.getElem?_eq_getElem hjl] at hg
                      simp at hg
                      rw [hg]
                      simp [dval, Tp]
                    · rw [HSC.out]
                      simp only [Tp]
                      omega
                  case measure => simp [intOf]; omega
                · have hjn : j = n := by omega
                  subst hjn
                  go_wp2_with fail
                  refine (mulAdd_any hZ (by omega) (fun i h1 h2 => by rw [Nat.zero_add]; exact hroom i h1 h2) hfr (by omega) (by omega) hcb.1 (by omega)).mono ?_
                  rintro e w5 ⟨⟨us, k5, rfl, hU5, hk5, hpv, hroom5, hfr5⟩, hb5⟩
                  have HPV : Hid (pv us k5 = pv zs k * sc + ch) := hpv
                  clear hpv
                  go_wp2
                  go_roundg (t.extract j t.size).size
                  case measure => rw [← tx_len, tx_extract, List.length_drop, HT.out]; omega
                  case rel =>
                    have hsz : (t.extract j t.size).size = t.size - j := by rw [← tx_len, tx_extract, List.length_drop, HT.out]
                    refine ⟨t.extract j t.size, k5, us, rfl, rfl, rfl, hU5, ?_, ?_, ?_, fun i h1 h2 => by have := hroom5 i h1 h2; rwa [Nat.zero_add] at this, hfr5, hB.trans hb5⟩
                    · rw [tx_extract]; exact fun c hc => HDT.out c (List.mem_of_mem_drop hc)
                    · rw [tx_extract, hsz, HPV.out, HSC.out, HCH.out, ← HVT.out]
                      have e1 : tx t = (tx t).take j ++ (tx t).drop j := (List.take_append_drop j (tx t)).symm
                      have e2 : dval (tx t) = dval ((tx t).take j) * Tp ((tx t).drop j).length + dval ((tx t).drop j) := by
                        conv => lhs; rw [e1]
                        exact dval_append _ _
                      rw [e2, List.length_drop, HT.out]
                      have e3 : Tp t.size = Tp j * Tp (t.size - j) := by rw [← Tp_add]; congr 1; omega
                      rw [e3]
                      generalize dval ((tx t).take j) = D1
                      generalize dval ((tx t).drop j) = D2
                      grind
                    · rw [hsz]; have := HST.out; omega
end Go.Proofs.Qxb6500872aDoor
