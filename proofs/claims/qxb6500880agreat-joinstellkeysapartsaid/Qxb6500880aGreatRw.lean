import Derived.Test.Qxb6500880aGreatLh
import Derived.Test.Qxb6500880aGreatRows
import Derived.WalkKit
import Derived.ProofKit
import Derived.OpenShut
import Derived.ShutString
import Derived.Deep.Slices
import Derived.Carry
set_option linter.unusedVariables false
set_option linter.unusedSimpArgs false
namespace Go.Proofs.Qxb6500880aGreat
open Go.ChangeShapes Go.WideShapes Go.ChangeAt Go.RowKit Go.Deep

theorem Tryz.own : ownKnob Tryz.prog.godebug = none := by kernel_rfl
theorem Tryz.laidOut : laidOutB Tryz.prog = true := by kernel_rfl
theorem Tryz.cells22 : Tryz.prog.cellsOf 22 = 1 := by kernel_rfl
theorem Tryz.cells38 : Tryz.prog.cellsOf 38 = 9 := by kernel_rfl
theorem Tryz.cells29 : Tryz.prog.cellsOf 29 = 1 := by kernel_rfl
theorem Tryz.cells9 : Tryz.prog.cellsOf 9 = 1 := by kernel_rfl
theorem Tryz.cells30 : Tryz.prog.cellsOf 30 = 1 := by kernel_rfl
theorem Tryz.cells31 : Tryz.prog.cellsOf 31 = 1 := by kernel_rfl
theorem Tryz.cells36 : Tryz.prog.cellsOf 36 = 4 := by kernel_rfl
theorem Tryz.cells28 : Tryz.prog.cellsOf 28 = 1 := by kernel_rfl
theorem Tryz.cells26 : Tryz.prog.cellsOf 26 = 4 := by kernel_rfl
theorem Tryz.cells32 : Tryz.prog.cellsOf 32 = 1 := by kernel_rfl
theorem Tryz.cells34 : Tryz.prog.cellsOf 34 = 2 := by kernel_rfl
theorem Tryz.cells24 : Tryz.prog.cellsOf 24 = 1 := by kernel_rfl
theorem Tryz.cells3 : Tryz.prog.cellsOf 3 = 1 := by kernel_rfl
theorem Tryz.cells2 : Tryz.prog.cellsOf 2 = 1 := by kernel_rfl
theorem Tryz.cells4 : Tryz.prog.cellsOf 4 = 1 := by kernel_rfl

section
variable {H : Type} {enc : TypeId × Value → H} {W : World}
set_option maxRecDepth 100000 in
/-- A term, opened. -/
theorem term_of_trod {fuel : Nat} {cs : List Value} {x : DataW H × List MemPlace} (h : DataW.trod enc Tryz.prog W 0 (fun _ => true) true fuel 26 cs = some x) : ∃ v0 v1 v2 s, cs = [v0, v1, v2, .string s] := by
  obtain ⟨xs, n, _, _, hl, hxl, hf⟩ := DataW.trod_struct Tryz.underlying26 h
  rw [Tryz.cells26] at hl
  match cs, hl, xs, hxl with
  | [v0, v1, v2, v3], _, [y0, y1, y2, y3], _ =>
    have g3 := hf 3 _ rfl
    simp [Tryz.cells9] at g3
    obtain ⟨s, h3, _⟩ := DataW.trod_string Tryz.underlying9 g3
    simp only [List.cons.injEq, and_true] at h3
    exact ⟨v0, v1, v2, s, by rw [h3]⟩
set_option maxRecDepth 100000 in
/-- A list of terms, opened. -/
theorem terms_of_trod {fuel : Nat} {v : Value} {x : DataW H × List MemPlace} (h : DataW.trod enc Tryz.prog W 0 (fun _ => true) true fuel 30 [v] = some x) : ∃ p n c, v = .slice p n c ∧ TrmIn W p n := by
  rcases open_slice Tryz.underlying30 h with ⟨h0, _⟩ | ⟨a, len, cap, m, f, D, Pl, h0, _, hl, hcap, hm, _, hx⟩
  · simp only [List.cons.injEq, and_true] at h0
    exact ⟨none, 0, 0, h0, by omega, .inl rfl⟩
  · simp only [List.cons.injEq, and_true] at h0
    simp only [if_true] at hm
    have hml : maxLen = 9223372036854775807 := by decide
    refine ⟨some a, len, cap, h0, by omega, ?_⟩
    by_cases hn : len = 0
    · exact .inl hn
    · right
      have each : ∀ j, j < len → ∃ v s, W.cell? (a.add (j * 4 + 0)) = some v ∧ W.cell? (a.add (j * 4 + 3)) = some (.string s) := fun j hj => by
        obtain ⟨cs', h1, h2⟩ := hx j (by omega)
        rw [Tryz.cells26] at h1
        obtain ⟨_, hlen, hcell⟩ := World.cells?_some h1
        obtain ⟨v0, v1, v2, s, e⟩ := term_of_trod h2
        have t0 := hcell 0 (by omega)
        have t3 := hcell 3 (by omega)
        rw [add_add, e] at t0 t3
        exact ⟨v0, s, t0, t3⟩
      obtain ⟨b, off, spot⟩ := a
      have hspot : spot = none := by
        obtain ⟨v, s, hs, _⟩ := each 0 (by omega)
        simpa [Addr.add] using World.cell?_spot hs
      subst hspot
      refine ⟨b, off, rfl, fun j hj => ?_⟩
      obtain ⟨v, s, _, hs⟩ := each j hj
      rw [add_plain] at hs
      exact ⟨s, by rw [Nat.add_assoc]; exact hs⟩
set_option maxRecDepth 100000 in
/-- A step of the script, opened. -/
theorem op_of_trod {fuel : Nat} {cs : List Value} {x : DataW H × List MemPlace} (h : DataW.trod enc Tryz.prog W 0 (fun _ => true) true fuel 38 cs = some x) :
    ∃ (k x3 x4 x5 x8 : Int) (s1 s6 : ByteArray) (p2 p7 : Option Addr) (n2 c2 n7 c7 : Nat), cs = [.int .u8 k, .string s1, .slice p2 n2 c2, .int .u8 x3, .int .u8 x4, .int .u8 x5, .string s6, .slice p7 n7 c7, .int .u64 x8] ∧ TrmIn W p2 n2 ∧ TrmIn W p7 n7 := by
  obtain ⟨xs, n, _, _, hl, hxl, hf⟩ := DataW.trod_struct Tryz.underlying38 h
  rw [Tryz.cells38] at hl
  match cs, hl, xs, hxl with
  | [v0, v1, v2, v3, v4, v5, v6, v7, v8], _, [y0, y1, y2, y3, y4, y5], _ =>
    have g0 := hf 0 _ rfl
    have g1 := hf 1 _ rfl
    have g2 := hf 2 _ rfl
    have g3 := hf 3 _ rfl
    have g4 := hf 4 _ rfl
    have g5 := hf 5 _ rfl
    simp [Tryz.cells29, Tryz.cells9, Tryz.cells30, Tryz.cells31, Tryz.cells36, Tryz.cells28] at g0 g1 g2 g3 g4 g5
    obtain ⟨k, h0, _, _⟩ := DataW.trod_int Tryz.underlying29 g0
    obtain ⟨s1, h1, _⟩ := DataW.trod_string Tryz.underlying9 g1
    obtain ⟨p2, n2, c2, h2, T2⟩ := terms_of_trod g2
    obtain ⟨x3, h3, _, _⟩ := DataW.trod_int Tryz.underlying31 g3
    obtain ⟨x8, h8, _, _⟩ := DataW.trod_int Tryz.underlying28 g5
    obtain ⟨xs4, n4, _, _, hl4, hxl4, hf4⟩ := DataW.trod_struct Tryz.underlying36 g4
    match xs4, hxl4 with
    | [z0, z1, z2], _ =>
      have k0 := hf4 0 _ rfl
      have k1 := hf4 1 _ rfl
      have k2 := hf4 2 _ rfl
      simp [Tryz.cells32, Tryz.cells31, Tryz.cells34] at k0 k1 k2
      obtain ⟨x4, h4, _, _⟩ := DataW.trod_int Tryz.underlying32 k0
      obtain ⟨x5, h5, _, _⟩ := DataW.trod_int Tryz.underlying31 k1
      obtain ⟨xs5, n5, _, _, hl5, hxl5, hf5⟩ := DataW.trod_struct Tryz.underlying34 k2
      match xs5, hxl5 with
      | [q0, q1], _ =>
        have m0 := hf5 0 _ rfl
        have m1 := hf5 1 _ rfl
        simp [Tryz.cells9, Tryz.cells30] at m0 m1
        obtain ⟨s6, h6, _⟩ := DataW.trod_string Tryz.underlying9 m0
        obtain ⟨p7, n7, c7, h7, T7⟩ := terms_of_trod m1
        simp only [List.cons.injEq, and_true] at h0 h1 h3 h4 h5 h6 h8
        subst h0 h1 h2 h3 h4 h5 h6 h7 h8
        exact ⟨k, x3, x4, x5, x8, s1, s6, p2, p7, n2, c2, n7, c7, rfl, T2, T7⟩
/-- The script, opened. -/
theorem scr_of_trod {fuel : Nat} {p : Option Addr} {n c : Nat} {x : DataW H × List MemPlace} (h : DataW.trod enc Tryz.prog W 0 (fun _ => true) true fuel 22 [.slice p n c] = some x) : ScrIn W p n := by
  rcases open_slice Tryz.underlying22 h with ⟨h0, _⟩ | ⟨a, len, cap, m, f, D, Pl, h0, _, hl, _, hm, _, hx⟩
  · simp only [List.cons.injEq, and_true, Value.slice.injEq] at h0
    exact .inl h0.2.1
  · simp only [List.cons.injEq, and_true, Value.slice.injEq] at h0
    obtain ⟨rfl, rfl, rfl⟩ := h0
    simp only [if_true] at hm
    by_cases hn : n = 0
    · exact .inl hn
    · right
      have each : ∀ i, i < n → ∃ cs', (∃ (k x3 x4 x5 x8 : Int) (s1 s6 : ByteArray) (p2 p7 : Option Addr) (n2 c2 n7 c7 : Nat), cs' = [.int .u8 k, .string s1, .slice p2 n2 c2, .int .u8 x3, .int .u8 x4, .int .u8 x5, .string s6, .slice p7 n7 c7, .int .u64 x8] ∧ TrmIn W p2 n2 ∧ TrmIn W p7 n7) ∧ ∀ j v, cs'[j]? = some v → W.cell? (a.add (i * 9 + j)) = some v := fun i hi => by
        obtain ⟨cs', h1, h2⟩ := hx i (by omega)
        rw [Tryz.cells38] at h1
        obtain ⟨_, hlen, hcell⟩ := World.cells?_some h1
        refine ⟨cs', op_of_trod h2, fun j v hv => ?_⟩
        have hj : j < 9 := by
          have := (List.getElem?_eq_some_iff.1 hv).1
          omega
        have := hcell j hj
        rw [add_add, hv] at this
        exact this
      obtain ⟨b, off, spot⟩ := a
      have hspot : spot = none := by
        obtain ⟨cs', ⟨k, x3, x4, x5, x8, s1, s6, p2, p7, n2, c2, n7, c7, rfl, _⟩, hc⟩ := each 0 (by omega)
        have := hc 0 _ rfl
        simpa [Addr.add] using World.cell?_spot this
      subst hspot
      refine ⟨b, off, rfl, fun i hi => ?_⟩
      obtain ⟨cs', ⟨k, x3, x4, x5, x8, s1, s6, p2, p7, n2, c2, n7, c7, rfl, T2, T7⟩, hc⟩ := each i hi
      have key : ∀ j v, [Value.int .u8 k, .string s1, .slice p2 n2 c2, .int .u8 x3, .int .u8 x4, .int .u8 x5, .string s6, .slice p7 n7 c7, .int .u64 x8][j]? = some v → W.cell? ⟨b, off + i * 9 + j, none⟩ = some v := fun j v hv => by
        have := hc j v hv
        rw [add_plain] at this
        rw [Nat.add_assoc]; exact this
      exact ⟨⟨k, key 0 _ rfl⟩, ⟨s1, key 1 _ rfl⟩, ⟨p2, n2, c2, key 2 _ rfl, T2⟩, ⟨x3, key 3 _ rfl⟩, ⟨x4, key 4 _ rfl⟩, ⟨x5, key 5 _ rfl⟩, ⟨s6, key 6 _ rfl⟩, ⟨p7, n7, c7, key 7 _ rfl, T7⟩, ⟨x8, key 8 _ rfl⟩⟩
end

set_option maxRecDepth 100000 in
theorem lifted (os : Os) (started : os.Started) (H : Type) (enc : TypeId × Value → H) :
    ReturnsInHanded {} Tryz.checked os 3 .any (Rows.joinsTellKeysApartSpec.pre6 enc Tryz.prog Tryz.f3 Rows.joinsTellKeysApartRow.domain false) (Rows.joinsTellKeysApartSpec.post enc Tryz.prog Tryz.f3 false true false false) := by
  refine returnsInHanded_of_change (C := Tryz.checked) Tryz.own started (by kernel_rfl) Tryz.func3
    (ChangeSpec.witness6 (enc := enc) (C := Tryz.checked) false ⟨#[], #[.slice none 0 0], []⟩ 8 (by kernel_rfl) (by kernel_rfl) (by kernel_rfl) (by kernel_rfl)) ?_
  intro W base args ds gs before hval0 hW hcnd _
  have hval : ∀ (j : Nat) t v, Tryz.f3.params[j]? = some t → args[j]? = some v → Value.okWide Tryz.prog W .any base t v := hval0
  have hW' := hW
  obtain ⟨p, q, hA0, hV, rfl, hfz, hnd⟩ := hW
  have hA : DataW.TrodAll enc Tryz.prog W 0 (fun _ => true) true Tryz.f3.params.toList args.toList ds p := hA0
  rw [Tryz.params3] at hA hval
  obtain ⟨v0, d0, rfl, rfl, h0⟩ := trodAll_one hA
  obtain ⟨rfl, rfl⟩ := trodVars_none hV
  obtain ⟨a0, len, cap, rfl⟩ := okWide_slice Tryz.underlying22 (hval 0 22 v0 rfl rfl)
  have h0' := h0
  obtain ⟨fuel, hf⟩ := h0'
  have hS := scr_of_trod hf
  clear hA0 hval0 hf
  refine (law3 (c := cap) hS).mono ?_
  rintro e W' ⟨rfl, hb⟩
  have hlt : ∀ x ∈ p, x.block < W.heap.size := fun x hx => by simpa using hW'.lt x (by simpa using hx)
  refine ⟨_, rfl, _, _, _, [], p, [], hW', ?_, ?_, ?_, hb.frame _, fun h => by cases h⟩
  · exact trodAll_mk1 (shut_bool Tryz.underlying4 true)
  · exact trodAll_mk1 (Below.trod Tryz.laidOut (by kernel_rfl) (of_decide_eq_true (by kernel_rfl)) h0 hb hlt)
  · rfl

theorem over : Rows.joinsTellKeysApartRow.holds Tryz.pinned (OpenSpec.ofChange Rows.joinsTellKeysApartSpec) :=
  OpenClaim.holds_of_wide 3 Tryz.f3 rfl rfl rfl rfl rfl rfl rfl ⟨rfl, rfl, rfl, rfl, rfl⟩ rfl rfl rfl rfl rfl (by kernel_rfl) Tryz.func3 (by kernel_rfl)
    (of_decide_eq_true (by kernel_rfl)) (by unfold Func.isWrapper; first | (rw [if_pos (by decide +kernel)]; kernel_rfl) | (rw [if_neg (by decide +kernel)]; exact ⟨rfl, rfl⟩))
    (fun os started H enc _ => lifted  os started H enc)

theorem joins_said : Rows.JoinsTellKeysApartSaid := over 
end Go.Proofs.Qxb6500880aGreat
