import Derived.Test.Qxb6500877aGreatDoorWa
set_option linter.unusedVariables false
set_option linter.unusedSimpArgs false
namespace Go.Proofs.Qxb6500877aGreatDoor
open Go.RowKit

/-- From a row on, back through 'prev', to the list's head. -/
def PC (s : Wheel) : Int → List Nat → Prop
  | v, [] => v = -1
  | v, x :: xs => v = x ∧ x < 64 ∧ PC s (s.nd x).pv xs
def insA (s : Wheel) (r : Option (Nat × Nat)) (i : Nat) : Wheel := (((s.nPv i (-1)).nNx i (-1)).setLh r i).setLt r i
def insB (s : Wheel) (r : Option (Nat × Nat)) (i h : Nat) : Wheel := (((s.nPv i (-1)).nNx i h).setLh r i).nPv h i
def insC (s : Wheel) (r : Option (Nat × Nat)) (i p : Nat) : Wheel := (((s.nPv i p).nNx i (-1)).nNx p i).setLt r i
def insD (s : Wheel) (i p q : Nat) : Wheel := (((s.nPv i p).nNx i q).nNx p i).nPv q i
def insF (s : Wheel) (r : Option (Nat × Nat)) (i : Nat) : List Nat → Wheel
  | [] => if s.lh r = -1 then insA s r i else insB s r i (s.lh r).toNat
  | p :: _ => if (s.nd p).nx = -1 then insC s r i p else insD s i p (s.nd p).nx.toNat

set_option maxHeartbeats 8000000 in
theorem insert_any {w : World} {B : Nat} {s : Wheel} {r : Option (Nat × Nat)} {i : Nat} {rv : List Nat} (H : WheelAt w B s) (hr : lOk r) (hi : i < 64) (hpc : PC s (s.lt r) rv) (hni : ∀ x ∈ rv, x ≠ i)
    (hhd : s.lh r = -1 ∨ ∃ h : Nat, h < 64 ∧ h ≠ i ∧ s.lh r = h) (hnx : ∀ x ∈ rv, (s.nd x).nx = -1 ∨ ∃ q : Nat, q < 64 ∧ q ≠ i ∧ (s.nd x).nx = q) :
    Calls Tryz.prog 208 #[.pointer (some ⟨B, 1, none⟩), .pointer (some ⟨B, lOff r, none⟩), .int .i16 (i : Int)] w fun e w' => e = .returned (.tuple #[]) ∧ (∃ ys xs, rv = ys ++ xs ∧ (∀ y ∈ ys, bef s i y = true) ∧ (∀ x, xs.head? = some x → bef s i x = false) ∧ WheelAt w' B (insF s r i xs)) ∧ Mut B 1 1939 w w' := by
  have hL := lOff_rng hr
  obtain ⟨l0, l1⟩ := H.list hr
  have hlt : B < w.heap.size := World.block_lt_of_cell? _ _ l0
  have HL : Hid (518 ≤ lOff r ∧ lOff r + 1 < 1928) := hL
  have i0 : (0 : Int) ≤ i := by omega
  have i1 : (i : Int) < 64 := by omega
  go_enter Tryz.func208, Tryz.ntmps208
  go_wp2
  go_loopg [6] rv.length (fun g v wr => ∃ ys xs vi, rv = ys ++ xs ∧ xs.length = g ∧ v = .int .i16 vi ∧ PC s vi xs ∧ (∀ y ∈ ys, bef s i y = true) ∧ Below w.heap.size w wr ∧ WheelAt wr B s)
  case atStart => exact ⟨[], rv, _, rfl, rfl, rfl, hpc, fun y hy => absurd hy (by simp), Below.refl _ _, H⟩
  case round =>
    obtain ⟨ys, xs, vi, hrv, hxl, rfl, hp, hy, hB, HR⟩ := hrel
    have HY : Hid (∀ y ∈ ys, bef s i y = true) := hy
    have HRV : Hid (rv = ys ++ xs) := hrv
    have HNI : Hid (∀ x ∈ rv, x ≠ i) := hni
    have HNX : Hid (∀ x ∈ rv, (s.nd x).nx = -1 ∨ ∃ q : Nat, q < 64 ∧ q ≠ i ∧ (s.nd x).nx = q) := hnx
    clear hy hrv
    match xs, hp with
    | [], hp =>
      have hv : vi = -1 := hp
      subst hv
      have hexit : ∀ ws : List Nat, ws = [] → rv = ys ++ ws := fun ws h => by rw [h]; exact HRV.out
      have HE : Hid (∀ ws : List Nat, ws = [] → rv = ys ++ ws) := hexit
      clear hexit hxl
      obtain ⟨l0, l1⟩ := HR.list hr
      obtain ⟨_, _, _, _, i4, i5, _, _⟩ := HR.node hi
      have fz := HR.frz
      have M0 : Mut B 1 1939 w wr := Mut.of_below hB hlt
      generalize hLL : lOff r = L at *
      rcases hhd with e | ⟨h, hh, hhi, e⟩
      · rw [e] at l0
        have n0 : ¬ (2 + i * 8 + 4 = 2 + i * 8 + 5) := by omega
        have n1 : ¬ (2 + i * 8 + 5 = 2 + i * 8 + 4) := by omega
        have n2 : ¬ (2 + i * 8 + 4 = L) := by omega
        have n3 : ¬ (L = 2 + i * 8 + 4) := by omega
        have n4 : ¬ (2 + i * 8 + 4 = L + 1) := by omega
        have n5 : ¬ (L + 1 = 2 + i * 8 + 4) := by omega
        have n6 : ¬ (2 + i * 8 + 5 = L) := by omega
        have n7 : ¬ (L = 2 + i * 8 + 5) := by omega
        have n8 : ¬ (2 + i * 8 + 5 = L + 1) := by omega
        have n9 : ¬ (L + 1 = 2 + i * 8 + 5) := by omega
        have n10 : ¬ (L = L + 1) := by omega
        have n11 : ¬ (L + 1 = L) := by omega
        clear HL hpc hni hnx
        go_wp2
        go_end0
        (try rw [← hLL])
        have hF : insF s r i [] = insA s r i := if_pos e
        have hLr := lOff_rng hr
        exact ⟨rfl, ⟨ys, [], HE.out [] rfl, HY.out, fun z hz => by simp at hz, by rw [hF]; exact ((((HR.putPv hi _).putNx hi _).putLh hr _).putLt hr _)⟩, ((((M0.setCell (by omega) (by omega) _).setCell (by omega) (by omega) _).setCell (by omega) (by omega) _).setCell (by omega) (by omega) _)⟩
      · rw [e] at l0
        obtain ⟨_, _, _, _, h4, _, _, _⟩ := HR.node hh
        have h0 : (0 : Int) ≤ h := by omega
        have h1 : (h : Int) < 64 := by omega
        have hhb : ((h : Int) == -1) = false := by simp <;> omega
        have n0 : ¬ (2 + i * 8 + 4 = 2 + i * 8 + 5) := by omega
        have n1 : ¬ (2 + i * 8 + 5 = 2 + i * 8 + 4) := by omega
        have n2 : ¬ (2 + i * 8 + 4 = L) := by omega
        have n3 : ¬ (L = 2 + i * 8 + 4) := by omega
        have n4 : ¬ (2 + i * 8 + 4 = L + 1) := by omega
        have n5 : ¬ (L + 1 = 2 + i * 8 + 4) := by omega
        have n6 : ¬ (2 + i * 8 + 4 = 2 + h * 8 + 4) := by omega
        have n7 : ¬ (2 + h * 8 + 4 = 2 + i * 8 + 4) := by omega
        have n8 : ¬ (2 + i * 8 + 5 = L) := by omega
        have n9 : ¬ (L = 2 + i * 8 + 5) := by omega
        have n10 : ¬ (2 + i * 8 + 5 = L + 1) := by omega
        have n11 : ¬ (L + 1 = 2 + i * 8 + 5) := by omega
        have n12 : ¬ (2 + i * 8 + 5 = 2 + h * 8 + 4) := by omega
        have n13 : ¬ (2 + h * 8 + 4 = 2 + i * 8 + 5) := by omega
        have n14 : ¬ (L = L + 1) := by omega
        have n15 : ¬ (L + 1 = L) := by omega
        have n16 : ¬ (L = 2 + h * 8 + 4) := by omega
        have n17 : ¬ (2 + h * 8 + 4 = L) := by omega
        have n18 : ¬ (2 + h * 8 + 4 = L + 1) := by omega
        have n19 : ¬ (L + 1 = 2 + h * 8 + 4) := by omega
        clear HL hpc hni hnx
        go_wp2
        go_region_held3 (fun w' => w'.cell? ⟨B, 2 + i * 8 + 5, none⟩ = some (.int .i16 (h : Int))) (go_simp) (fail)
        go_wp2
        go_end0
        (try rw [← hLL])
        have hF : insF s r i [] = insB s r i h := (if_neg (by omega)).trans (by rw [e, Int.toNat_natCast])
        have hLr := lOff_rng hr
        exact ⟨rfl, ⟨ys, [], HE.out [] rfl, HY.out, fun z hz => by simp at hz, by rw [hF]; exact ((((HR.putPv hi _).putNx hi _).putLh hr _).putPv hh _).drew⟩, ((((M0.setCell (by omega) (by omega) _).setCell (by omega) (by omega) _).setCell (by omega) (by omega) _).setCell (by omega) (by omega) _).drew⟩
    | x :: xs, hp =>
      obtain ⟨hv, hx, hp'⟩ := hp
      subst hv
      have hxi : x ≠ i := HNI.out x (by rw [HRV.out]; simp)
      have hxn := HNX.out x (by rw [HRV.out]; simp)
      have x0 : (0 : Int) ≤ x := by omega
      have x1 : (x : Int) < 64 := by omega
      have hxb : ((x : Int) != -1) = true := by simp <;> omega
      have hbe := before_any HR hi hx
      by_cases hbf : bef s i x = true
      · rw [hbf] at hbe
        have HP : Hid (PC s (s.nd x).pv xs) := hp'
        have HBF : Hid (bef s i x = true) := hbf
        clear hp' hbf hxn
        go_wp2_with fail
        refine hbe.mono ?_
        rintro e w1 ⟨rfl, hb1⟩
        have H1 : WheelAt w1 B s := HR.mut (Mut.of_below (lo := 0) (hi := 0) hb1 (Nat.lt_of_lt_of_le hlt hB.size)) (by omega)
        obtain ⟨_, _, _, _, x4, _, _, _⟩ := H1.node hx
        go_wp2
        go_roundg xs.length
        case measure => rw [← hxl]; simp
        case rel =>
          refine ⟨ys ++ [x], xs, _, by rw [HRV.out]; simp, rfl, rfl, HP.out, fun y hy => ?_, chain hB hb1, H1⟩
          rcases List.mem_append.1 hy with hy | hy
          · exact HY.out y hy
          · rw [List.mem_singleton.1 hy]; exact HBF.out
      · have hbf' : bef s i x = false := by simpa using hbf
        rw [hbf'] at hbe
        have HBF : Hid (bef s i x = false) := hbf'
        clear hp' hbf hbf' hxl
        go_wp2_with fail
        refine hbe.mono ?_
        rintro e w1 ⟨rfl, hb1⟩
        have H1 : WheelAt w1 B s := HR.mut (Mut.of_below (lo := 0) (hi := 0) hb1 (Nat.lt_of_lt_of_le hlt hB.size)) (by omega)
        have M0 : Mut B 1 1939 w w1 := Mut.of_below (chain hB hb1) hlt
        clear l0 l1
        obtain ⟨l0, l1⟩ := H1.list hr
        obtain ⟨_, _, _, _, i4, i5, _, _⟩ := H1.node hi
        obtain ⟨_, _, _, _, x4, x5, _, _⟩ := H1.node hx
        have hxb' : ((x : Int) == -1) = false := by simp <;> omega
        have fz := H1.frz
        generalize hLL : lOff r = L at *
        rcases hxn with e | ⟨q, hq, hqi, e⟩
        · rw [e] at x5
          have n0 : ¬ (2 + i * 8 + 4 = 2 + i * 8 + 5) := by omega
          have n1 : ¬ (2 + i * 8 + 5 = 2 + i * 8 + 4) := by omega
          have n2 : ¬ (2 + i * 8 + 4 = L) := by omega
          have n3 : ¬ (L = 2 + i * 8 + 4) := by omega
          have n4 : ¬ (2 + i * 8 + 4 = L + 1) := by omega
          have n5 : ¬ (L + 1 = 2 + i * 8 + 4) := by omega
          have n6 : ¬ (2 + i * 8 + 4 = 2 + x * 8 + 5) := by omega
          have n7 : ¬ (2 + x * 8 + 5 = 2 + i * 8 + 4) := by omega
          have n8 : ¬ (2 + i * 8 + 5 = L) := by omega
          have n9 : ¬ (L = 2 + i * 8 + 5) := by omega
          have n10 : ¬ (2 + i * 8 + 5 = L + 1) := by omega
          have n11 : ¬ (L + 1 = 2 + i * 8 + 5) := by omega
          have n12 : ¬ (2 + i * 8 + 5 = 2 + x * 8 + 5) := by omega
          have n13 : ¬ (2 + x * 8 + 5 = 2 + i * 8 + 5) := by omega
          have n14 : ¬ (2 + x * 8 + 5 = L) := by omega
          have n15 : ¬ (L = 2 + x * 8 + 5) := by omega
          have n16 : ¬ (2 + x * 8 + 5 = L + 1) := by omega
          have n17 : ¬ (L + 1 = 2 + x * 8 + 5) := by omega
          have n18 : ¬ (L + 1 = L) := by omega
          have n19 : ¬ (L = L + 1) := by omega
          clear HL hpc hni hnx
          go_wp2
          go_end0
          (try rw [← hLL])
          have hF : insF s r i (x :: xs) = insC s r i x := if_pos e
          have hLr := lOff_rng hr
          exact ⟨rfl, ⟨ys, (x :: xs), HRV.out, HY.out, fun z hz => by simp at hz; rw [← hz]; exact HBF.out, by rw [hF]; exact ((((H1.putPv hi _).putNx hi _).putNx hx _).putLt hr _)⟩, ((((M0.setCell (by omega) (by omega) _).setCell (by omega) (by omega) _).setCell (by omega) (by omega) _).setCell (by omega) (by omega) _)⟩
        · rw [e] at x5
          obtain ⟨_, _, _, _, q4, _, _, _⟩ := H1.node hq
          have q0 : (0 : Int) ≤ q := by omega
          have q1 : (q : Int) < 64 := by omega
          have hqb : ((q : Int) == -1) = false := by simp <;> omega
          have n0 : ¬ (2 + i * 8 + 4 = 2 + i * 8 + 5) := by omega
          have n1 : ¬ (2 + i * 8 + 5 = 2 + i * 8 + 4) := by omega
          have n2 : ¬ (2 + i * 8 + 4 = L) := by omega
          have n3 : ¬ (L = 2 + i * 8 + 4) := by omega
          have n4 : ¬ (2 + i * 8 + 4 = L + 1) := by omega
          have n5 : ¬ (L + 1 = 2 + i * 8 + 4) := by omega
          have n6 : ¬ (2 + i * 8 + 4 = 2 + x * 8 + 5) := by omega
          have n7 : ¬ (2 + x * 8 + 5 = 2 + i * 8 + 4) := by omega
          have n8 : ¬ (2 + i * 8 + 4 = 2 + q * 8 + 4) := by omega
          have n9 : ¬ (2 + q * 8 + 4 = 2 + i * 8 + 4) := by omega
          have n10 : ¬ (2 + i * 8 + 5 = L) := by omega
          have n11 : ¬ (L = 2 + i * 8 + 5) := by omega
          have n12 : ¬ (2 + i * 8 + 5 = L + 1) := by omega
          have n13 : ¬ (L + 1 = 2 + i * 8 + 5) := by omega
          have n14 : ¬ (2 + i * 8 + 5 = 2 + x * 8 + 5) := by omega
          have n15 : ¬ (2 + x * 8 + 5 = 2 + i * 8 + 5) := by omega
          have n16 : ¬ (2 + i * 8 + 5 = 2 + q * 8 + 4) := by omega
          have n17 : ¬ (2 + q * 8 + 4 = 2 + i * 8 + 5) := by omega
          have n18 : ¬ (2 + x * 8 + 5 = L) := by omega
          have n19 : ¬ (L = 2 + x * 8 + 5) := by omega
          have n20 : ¬ (2 + x * 8 + 5 = L + 1) := by omega
          have n21 : ¬ (L + 1 = 2 + x * 8 + 5) := by omega
          have n22 : ¬ (2 + x * 8 + 5 = 2 + q * 8 + 4) := by omega
          have n23 : ¬ (2 + q * 8 + 4 = 2 + x * 8 + 5) := by omega
          have n24 : ¬ (2 + q * 8 + 4 = L) := by omega
          have n25 : ¬ (L = 2 + q * 8 + 4) := by omega
          have n26 : ¬ (2 + q * 8 + 4 = L + 1) := by omega
          have n27 : ¬ (L + 1 = 2 + q * 8 + 4) := by omega
          clear HL hpc hni hnx
          go_wp2
          go_region_held3 (fun w' => w'.cell? ⟨B, 2 + i * 8 + 5, none⟩ = some (.int .i16 (q : Int))) (go_simp) (fail)
          go_wp2
          go_end0
          (try rw [← hLL])
          have hF : insF s r i (x :: xs) = insD s i x q := (if_neg (by omega)).trans (by rw [e, Int.toNat_natCast])
          have hLr := lOff_rng hr
          exact ⟨rfl, ⟨ys, (x :: xs), HRV.out, HY.out, fun z hz => by simp at hz; rw [← hz]; exact HBF.out, by rw [hF]; exact ((((H1.putPv hi _).putNx hi _).putNx hx _).putPv hq _).drew⟩, ((((M0.setCell (by omega) (by omega) _).setCell (by omega) (by omega) _).setCell (by omega) (by omega) _).setCell (by omega) (by omega) _).drew⟩
end Go.Proofs.Qxb6500877aGreatDoor
