import Derived.Test.Qxb6500877aGreatDoorBa
set_option linter.unusedVariables false
set_option linter.unusedSimpArgs false
namespace Go.Proofs.Qxb6500877aGreatDoor
open Go.RowKit

/-- A row of the timer table. -/
structure NodeS where
  id : Int
  core : Int
  dl : Int
  ck : Int
  pv : Int
  nx : Int
  lv : Int
  sl : Int
/-- The wheel. A list is named by 'none' (the due list) or by its level and slot. -/
structure Wheel where
  now : Int
  nd : Nat → NodeS
  free : Int
  live : Int
  nid : Int
  mb : Nat
  lh : Option (Nat × Nat) → Int
  lt : Option (Nat × Nat) → Int
  occ : Nat → Int

def nodeCell (n : NodeS) : Nat → Value
  | 0 => .int .u64 n.id
  | 1 => .int .i64 n.core
  | 2 => .int .u64 n.dl
  | 3 => .int .u64 n.ck
  | 4 => .int .i16 n.pv
  | 5 => .int .i16 n.nx
  | 6 => .int .i8 n.lv
  | _ => .int .u8 n.sl
def slotCell (s : Wheel) (j : Nat) : Value := if j % 2 = 0 then .int .i16 (s.lh (some (j / 128, j % 128 / 2))) else .int .i16 (s.lt (some (j / 128, j % 128 / 2)))
def Wheel.enc (s : Wheel) (o : Nat) : Value :=
  if o = 0 then .int .u64 s.now else if o < 513 then nodeCell (s.nd ((o - 1) / 8)) ((o - 1) % 8) else if o = 513 then .int .i16 s.free else if o = 514 then .int .i64 s.live else if o = 515 then .int .u64 s.nid
  else if o = 516 then .map (some s.mb) else if o = 517 then .int .i16 (s.lh none) else if o = 518 then .int .i16 (s.lt none) else if o < 1927 then slotCell s (o - 519) else .int .u64 (s.occ (o - 1927))

structure WheelAt (w : World) (B : Nat) (s : Wheel) : Prop where
  cell : ∀ o, o < 1938 → w.cell? ⟨B, 1 + o, none⟩ = some (s.enc o)
  frz : ∀ o, w.frozen? ⟨B, o, none⟩ = false

theorem WheelAt.mut {w w' : World} {B lo hi : Nat} {s : Wheel} (h : WheelAt w B s) (m : Mut B lo hi w w') (hd : hi ≤ 1 ∨ 1939 ≤ lo) : WheelAt w' B s :=
  ⟨fun o ho => by rw [m.cell _ (by omega)]; exact h.cell o ho, fun o => by rw [m.frz]; exact h.frz o⟩
theorem WheelAt.drew {w : World} {B : Nat} {s : Wheel} (h : WheelAt w B s) : WheelAt w.drew B s := ⟨h.cell, h.frz⟩
theorem WheelAt.other {w : World} {B : Nat} {s : Wheel} (h : WheelAt w B s) (q : Addr) (hq : q.block ≠ B) (v : Value) : WheelAt (w.setCell q v) B s :=
  ⟨fun o ho => by rw [World.cell?_setCell_far _ _ _ _ hq]; exact h.cell o ho, fun o => by simpa using h.frz o⟩

theorem WheelAt.put {w : World} {B : Nat} {s s' : Wheel} (h : WheelAt w B s) (a : Nat) (ha : a < 1938) (v : Value) (he : ∀ o, o < 1938 → s'.enc o = if o = a then v else s.enc o) :
    WheelAt (w.setCell ⟨B, 1 + a, none⟩ v) B s' := by
  refine ⟨fun o ho => ?_, fun o => by simpa using h.frz o⟩
  rw [he o ho]
  by_cases hoa : o = a
  · subst hoa
    rw [if_pos rfl]
    exact World.cell?_setCell_same _ _ _ (h.cell o ho)
  · rw [if_neg hoa, World.cell?_setCell_other _ _ _ _ (by simp <;> omega)]
    exact h.cell o ho

/-! ### The parts of the row, each by its place -/
theorem Wheel.enc_node (s : Wheel) {o : Nat} (h : 0 < o) (h' : o < 513) : s.enc o = nodeCell (s.nd ((o - 1) / 8)) ((o - 1) % 8) := by rw [Wheel.enc, if_neg (by omega), if_pos h']
theorem Wheel.enc_slot (s : Wheel) {o : Nat} (h : 519 ≤ o) (h' : o < 1927) : s.enc o = slotCell s (o - 519) := by
  rw [Wheel.enc, if_neg (by omega), if_neg (by omega), if_neg (by omega), if_neg (by omega), if_neg (by omega), if_neg (by omega), if_neg (by omega), if_neg (by omega), if_pos h']
theorem Wheel.enc_occ (s : Wheel) {o : Nat} (h : 1927 ≤ o) : s.enc o = .int .u64 (s.occ (o - 1927)) := by
  rw [Wheel.enc, if_neg (by omega), if_neg (by omega), if_neg (by omega), if_neg (by omega), if_neg (by omega), if_neg (by omega), if_neg (by omega), if_neg (by omega), if_neg (by omega)]

/-- Two wheels that part in nothing but the nodes, the lists, the bits, or the single cells. -/
theorem enc_same {s s' : Wheel} {o : Nat} (ho : o < 1938) (h0 : o = 0 → s'.now = s.now) (hn : 0 < o → o < 513 → s'.nd ((o - 1) / 8) = s.nd ((o - 1) / 8)) (h1 : o = 513 → s'.free = s.free) (h2 : o = 514 → s'.live = s.live) (h3 : o = 515 → s'.nid = s.nid)
    (h4 : o = 516 → s'.mb = s.mb) (h5 : o = 517 → s'.lh none = s.lh none) (h6 : o = 518 → s'.lt none = s.lt none) (h7 : 519 ≤ o → o < 1927 → slotCell s' (o - 519) = slotCell s (o - 519)) (h8 : 1927 ≤ o → s'.occ (o - 1927) = s.occ (o - 1927)) : s'.enc o = s.enc o := by
  by_cases c0 : o = 0
  · subst c0; simp only [Wheel.enc, if_pos]; rw [h0 rfl]
  by_cases c1 : o < 513
  · rw [s'.enc_node (by omega) c1, s.enc_node (by omega) c1, hn (by omega) c1]
  by_cases c2 : 519 ≤ o
  · by_cases c3 : o < 1927
    · rw [s'.enc_slot c2 c3, s.enc_slot c2 c3, h7 c2 c3]
    · rw [s'.enc_occ (by omega), s.enc_occ (by omega), h8 (by omega)]
  have : o = 513 ∨ o = 514 ∨ o = 515 ∨ o = 516 ∨ o = 517 ∨ o = 518 := by omega
  rcases this with rfl | rfl | rfl | rfl | rfl | rfl
  · show Value.int .i16 s'.free = Value.int .i16 s.free; rw [h1 rfl]
  · show Value.int .i64 s'.live = Value.int .i64 s.live; rw [h2 rfl]
  · show Value.int .u64 s'.nid = Value.int .u64 s.nid; rw [h3 rfl]
  · show Value.map (some s'.mb) = Value.map (some s.mb); rw [h4 rfl]
  · show Value.int .i16 (s'.lh none) = Value.int .i16 (s.lh none); rw [h5 rfl]
  · show Value.int .i16 (s'.lt none) = Value.int .i16 (s.lt none); rw [h6 rfl]

/-- Where a list's head lies. -/
def lOff : Option (Nat × Nat) → Nat
  | none => 518
  | some (k, s) => 520 + k * 128 + s * 2
def lOk : Option (Nat × Nat) → Prop
  | none => True
  | some (k, s) => k < 11 ∧ s < 64
theorem lOff_rng {r : Option (Nat × Nat)} (h : lOk r) : 518 ≤ lOff r ∧ lOff r + 1 < 1928 := by
  match r, h with
  | none, _ => simp [lOff]
  | some (k, s), h => simp only [lOff]; have := h.1; have := h.2; omega

/-! ### Reading -/
theorem WheelAt.one {w : World} {B : Nat} {s : Wheel} (h : WheelAt w B s) :
    w.cell? ⟨B, 1, none⟩ = some (.int .u64 s.now) ∧ w.cell? ⟨B, 514, none⟩ = some (.int .i16 s.free) ∧ w.cell? ⟨B, 515, none⟩ = some (.int .i64 s.live) ∧ w.cell? ⟨B, 516, none⟩ = some (.int .u64 s.nid) ∧ w.cell? ⟨B, 517, none⟩ = some (.map (some s.mb)) :=
  ⟨h.cell 0 (by omega), h.cell 513 (by omega), h.cell 514 (by omega), h.cell 515 (by omega), h.cell 516 (by omega)⟩
theorem WheelAt.node {w : World} {B : Nat} {s : Wheel} (h : WheelAt w B s) {i : Nat} (hi : i < 64) :
    w.cell? ⟨B, 2 + i * 8, none⟩ = some (.int .u64 (s.nd i).id) ∧ w.cell? ⟨B, 2 + i * 8 + 1, none⟩ = some (.int .i64 (s.nd i).core) ∧ w.cell? ⟨B, 2 + i * 8 + 2, none⟩ = some (.int .u64 (s.nd i).dl) ∧ w.cell? ⟨B, 2 + i * 8 + 3, none⟩ = some (.int .u64 (s.nd i).ck) ∧ w.cell? ⟨B, 2 + i * 8 + 4, none⟩ = some (.int .i16 (s.nd i).pv) ∧ w.cell? ⟨B, 2 + i * 8 + 5, none⟩ = some (.int .i16 (s.nd i).nx) ∧ w.cell? ⟨B, 2 + i * 8 + 6, none⟩ = some (.int .i8 (s.nd i).lv) ∧ w.cell? ⟨B, 2 + i * 8 + 7, none⟩ = some (.int .u8 (s.nd i).sl) := by
  have key : ∀ j, j < 8 → w.cell? ⟨B, 2 + i * 8 + j, none⟩ = some (nodeCell (s.nd i) j) := fun j hj => by
    have := h.cell (1 + (i * 8 + j)) (by omega)
    rw [show 2 + i * 8 + j = 1 + (1 + (i * 8 + j)) by omega, this, s.enc_node (by omega) (by omega), show (1 + (i * 8 + j) - 1) / 8 = i by omega, show (1 + (i * 8 + j) - 1) % 8 = j by omega]
  exact ⟨key 0 (by omega), key 1 (by omega), key 2 (by omega), key 3 (by omega), key 4 (by omega), key 5 (by omega), key 6 (by omega), key 7 (by omega)⟩
theorem WheelAt.list {w : World} {B : Nat} {s : Wheel} (h : WheelAt w B s) {r : Option (Nat × Nat)} (hr : lOk r) :
    w.cell? ⟨B, lOff r, none⟩ = some (.int .i16 (s.lh r)) ∧ w.cell? ⟨B, lOff r + 1, none⟩ = some (.int .i16 (s.lt r)) := by
  match r, hr with
  | none, _ => exact ⟨h.cell 517 (by omega), h.cell 518 (by omega)⟩
  | some (k, z), hr =>
    have h1 := hr.1
    have h2 := hr.2
    have e : ∀ j, j < 2 → w.cell? ⟨B, 520 + k * 128 + z * 2 + j, none⟩ = some (slotCell s (k * 128 + z * 2 + j)) := fun j hj => by
      have := h.cell (519 + (k * 128 + z * 2 + j)) (by omega)
      rw [show 520 + k * 128 + z * 2 + j = 1 + (519 + (k * 128 + z * 2 + j)) by omega, this, s.enc_slot (by omega) (by omega), show 519 + (k * 128 + z * 2 + j) - 519 = k * 128 + z * 2 + j by omega]
    refine ⟨?_, ?_⟩
    · have := e 0 (by omega)
      rw [slotCell, if_pos (by omega), show (k * 128 + z * 2 + 0) / 128 = k by omega, show (k * 128 + z * 2 + 0) % 128 / 2 = z by omega] at this
      exact this
    · have := e 1 (by omega)
      rw [slotCell, if_neg (by omega), show (k * 128 + z * 2 + 1) / 128 = k by omega, show (k * 128 + z * 2 + 1) % 128 / 2 = z by omega] at this
      exact this
theorem WheelAt.bits {w : World} {B : Nat} {s : Wheel} (h : WheelAt w B s) {k : Nat} (hk : k < 11) : w.cell? ⟨B, 1928 + k, none⟩ = some (.int .u64 (s.occ k)) := by
  have := h.cell (1927 + k) (by omega)
  rw [show 1928 + k = 1 + (1927 + k) by omega, this, s.enc_occ (by omega), show 1927 + k - 1927 = k by omega]

/-! ### Writing -/
def Wheel.pNow (s : Wheel) (v : Int) : Wheel := { s with now := v }
def Wheel.pFree (s : Wheel) (v : Int) : Wheel := { s with free := v }
def Wheel.pLive (s : Wheel) (v : Int) : Wheel := { s with live := v }
def Wheel.pNid (s : Wheel) (v : Int) : Wheel := { s with nid := v }
def Wheel.setNd (s : Wheel) (i : Nat) (n : NodeS) : Wheel := { s with nd := fun j => if j = i then n else s.nd j }
def Wheel.setLh (s : Wheel) (r : Option (Nat × Nat)) (v : Int) : Wheel := { s with lh := fun q => if q = r then v else s.lh q }
def Wheel.setLt (s : Wheel) (r : Option (Nat × Nat)) (v : Int) : Wheel := { s with lt := fun q => if q = r then v else s.lt q }
def Wheel.setOcc (s : Wheel) (k : Nat) (v : Int) : Wheel := { s with occ := fun j => if j = k then v else s.occ j }

theorem WheelAt.putNow {w : World} {B : Nat} {s : Wheel} (h : WheelAt w B s) (v : Int) : WheelAt (w.setCell ⟨B, 1, none⟩ (.int .u64 v)) B (s.pNow v) := by
  refine h.put 0 (by omega) _ fun o ho => ?_
  by_cases c : o = 0
  · subst c; rfl
  · rw [if_neg c]
    exact enc_same ho (fun e => absurd e c) (fun _ _ => rfl) (fun _ => rfl) (fun _ => rfl) (fun _ => rfl) (fun _ => rfl) (fun _ => rfl) (fun _ => rfl) (fun _ _ => rfl) (fun _ => rfl)
theorem WheelAt.putFree {w : World} {B : Nat} {s : Wheel} (h : WheelAt w B s) (v : Int) : WheelAt (w.setCell ⟨B, 514, none⟩ (.int .i16 v)) B (s.pFree v) := by
  refine h.put 513 (by omega) _ fun o ho => ?_
  by_cases c : o = 513
  · subst c; rfl
  · rw [if_neg c]
    exact enc_same ho (fun _ => rfl) (fun _ _ => rfl) (fun e => absurd e c) (fun _ => rfl) (fun _ => rfl) (fun _ => rfl) (fun _ => rfl) (fun _ => rfl) (fun _ _ => rfl) (fun _ => rfl)
theorem WheelAt.putLive {w : World} {B : Nat} {s : Wheel} (h : WheelAt w B s) (v : Int) : WheelAt (w.setCell ⟨B, 515, none⟩ (.int .i64 v)) B (s.pLive v) := by
  refine h.put 514 (by omega) _ fun o ho => ?_
  by_cases c : o = 514
  · subst c; rfl
  · rw [if_neg c]
    exact enc_same ho (fun _ => rfl) (fun _ _ => rfl) (fun _ => rfl) (fun e => absurd e c) (fun _ => rfl) (fun _ => rfl) (fun _ => rfl) (fun _ => rfl) (fun _ _ => rfl) (fun _ => rfl)
theorem WheelAt.putNid {w : World} {B : Nat} {s : Wheel} (h : WheelAt w B s) (v : Int) : WheelAt (w.setCell ⟨B, 516, none⟩ (.int .u64 v)) B (s.pNid v) := by
  refine h.put 515 (by omega) _ fun o ho => ?_
  by_cases c : o = 515
  · subst c; rfl
  · rw [if_neg c]
    exact enc_same ho (fun _ => rfl) (fun _ _ => rfl) (fun _ => rfl) (fun _ => rfl) (fun e => absurd e c) (fun _ => rfl) (fun _ => rfl) (fun _ => rfl) (fun _ _ => rfl) (fun _ => rfl)
theorem WheelAt.putNd {w : World} {B : Nat} {s : Wheel} (h : WheelAt w B s) {i : Nat} (hi : i < 64) (n : NodeS) (j : Nat) (hj : j < 8) (v : Value) (hn : ∀ o, o < 8 → nodeCell n o = if o = j then v else nodeCell (s.nd i) o) :
    WheelAt (w.setCell ⟨B, 2 + i * 8 + j, none⟩ v) B (s.setNd i n) := by
  rw [show 2 + i * 8 + j = 1 + (1 + (i * 8 + j)) by omega]
  refine h.put _ (by omega) _ fun o ho => ?_
  by_cases c : 0 < o ∧ o < 513
  · rw [(s.setNd i n).enc_node c.1 c.2, s.enc_node c.1 c.2]
    simp only [Wheel.setNd]
    by_cases hoi : (o - 1) / 8 = i
    · rw [if_pos hoi, hn _ (by omega)]
      by_cases hoj : (o - 1) % 8 = j
      · rw [if_pos hoj, if_pos (by omega)]
      · rw [if_neg hoj, if_neg (by omega), hoi]
    · rw [if_neg hoi, if_neg (by omega)]
  · rw [if_neg (by omega)]
    exact enc_same ho (fun _ => rfl) (fun a b => absurd ⟨a, b⟩ c) (fun _ => rfl) (fun _ => rfl) (fun _ => rfl) (fun _ => rfl) (fun _ => rfl) (fun _ => rfl) (fun _ _ => rfl) (fun _ => rfl)
def Wheel.nId (s : Wheel) (i : Nat) (v : Int) : Wheel := s.setNd i { s.nd i with id := v }
theorem WheelAt.putId {w : World} {B : Nat} {s : Wheel} (h : WheelAt w B s) {i : Nat} (hi : i < 64) (v : Int) : WheelAt (w.setCell ⟨B, 2 + i * 8, none⟩ (.int .u64 v)) B (s.nId i v) :=
  h.putNd hi _ 0 (by omega) _ (fun o ho => by
    have : o = 0 ∨ o = 1 ∨ o = 2 ∨ o = 3 ∨ o = 4 ∨ o = 5 ∨ o = 6 ∨ o = 7 := by omega
    rcases this with rfl | rfl | rfl | rfl | rfl | rfl | rfl | rfl <;> rfl)
def Wheel.nCore (s : Wheel) (i : Nat) (v : Int) : Wheel := s.setNd i { s.nd i with core := v }
theorem WheelAt.putCore {w : World} {B : Nat} {s : Wheel} (h : WheelAt w B s) {i : Nat} (hi : i < 64) (v : Int) : WheelAt (w.setCell ⟨B, 2 + i * 8 + 1, none⟩ (.int .i64 v)) B (s.nCore i v) :=
  h.putNd hi _ 1 (by omega) _ (fun o ho => by
    have : o = 0 ∨ o = 1 ∨ o = 2 ∨ o = 3 ∨ o = 4 ∨ o = 5 ∨ o = 6 ∨ o = 7 := by omega
    rcases this with rfl | rfl | rfl | rfl | rfl | rfl | rfl | rfl <;> rfl)
def Wheel.nDl (s : Wheel) (i : Nat) (v : Int) : Wheel := s.setNd i { s.nd i with dl := v }
theorem WheelAt.putDl {w : World} {B : Nat} {s : Wheel} (h : WheelAt w B s) {i : Nat} (hi : i < 64) (v : Int) : WheelAt (w.setCell ⟨B, 2 + i * 8 + 2, none⟩ (.int .u64 v)) B (s.nDl i v) :=
  h.putNd hi _ 2 (by omega) _ (fun o ho => by
    have : o = 0 ∨ o = 1 ∨ o = 2 ∨ o = 3 ∨ o = 4 ∨ o = 5 ∨ o = 6 ∨ o = 7 := by omega
    rcases this with rfl | rfl | rfl | rfl | rfl | rfl | rfl | rfl <;> rfl)
def Wheel.nCk (s : Wheel) (i : Nat) (v : Int) : Wheel := s.setNd i { s.nd i with ck := v }
theorem WheelAt.putCk {w : World} {B : Nat} {s : Wheel} (h : WheelAt w B s) {i : Nat} (hi : i < 64) (v : Int) : WheelAt (w.setCell ⟨B, 2 + i * 8 + 3, none⟩ (.int .u64 v)) B (s.nCk i v) :=
  h.putNd hi _ 3 (by omega) _ (fun o ho => by
    have : o = 0 ∨ o = 1 ∨ o = 2 ∨ o = 3 ∨ o = 4 ∨ o = 5 ∨ o = 6 ∨ o = 7 := by omega
    rcases this with rfl | rfl | rfl | rfl | rfl | rfl | rfl | rfl <;> rfl)
def Wheel.nPv (s : Wheel) (i : Nat) (v : Int) : Wheel := s.setNd i { s.nd i with pv := v }
theorem WheelAt.putPv {w : World} {B : Nat} {s : Wheel} (h : WheelAt w B s) {i : Nat} (hi : i < 64) (v : Int) : WheelAt (w.setCell ⟨B, 2 + i * 8 + 4, none⟩ (.int .i16 v)) B (s.nPv i v) :=
  h.putNd hi _ 4 (by omega) _ (fun o ho => by
    have : o = 0 ∨ o = 1 ∨ o = 2 ∨ o = 3 ∨ o = 4 ∨ o = 5 ∨ o = 6 ∨ o = 7 := by omega
    rcases this with rfl | rfl | rfl | rfl | rfl | rfl | rfl | rfl <;> rfl)
def Wheel.nNx (s : Wheel) (i : Nat) (v : Int) : Wheel := s.setNd i { s.nd i with nx := v }
theorem WheelAt.putNx {w : World} {B : Nat} {s : Wheel} (h : WheelAt w B s) {i : Nat} (hi : i < 64) (v : Int) : WheelAt (w.setCell ⟨B, 2 + i * 8 + 5, none⟩ (.int .i16 v)) B (s.nNx i v) :=
  h.putNd hi _ 5 (by omega) _ (fun o ho => by
    have : o = 0 ∨ o = 1 ∨ o = 2 ∨ o = 3 ∨ o = 4 ∨ o = 5 ∨ o = 6 ∨ o = 7 := by omega
    rcases this with rfl | rfl | rfl | rfl | rfl | rfl | rfl | rfl <;> rfl)
def Wheel.nLv (s : Wheel) (i : Nat) (v : Int) : Wheel := s.setNd i { s.nd i with lv := v }
theorem WheelAt.putLv {w : World} {B : Nat} {s : Wheel} (h : WheelAt w B s) {i : Nat} (hi : i < 64) (v : Int) : WheelAt (w.setCell ⟨B, 2 + i * 8 + 6, none⟩ (.int .i8 v)) B (s.nLv i v) :=
  h.putNd hi _ 6 (by omega) _ (fun o ho => by
    have : o = 0 ∨ o = 1 ∨ o = 2 ∨ o = 3 ∨ o = 4 ∨ o = 5 ∨ o = 6 ∨ o = 7 := by omega
    rcases this with rfl | rfl | rfl | rfl | rfl | rfl | rfl | rfl <;> rfl)
def Wheel.nSl (s : Wheel) (i : Nat) (v : Int) : Wheel := s.setNd i { s.nd i with sl := v }
theorem WheelAt.putSl {w : World} {B : Nat} {s : Wheel} (h : WheelAt w B s) {i : Nat} (hi : i < 64) (v : Int) : WheelAt (w.setCell ⟨B, 2 + i * 8 + 7, none⟩ (.int .u8 v)) B (s.nSl i v) :=
  h.putNd hi _ 7 (by omega) _ (fun o ho => by
    have : o = 0 ∨ o = 1 ∨ o = 2 ∨ o = 3 ∨ o = 4 ∨ o = 5 ∨ o = 6 ∨ o = 7 := by omega
    rcases this with rfl | rfl | rfl | rfl | rfl | rfl | rfl | rfl <;> rfl)
theorem WheelAt.putLh {w : World} {B : Nat} {s : Wheel} (h : WheelAt w B s) {r : Option (Nat × Nat)} (hr : lOk r) (v : Int) : WheelAt (w.setCell ⟨B, lOff r, none⟩ (.int .i16 v)) B (s.setLh r v) := by
  match r, hr with
  | none, _ =>
    refine h.put 517 (by omega) _ fun o ho => ?_
    by_cases c : o = 517
    · subst c; simp [Wheel.enc, Wheel.setLh]
    · rw [if_neg c]
      refine enc_same ho (fun _ => rfl) (fun _ _ => rfl) (fun _ => rfl) (fun _ => rfl) (fun _ => rfl) (fun _ => rfl) (fun e => absurd e c) (fun _ => rfl) (fun _ _ => ?_) (fun _ => rfl)
      simp [slotCell, Wheel.setLh]
  | some (k, z), hr =>
    have h1 := hr.1
    have h2 := hr.2
    show WheelAt (w.setCell ⟨B, 520 + k * 128 + z * 2, none⟩ (.int .i16 v)) B _
    rw [show 520 + k * 128 + z * 2 = 1 + (519 + (k * 128 + z * 2)) by omega]
    refine h.put _ (by omega) _ fun o ho => ?_
    by_cases c : o = 519 + (k * 128 + z * 2)
    · rw [if_pos c, (s.setLh (some (k, z)) v).enc_slot (by omega) (by omega), c, slotCell, if_pos (by omega)]
      rw [show (519 + (k * 128 + z * 2) - 519) / 128 = k by omega, show (519 + (k * 128 + z * 2) - 519) % 128 / 2 = z by omega]
      simp [Wheel.setLh]
    · rw [if_neg c]
      refine enc_same ho (fun _ => rfl) (fun _ _ => rfl) (fun _ => rfl) (fun _ => rfl) (fun _ => rfl) (fun _ => rfl) (fun _ => by simp [Wheel.setLh]) (fun _ => rfl) (fun a b => ?_) (fun _ => rfl)
      simp only [slotCell, Wheel.setLh]
      by_cases hp : (o - 519) % 2 = 0
      · rw [if_pos hp, if_pos hp, if_neg]
        intro e
        simp only [Option.some.injEq, Prod.mk.injEq] at e
        omega
      · rw [if_neg hp, if_neg hp]
theorem WheelAt.putLt {w : World} {B : Nat} {s : Wheel} (h : WheelAt w B s) {r : Option (Nat × Nat)} (hr : lOk r) (v : Int) : WheelAt (w.setCell ⟨B, lOff r + 1, none⟩ (.int .i16 v)) B (s.setLt r v) := by
  match r, hr with
  | none, _ =>
    refine h.put 518 (by omega) _ fun o ho => ?_
    by_cases c : o = 518
    · subst c; simp [Wheel.enc, Wheel.setLt]
    · rw [if_neg c]
      refine enc_same ho (fun _ => rfl) (fun _ _ => rfl) (fun _ => rfl) (fun _ => rfl) (fun _ => rfl) (fun _ => rfl) (fun _ => rfl) (fun e => absurd e c) (fun _ _ => ?_) (fun _ => rfl)
      simp [slotCell, Wheel.setLt]
  | some (k, z), hr =>
    have h1 := hr.1
    have h2 := hr.2
    show WheelAt (w.setCell ⟨B, 520 + k * 128 + z * 2 + 1, none⟩ (.int .i16 v)) B _
    rw [show 520 + k * 128 + z * 2 + 1 = 1 + (519 + (k * 128 + z * 2 + 1)) by omega]
    refine h.put _ (by omega) _ fun o ho => ?_
    by_cases c : o = 519 + (k * 128 + z * 2 + 1)
    · rw [if_pos c, (s.setLt (some (k, z)) v).enc_slot (by omega) (by omega), c, slotCell, if_neg (by omega)]
      rw [show (519 + (k * 128 + z * 2 + 1) - 519) / 128 = k by omega, show (519 + (k * 128 + z * 2 + 1) - 519) % 128 / 2 = z by omega]
      simp [Wheel.setLt]
    · rw [if_neg c]
      refine enc_same ho (fun _ => rfl) (fun _ _ => rfl) (fun _ => rfl) (fun _ => rfl) (fun _ => rfl) (fun _ => rfl) (fun _ => rfl) (fun _ => by simp [Wheel.setLt]) (fun a b => ?_) (fun _ => rfl)
      simp only [slotCell, Wheel.setLt]
      by_cases hp : (o - 519) % 2 = 0
      · rw [if_pos hp, if_pos hp]
      · rw [if_neg hp, if_neg hp, if_neg]
        intro e
        simp only [Option.some.injEq, Prod.mk.injEq] at e
        omega
theorem WheelAt.putOcc {w : World} {B : Nat} {s : Wheel} (h : WheelAt w B s) {k : Nat} (hk : k < 11) (v : Int) : WheelAt (w.setCell ⟨B, 1928 + k, none⟩ (.int .u64 v)) B (s.setOcc k v) := by
  rw [show 1928 + k = 1 + (1927 + k) by omega]
  refine h.put _ (by omega) _ fun o ho => ?_
  by_cases c : o = 1927 + k
  · rw [if_pos c, (s.setOcc k v).enc_occ (by omega), c]
    simp [Wheel.setOcc]
  · rw [if_neg c]
    refine enc_same ho (fun _ => rfl) (fun _ _ => rfl) (fun _ => rfl) (fun _ => rfl) (fun _ => rfl) (fun _ => rfl) (fun _ => rfl) (fun _ => rfl) (fun _ _ => rfl) (fun a => ?_)
    simp only [Wheel.setOcc]
    rw [if_neg (by omega)]
end Go.Proofs.Qxb6500877aGreatDoor
