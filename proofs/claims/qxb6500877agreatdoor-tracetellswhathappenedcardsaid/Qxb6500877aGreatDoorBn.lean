import Derived.Test.Qxb6500877aGreatDoorBa
set_option linter.unusedVariables false
set_option linter.unusedSimpArgs false
namespace Go.Proofs.Qxb6500877aGreatDoor
open Go.RowKit

/-- A message. -/
structure MsgV where
  mf : Int
  mt : Int
  md : Int
  mq : Int
  ma : Int
  x0 : Int
  x1 : Int
  x2 : Int
  x3 : Int
/-- A mailbox. -/
structure BoxS where
  ring : Nat → MsgV
  head : Int
  n : Int
  acc : Int
/-- The mailboxes. -/
structure Net where
  box : Nat → BoxS
  busy : Int

def msgCell (m : MsgV) : Nat → Value
  | 0 => .int .i64 m.mf
  | 1 => .int .i64 m.mt
  | 2 => .int .u32 m.md
  | 3 => .int .u64 m.mq
  | 4 => .int .u64 m.ma
  | 5 => .int .u64 m.x0
  | 6 => .int .u64 m.x1
  | 7 => .int .u64 m.x2
  | _ => .int .u64 m.x3
def BoxS.enc (x : BoxS) (o : Nat) : Value :=
  if o < 288 then msgCell (x.ring (o / 9)) (o % 9) else if o = 288 then .int .i64 x.head else if o = 289 then .int .i64 x.n else .int .u64 x.acc
def Net.enc (s : Net) (o : Nat) : Value := if o < 4656 then (s.box (o / 291)).enc (o % 291) else .int .u16 s.busy

structure NetAt (w : World) (B : Nat) (s : Net) : Prop where
  cell : ∀ o, o < 4657 → w.cell? ⟨B, 1939 + o, none⟩ = some (s.enc o)
  frz : ∀ o, w.frozen? ⟨B, o, none⟩ = false

theorem NetAt.mut {w w' : World} {B lo hi : Nat} {s : Net} (h : NetAt w B s) (m : Mut B lo hi w w') (hd : hi ≤ 1939 ∨ 6596 ≤ lo) : NetAt w' B s :=
  ⟨fun o ho => by rw [m.cell _ (by omega)]; exact h.cell o ho, fun o => by rw [m.frz]; exact h.frz o⟩
theorem NetAt.drew {w : World} {B : Nat} {s : Net} (h : NetAt w B s) : NetAt w.drew B s := ⟨h.cell, h.frz⟩

theorem NetAt.put {w : World} {B : Nat} {s s' : Net} (h : NetAt w B s) (a : Nat) (ha : a < 4657) (v : Value) (he : ∀ o, o < 4657 → s'.enc o = if o = a then v else s.enc o) :
    NetAt (w.setCell ⟨B, 1939 + a, none⟩ v) B s' := by
  refine ⟨fun o ho => ?_, fun o => by simpa using h.frz o⟩
  rw [he o ho]
  by_cases hoa : o = a
  · subst hoa
    rw [if_pos rfl]
    exact World.cell?_setCell_same _ _ _ (h.cell o ho)
  · rw [if_neg hoa, World.cell?_setCell_other _ _ _ _ (by simp <;> omega)]
    exact h.cell o ho

def Net.setBox (s : Net) (i : Nat) (x : BoxS) : Net := { s with box := fun j => if j = i then x else s.box j }
def Net.setBusy (s : Net) (v : Int) : Net := { s with busy := v }

theorem NetAt.putBox {w : World} {B : Nat} {s : Net} (h : NetAt w B s) {i : Nat} (hi : i < 16) (j : Nat) (hj : j < 291) (x : BoxS) (v : Value) (hx : ∀ o, o < 291 → x.enc o = if o = j then v else (s.box i).enc o) :
    NetAt (w.setCell ⟨B, 1939 + i * 291 + j, none⟩ v) B (s.setBox i x) := by
  rw [Nat.add_assoc]
  refine h.put (i * 291 + j) (by omega) v fun o ho => ?_
  by_cases h1 : o < 4656
  · simp only [Net.enc, if_pos h1, Net.setBox]
    by_cases hoi : o / 291 = i
    · rw [if_pos hoi, hx _ (by omega)]
      by_cases hoj : o % 291 = j
      · rw [if_pos hoj, if_pos (by omega)]
      · rw [if_neg hoj, if_neg (by omega), hoi]
    · rw [if_neg hoi, if_neg (by omega)]
  · rw [if_neg (by omega)]
    simp only [Net.enc, if_neg h1, Net.setBox]

def BoxS.pHead (x : BoxS) (v : Int) : BoxS := { x with head := v }
def BoxS.pN (x : BoxS) (v : Int) : BoxS := { x with n := v }
def BoxS.pAcc (x : BoxS) (v : Int) : BoxS := { x with acc := v }
def BoxS.pMsg (x : BoxS) (i : Nat) (m : MsgV) : BoxS := { x with ring := fun j => if j = i then m else x.ring j }

theorem NetAt.putHead {w : World} {B : Nat} {s : Net} (h : NetAt w B s) {i : Nat} (hi : i < 16) (v : Int) : NetAt (w.setCell ⟨B, 1939 + i * 291 + 288, none⟩ (.int .i64 v)) B (s.setBox i ((s.box i).pHead v)) :=
  h.putBox hi 288 (by omega) _ _ fun o ho => by
    by_cases h1 : o < 288
    · rw [if_neg (by omega)]; simp only [BoxS.enc, if_pos h1, BoxS.pHead]
    · have : o = 288 ∨ o = 289 ∨ o = 290 := by omega
      rcases this with rfl | rfl | rfl <;> rfl
theorem NetAt.putN {w : World} {B : Nat} {s : Net} (h : NetAt w B s) {i : Nat} (hi : i < 16) (v : Int) : NetAt (w.setCell ⟨B, 1939 + i * 291 + 289, none⟩ (.int .i64 v)) B (s.setBox i ((s.box i).pN v)) :=
  h.putBox hi 289 (by omega) _ _ fun o ho => by
    by_cases h1 : o < 288
    · rw [if_neg (by omega)]; simp only [BoxS.enc, if_pos h1, BoxS.pN]
    · have : o = 288 ∨ o = 289 ∨ o = 290 := by omega
      rcases this with rfl | rfl | rfl <;> rfl
theorem NetAt.putAcc {w : World} {B : Nat} {s : Net} (h : NetAt w B s) {i : Nat} (hi : i < 16) (v : Int) : NetAt (w.setCell ⟨B, 1939 + i * 291 + 290, none⟩ (.int .u64 v)) B (s.setBox i ((s.box i).pAcc v)) :=
  h.putBox hi 290 (by omega) _ _ fun o ho => by
    by_cases h1 : o < 288
    · rw [if_neg (by omega)]; simp only [BoxS.enc, if_pos h1, BoxS.pAcc]
    · have : o = 288 ∨ o = 289 ∨ o = 290 := by omega
      rcases this with rfl | rfl | rfl <;> rfl
theorem NetAt.putBusy {w : World} {B : Nat} {s : Net} (h : NetAt w B s) (v : Int) : NetAt (w.setCell ⟨B, 6595, none⟩ (.int .u16 v)) B (s.setBusy v) := by
  refine h.put 4656 (by omega) _ fun o ho => ?_
  by_cases h1 : o < 4656
  · rw [if_neg (by omega)]; simp only [Net.enc, if_pos h1, Net.setBusy]
  · rw [if_pos (by omega)]; simp only [Net.enc, if_neg h1, Net.setBusy]

theorem NetAt.ctl {w : World} {B : Nat} {s : Net} (h : NetAt w B s) {i : Nat} (hi : i < 16) :
    w.cell? ⟨B, 1939 + i * 291 + 288, none⟩ = some (.int .i64 (s.box i).head) ∧ w.cell? ⟨B, 1939 + i * 291 + 289, none⟩ = some (.int .i64 (s.box i).n) ∧ w.cell? ⟨B, 1939 + i * 291 + 290, none⟩ = some (.int .u64 (s.box i).acc) := by
  have key : ∀ j, j < 291 → w.cell? ⟨B, 1939 + i * 291 + j, none⟩ = some ((s.box i).enc j) := fun j hj => by
    have := h.cell (i * 291 + j) (by omega)
    rw [Nat.add_assoc, this, Net.enc, if_pos (by omega), show (i * 291 + j) / 291 = i by omega, show (i * 291 + j) % 291 = j by omega]
  exact ⟨key 288 (by omega), key 289 (by omega), key 290 (by omega)⟩
theorem NetAt.bus {w : World} {B : Nat} {s : Net} (h : NetAt w B s) : w.cell? ⟨B, 6595, none⟩ = some (.int .u16 s.busy) := h.cell 4656 (by omega)
theorem NetAt.msg {w : World} {B : Nat} {s : Net} (h : NetAt w B s) {i : Nat} (hi : i < 16) {k : Nat} (hk : k < 32) :
    w.cell? ⟨B, 1939 + i * 291 + k * 9, none⟩ = some (.int .i64 ((s.box i).ring k).mf) ∧ w.cell? ⟨B, 1939 + i * 291 + k * 9 + 1, none⟩ = some (.int .i64 ((s.box i).ring k).mt) ∧ w.cell? ⟨B, 1939 + i * 291 + k * 9 + 2, none⟩ = some (.int .u32 ((s.box i).ring k).md) ∧ w.cell? ⟨B, 1939 + i * 291 + k * 9 + 3, none⟩ = some (.int .u64 ((s.box i).ring k).mq) ∧ w.cell? ⟨B, 1939 + i * 291 + k * 9 + 4, none⟩ = some (.int .u64 ((s.box i).ring k).ma) ∧ w.cell? ⟨B, 1939 + i * 291 + k * 9 + 5, none⟩ = some (.int .u64 ((s.box i).ring k).x0) ∧ w.cell? ⟨B, 1939 + i * 291 + k * 9 + 6, none⟩ = some (.int .u64 ((s.box i).ring k).x1) ∧ w.cell? ⟨B, 1939 + i * 291 + k * 9 + 7, none⟩ = some (.int .u64 ((s.box i).ring k).x2) ∧ w.cell? ⟨B, 1939 + i * 291 + k * 9 + 8, none⟩ = some (.int .u64 ((s.box i).ring k).x3) := by
  have key : ∀ j, j < 9 → w.cell? ⟨B, 1939 + i * 291 + k * 9 + j, none⟩ = some (msgCell ((s.box i).ring k) j) := fun j hj => by
    have := h.cell (i * 291 + (k * 9 + j)) (by omega)
    rw [show 1939 + i * 291 + k * 9 + j = 1939 + (i * 291 + (k * 9 + j)) by omega, this, Net.enc, if_pos (by omega), show (i * 291 + (k * 9 + j)) / 291 = i by omega, show (i * 291 + (k * 9 + j)) % 291 = k * 9 + j by omega,
      BoxS.enc, if_pos (by omega), show (k * 9 + j) / 9 = k by omega, show (k * 9 + j) % 9 = j by omega]
  exact ⟨key 0 (by omega), key 1 (by omega), key 2 (by omega), key 3 (by omega), key 4 (by omega), key 5 (by omega), key 6 (by omega), key 7 (by omega), key 8 (by omega)⟩

/-- One cell of one message. -/
theorem NetAt.putM {w : World} {B : Nat} {s : Net} (h : NetAt w B s) {i : Nat} (hi : i < 16) {k : Nat} (hk : k < 32) (j : Nat) (hj : j < 9) (m : MsgV) (v : Value) (hm : ∀ o, o < 9 → msgCell m o = if o = j then v else msgCell ((s.box i).ring k) o) :
    NetAt (w.setCell ⟨B, 1939 + i * 291 + k * 9 + j, none⟩ v) B (s.setBox i ((s.box i).pMsg k m)) := by
  rw [show 1939 + i * 291 + k * 9 + j = 1939 + i * 291 + (k * 9 + j) by omega]
  refine h.putBox hi (k * 9 + j) (by omega) _ _ fun o ho => ?_
  by_cases h1 : o < 288
  · simp only [BoxS.enc, if_pos h1, BoxS.pMsg]
    by_cases hok : o / 9 = k
    · rw [if_pos hok, hm _ (by omega)]
      by_cases hoj : o % 9 = j
      · rw [if_pos hoj, if_pos (by omega)]
      · rw [if_neg hoj, if_neg (by omega), hok]
    · rw [if_neg hok, if_neg (by omega)]
  · rw [if_neg (by omega)]
    simp only [BoxS.enc, if_neg h1, BoxS.pMsg]
theorem Net.setBox_box (s : Net) (i : Nat) (x : BoxS) : (s.setBox i x).box i = x := by simp [Net.setBox]
theorem Net.setBox_twice (s : Net) (i : Nat) (x y : BoxS) : (s.setBox i x).setBox i y = s.setBox i y := by
  simp only [Net.setBox, Net.mk.injEq, and_true]
  funext j
  by_cases h : j = i <;> simp [h]
theorem BoxS.pMsg_ring (x : BoxS) (k : Nat) (m : MsgV) : (x.pMsg k m).ring k = m := by simp [BoxS.pMsg]
theorem BoxS.pMsg_twice (x : BoxS) (k : Nat) (m m' : MsgV) : (x.pMsg k m).pMsg k m' = x.pMsg k m' := by
  simp only [BoxS.pMsg, BoxS.mk.injEq, and_true]
  funext j
  by_cases h : j = k <;> simp [h]

/-- A whole message laid into its place. -/
theorem NetAt.putMsg {w : World} {B : Nat} {s : Net} (h : NetAt w B s) {i : Nat} (hi : i < 16) {k : Nat} (hk : k < 32) (m : MsgV) :
    NetAt ((((((((((w.setCell ⟨B, 1939 + i * 291 + k * 9, none⟩ (.int .i64 m.mf)).setCell ⟨B, 1939 + i * 291 + k * 9 + 1, none⟩ (.int .i64 m.mt)).setCell ⟨B, 1939 + i * 291 + k * 9 + 2, none⟩ (.int .u32 m.md)).setCell ⟨B, 1939 + i * 291 + k * 9 + 3, none⟩ (.int .u64 m.mq)).setCell ⟨B, 1939 + i * 291 + k * 9 + 4, none⟩ (.int .u64 m.ma)).setCell ⟨B, 1939 + i * 291 + k * 9 + 5, none⟩ (.int .u64 m.x0)).setCell ⟨B, 1939 + i * 291 + k * 9 + 6, none⟩ (.int .u64 m.x1)).setCell ⟨B, 1939 + i * 291 + k * 9 + 7, none⟩ (.int .u64 m.x2)).setCell ⟨B, 1939 + i * 291 + k * 9 + 8, none⟩ (.int .u64 m.x3))) B (s.setBox i ((s.box i).pMsg k m)) := by
  have step : ∀ (w : World) (n : MsgV) (j : Nat) (hj : j < 9) (n' : MsgV) (v : Value), (∀ o, o < 9 → msgCell n' o = if o = j then v else msgCell n o) → NetAt w B (s.setBox i ((s.box i).pMsg k n)) →
      NetAt (w.setCell ⟨B, 1939 + i * 291 + k * 9 + j, none⟩ v) B (s.setBox i ((s.box i).pMsg k n')) := fun w n j hj n' v hn H => by
    have := H.putM hi hk j hj n' v (by rw [Net.setBox_box, BoxS.pMsg_ring]; exact hn)
    rw [Net.setBox_box, BoxS.pMsg_twice, Net.setBox_twice] at this
    exact this
  have nine : ∀ o, o < 9 → o = 0 ∨ o = 1 ∨ o = 2 ∨ o = 3 ∨ o = 4 ∨ o = 5 ∨ o = 6 ∨ o = 7 ∨ o = 8 := fun o ho => by omega
  have h0 := h.putM hi hk 0 (by omega) ⟨m.mf, ((s.box i).ring k).mt, ((s.box i).ring k).md, ((s.box i).ring k).mq, ((s.box i).ring k).ma, ((s.box i).ring k).x0, ((s.box i).ring k).x1, ((s.box i).ring k).x2, ((s.box i).ring k).x3⟩ (.int .i64 m.mf) (fun o ho => by rcases nine o ho with rfl | rfl | rfl | rfl | rfl | rfl | rfl | rfl | rfl <;> rfl)
  have h1 := step _ _ 1 (by omega) ⟨m.mf, m.mt, ((s.box i).ring k).md, ((s.box i).ring k).mq, ((s.box i).ring k).ma, ((s.box i).ring k).x0, ((s.box i).ring k).x1, ((s.box i).ring k).x2, ((s.box i).ring k).x3⟩ (.int .i64 m.mt) (fun o ho => by rcases nine o ho with rfl | rfl | rfl | rfl | rfl | rfl | rfl | rfl | rfl <;> rfl) h0
  have h2 := step _ _ 2 (by omega) ⟨m.mf, m.mt, m.md, ((s.box i).ring k).mq, ((s.box i).ring k).ma, ((s.box i).ring k).x0, ((s.box i).ring k).x1, ((s.box i).ring k).x2, ((s.box i).ring k).x3⟩ (.int .u32 m.md) (fun o ho => by rcases nine o ho with rfl | rfl | rfl | rfl | rfl | rfl | rfl | rfl | rfl <;> rfl) h1
  have h3 := step _ _ 3 (by omega) ⟨m.mf, m.mt, m.md, m.mq, ((s.box i).ring k).ma, ((s.box i).ring k).x0, ((s.box i).ring k).x1, ((s.box i).ring k).x2, ((s.box i).ring k).x3⟩ (.int .u64 m.mq) (fun o ho => by rcases nine o ho with rfl | rfl | rfl | rfl | rfl | rfl | rfl | rfl | rfl <;> rfl) h2
  have h4 := step _ _ 4 (by omega) ⟨m.mf, m.mt, m.md, m.mq, m.ma, ((s.box i).ring k).x0, ((s.box i).ring k).x1, ((s.box i).ring k).x2, ((s.box i).ring k).x3⟩ (.int .u64 m.ma) (fun o ho => by rcases nine o ho with rfl | rfl | rfl | rfl | rfl | rfl | rfl | rfl | rfl <;> rfl) h3
  have h5 := step _ _ 5 (by omega) ⟨m.mf, m.mt, m.md, m.mq, m.ma, m.x0, ((s.box i).ring k).x1, ((s.box i).ring k).x2, ((s.box i).ring k).x3⟩ (.int .u64 m.x0) (fun o ho => by rcases nine o ho with rfl | rfl | rfl | rfl | rfl | rfl | rfl | rfl | rfl <;> rfl) h4
  have h6 := step _ _ 6 (by omega) ⟨m.mf, m.mt, m.md, m.mq, m.ma, m.x0, m.x1, ((s.box i).ring k).x2, ((s.box i).ring k).x3⟩ (.int .u64 m.x1) (fun o ho => by rcases nine o ho with rfl | rfl | rfl | rfl | rfl | rfl | rfl | rfl | rfl <;> rfl) h5
  have h7 := step _ _ 7 (by omega) ⟨m.mf, m.mt, m.md, m.mq, m.ma, m.x0, m.x1, m.x2, ((s.box i).ring k).x3⟩ (.int .u64 m.x2) (fun o ho => by rcases nine o ho with rfl | rfl | rfl | rfl | rfl | rfl | rfl | rfl | rfl <;> rfl) h6
  have h8 := step _ _ 8 (by omega) ⟨m.mf, m.mt, m.md, m.mq, m.ma, m.x0, m.x1, m.x2, m.x3⟩ (.int .u64 m.x3) (fun o ho => by rcases nine o ho with rfl | rfl | rfl | rfl | rfl | rfl | rfl | rfl | rfl <;> rfl) h7
  exact h8
end Go.Proofs.Qxb6500877aGreatDoor
