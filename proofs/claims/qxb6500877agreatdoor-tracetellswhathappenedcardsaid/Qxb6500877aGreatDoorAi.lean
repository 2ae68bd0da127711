import Derived.Test.Qxb6500877aGreatDoorAh
set_option linter.unusedVariables false
set_option linter.unusedSimpArgs false
namespace Go.Proofs.Qxb6500877aGreatDoor
open Go.RowKit

def Mdl.setBx (m : Mdl) (b : Nat) (l : List MsgV) : Mdl := { m with bx := upd m.bx b l }
def Mdl.setTm (m : Mdl) (l : List TmR) : Mdl := { m with tm := l }
def Mdl.setAc (m : Mdl) (b : Nat) (v : Int) : Mdl := { m with ac := upd m.ac b v }
def Mdl.setNx (m : Mdl) (v : Int) : Mdl := { m with nx := v }
def Mdl.setNow (m : Mdl) (v : Int) : Mdl := { m with now := v }
theorem MdlAt.brow {w : World} {D base : Nat} {V : Nat → Value} {m : Mdl} (h : MdlAt w D base V m) {b : Nat} (hb : b < 16) : w.cell? ⟨D, 53 + b, none⟩ = some (V (4 + b)) ∧ w.ownsRow base 40 9 (V (4 + b)) (m.bx b).length (msgCells (m.bx b)) := by
  have h1 := h.sl (4 + b) (by omega)
  have h2 := h.own (4 + b) (by omega)
  unfold mRO at h1
  unfold mRT mRS Mdl.rn Mdl.rc at h2
  rw [if_pos (by omega), show 49 + (4 + b) = 53 + b by omega] at h1
  have n1 : ¬ (4 + b < 4) := by omega
  have n2 : 4 + b < 20 := by omega
  rw [if_neg n1, if_pos n2, if_neg n1, if_pos n2, if_neg n1, if_pos n2, if_neg n1, if_pos n2, show 4 + b - 4 = b by omega] at h2
  exact ⟨h1, h2⟩
theorem MdlAt.newBx {w w3 : World} {D base : Nat} {V : Nat → Value} {m : Mdl} {b : Nat} {v' : Value} {l : List MsgV} (h : MdlAt w D base V m) (hb16 : b < 16) (hg : w.grownBy w3 (V (4 + b)).ownBlock) (ho : w3.ownsRow base 40 9 v' l.length (msgCells l)) (hb : v'.ownBlock = (V (4 + b)).ownBlock ∨ ∃ q, v'.ownBlock = some q ∧ w.heap.size ≤ q) :
    MdlAt (w3.setCell ⟨D, 53 + b, none⟩ v') D base (upd V (4 + b) v') (m.setBx b l) ∧ MFr D V (upd V (4 + b) v') w (w3.setCell ⟨D, 53 + b, none⟩ v') := by
  have n1 : ¬ (4 + b < 4) := by omega
  have n2 : 4 + b < 20 := by omega
  have e : mRO (4 + b) = 53 + b := by unfold mRO; rw [if_pos n2]; omega
  rw [← e]
  refine h.row (by omega) hg ?_ hb (fun q _ => rfl) (fun s hs hne => ?_)
  · unfold mRT mRS Mdl.rn Mdl.rc
    rw [if_neg n1, if_pos n2, if_neg n1, if_pos n2, if_neg n1, if_pos n2, if_neg n1, if_pos n2, show 4 + b - 4 = b by omega]
    show w3.ownsRow base 40 9 v' (upd m.bx b l b).length (msgCells (upd m.bx b l b))
    rw [upd_same]
    exact ho
  · unfold Mdl.rn Mdl.rc
    by_cases q : s < 4
    · rw [if_pos q, if_pos q, if_pos q, if_pos q]
      exact ⟨rfl, rfl⟩
    · rw [if_neg q, if_neg q, if_neg q, if_neg q]
      by_cases q2 : s < 20
      · have : (m.setBx b l).bx (s - 4) = m.bx (s - 4) := upd_other _ _ (by omega)
        rw [if_pos q2, if_pos q2, if_pos q2, if_pos q2, this]
        exact ⟨rfl, rfl⟩
      · rw [if_neg q2, if_neg q2, if_neg q2, if_neg q2]
        exact ⟨rfl, rfl⟩
theorem MdlAt.trow {w : World} {D base : Nat} {V : Nat → Value} {m : Mdl} (h : MdlAt w D base V m) : w.cell? ⟨D, 85, none⟩ = some (V 20) ∧ w.ownsRow base 84 4 (V 20) m.tm.length (tmCells m.tm) := ⟨h.sl 20 (by omega), h.own 20 (by omega)⟩
theorem MdlAt.newTm {w w3 : World} {D base : Nat} {V : Nat → Value} {m : Mdl} {v' : Value} {l : List TmR} (h : MdlAt w D base V m) (hg : w.grownBy w3 (V 20).ownBlock) (ho : w3.ownsRow base 84 4 v' l.length (tmCells l)) (hb : v'.ownBlock = (V 20).ownBlock ∨ ∃ q, v'.ownBlock = some q ∧ w.heap.size ≤ q) :
    MdlAt (w3.setCell ⟨D, 85, none⟩ v') D base (upd V 20 v') (m.setTm l) ∧ MFr D V (upd V 20 v') w (w3.setCell ⟨D, 85, none⟩ v') := by
  refine h.row (r := 20) (by omega) hg ho hb (fun q _ => rfl) (fun s hs hne => ?_)
  unfold Mdl.rn Mdl.rc
  by_cases q : s < 4
  · rw [if_pos q, if_pos q, if_pos q, if_pos q]
    exact ⟨rfl, rfl⟩
  · have q2 : s < 20 := by omega
    rw [if_neg q, if_neg q, if_neg q, if_neg q, if_pos q2, if_pos q2, if_pos q2, if_pos q2]
    exact ⟨rfl, rfl⟩
theorem MdlAt.putAc {w : World} {D base : Nat} {V : Nat → Value} {m : Mdl} (h : MdlAt w D base V m) {b : Nat} (hb : b < 16) (v : Int) :
    MdlAt (w.setCell ⟨D, 69 + b, none⟩ (.int .u64 v)) D base V (m.setAc b v) ∧ MFr D V V w (w.setCell ⟨D, 69 + b, none⟩ (.int .u64 v)) := by
  refine h.put (by unfold plainO; omega) ?_ (fun q hq hne => ?_) (fun r _ => ⟨rfl, rfl⟩)
  · unfold Mdl.enc
    rw [if_neg (by omega), if_neg (by omega), if_pos (by omega), show 69 + b - 69 = b by omega]
    show Value.int .u64 (upd m.ac b v b) = _
    rw [upd_same]
  · unfold Mdl.enc
    split
    · rfl
    split
    · rfl
    split
    · have e : (m.setAc b v).ac (q - 69) = m.ac (q - 69) := upd_other _ _ (by unfold plainO at hq; omega)
      rw [e]
    · rfl
theorem MdlAt.putNx {w : World} {D base : Nat} {V : Nat → Value} {m : Mdl} (h : MdlAt w D base V m) (v : Int) :
    MdlAt (w.setCell ⟨D, 86, none⟩ (.int .u64 v)) D base V (m.setNx v) ∧ MFr D V V w (w.setCell ⟨D, 86, none⟩ (.int .u64 v)) := by
  refine h.put (by unfold plainO; omega) rfl (fun q hq hne => ?_) (fun r _ => ⟨rfl, rfl⟩)
  unfold Mdl.enc
  rw [if_neg hne, if_neg hne]
  rfl
theorem MdlAt.putNow {w : World} {D base : Nat} {V : Nat → Value} {m : Mdl} (h : MdlAt w D base V m) (v : Int) :
    MdlAt (w.setCell ⟨D, 0, none⟩ (.int .u64 v)) D base V (m.setNow v) ∧ MFr D V V w (w.setCell ⟨D, 0, none⟩ (.int .u64 v)) := by
  refine h.put (by unfold plainO; omega) rfl (fun q hq hne => ?_) (fun r _ => ⟨rfl, rfl⟩)
  unfold Mdl.enc
  rw [if_neg hne, if_neg hne]
  rfl
theorem msgCells_len (l : List MsgV) : (msgCells l).length = l.length * 9 := by
  induction l with
  | nil => rfl
  | cons m l ih =>
    have e : msgCells (m :: l) = msg9 m ++ msgCells l := by simp [msgCells]
    rw [e, List.length_append, ih, List.length_cons]
    show 9 + l.length * 9 = _
    omega
theorem msgs_one (l : List MsgV) : ∀ u ∈ msgCells l, u.oneCell' = true := by
  intro u hu
  simp only [msgCells, List.mem_flatMap] at hu
  obtain ⟨m, _, hm⟩ := hu
  simp [msg9] at hm
  rcases hm with rfl | rfl | rfl | rfl | rfl | rfl | rfl | rfl | rfl <;> rfl
theorem tm_one (l : List TmR) : ∀ u ∈ tmCells l, u.oneCell' = true := by
  intro u hu
  simp only [tmCells, List.mem_flatMap] at hu
  obtain ⟨m, _, hm⟩ := hu
  simp at hm
  rcases hm with rfl | rfl | rfl | rfl <;> rfl
theorem msg_drop (m : MsgV) (l : List MsgV) : (msgCells (m :: l)).take (0 * 9) ++ (msgCells (m :: l)).drop ((0 + 1) * 9) = msgCells l := by
  have e : msgCells (m :: l) = msg9 m ++ msgCells l := by simp [msgCells]
  rw [e]
  simp [msg9]
theorem msg_first {w : World} {base : Nat} {p : Option Addr} {n cap : Nat} {m : MsgV} {l : List MsgV} (h : w.ownsRow base 40 9 (.slice p n cap) n (msgCells (m :: l))) (hn : 0 < n) : ∃ g, p = some ⟨g, 0, none⟩ ∧ NineO w g 0 m := by
  rcases h.2 with ⟨_, e2⟩ | ⟨g, cap', cur, e1, _⟩
  · omega
  · simp only [Value.slice.injEq] at e1
    obtain ⟨rfl, _, _⟩ := e1
    refine ⟨g, rfl, ?_⟩
    have key : ∀ j u, (msg9 m)[j]? = some u → w.cell? ⟨g, j, none⟩ = some u := fun j u hu => by
      have e : msgCells (m :: l) = msg9 m ++ msgCells l := by simp [msgCells]
      have hj : j < (msg9 m).length := (List.getElem?_eq_some_iff.1 hu).1
      have := h.cells (g := g) rfl j u (by rw [e, List.getElem?_append_left hj]; exact hu)
      have e2 : (⟨g, 0, none⟩ : Addr).add j = ⟨g, j, none⟩ := by simp [Addr.add]; intro h; exact h.symm
      rw [e2] at this
      exact this
    exact ⟨key 0 _ rfl, key 1 _ rfl, key 2 _ rfl, key 3 _ rfl, key 4 _ rfl, key 5 _ rfl, key 6 _ rfl, key 7 _ rfl, key 8 _ rfl⟩
end Go.Proofs.Qxb6500877aGreatDoor
