import Derived.Test.Qxb6500877aGreatDoorNPi0
import Derived.Test.Qxb6500877aGreatDoorNPh0
import Derived.Test.Qxb6500877aGreatDoorNLa
set_option linter.unusedVariables false
set_option linter.unusedSimpArgs false
namespace Go.Proofs.Qxb6500877aGreatDoor
open Go.RowKit

/-- A sending step told to the law: as 'LS', the op in block p8, the targets in block gt; S0: what had been sent before, S: with the messages told so far. -/
structure SL (n0 : Nat) (w0 w : World) (B mb t k : Nat) (ν : Net) (base Sb Gb mc : Nat) (S S0 : Nat → List MsgV) (g : Nat → Nat) (o : OpS) (p8 gt : Nat) (l : List Nat) : Prop where
  m : Mach w B mb t k ν
  r : ∃ V, Rws w base Sb Gb V (rowsTo S S0 g) ∧ ∀ r, r < 32 → ∀ q, (V r).ownBlock = some q → q ≠ p8 ∧ q ≠ gt
  op : OpAt w p8 o
  tg : ∀ j b : Nat, l[j]? = some b → w.cell? ⟨gt, j, none⟩ = some (.int .i64 (b : Int))
  c : w.cell? ⟨mc, 0, none⟩ = some (.pointer (some ⟨B, 0, none⟩))
  b : Below n0 w0 w
  hb : base ≤ w.heap.size
  hp : base ≤ p8 ∧ base ≤ gt ∧ gt < w.heap.size
theorem LP.hB {n0 B mb base Sb Gb mc : Nat} (P : LP n0 B mb base Sb Gb mc) : B < base := P.hi.1
theorem rowsTo_self (S : Nat → List MsgV) (g : Nat → Nat) : rowsTo S S g = rowsOf S g := rfl
theorem sendAll_snoc (kd now x y : Int) (S : Nat → List MsgV) (l : List Nat) (b : Nat) : sendAll kd now x y S (l ++ [b]) = sendOne kd now x y (sendAll kd now x y S l) b := by simp [sendAll]
theorem take_snoc {l : List Nat} {j b : Nat} (h : l[j]? = some b) : l.take (j + 1) = l.take j ++ [b] := by rw [List.take_add_one, h]; rfl
theorem SL.done {n0 : Nat} {w0 w : World} {B mb t k : Nat} {ν : Net} {base Sb Gb mc : Nat} {S S0 : Nat → List MsgV} {g : Nat → Nat} {o : OpS} {p8 gt : Nat} {l : List Nat} (H : SL n0 w0 w B mb t k ν base Sb Gb mc S S0 g o p8 gt l) (hp : ∀ i, ∃ z, S i = S0 i ++ z) (hg : ∀ i, i < 16 → g i ≤ (S0 i).length) (N : NetL ν S g) : LS n0 w0 w B mb t k ν base Sb Gb mc S g := by
  obtain ⟨V, R, _⟩ := H.r
  exact ⟨H.m, N, ⟨V, R.cast (rowsTo_all hp hg)⟩, H.c, H.b, H.hb⟩
theorem SL.push {n0 : Nat} {w0 wr w3 : World} {B mb t k : Nat} {ν : Net} {base Sb Gb mc : Nat} {S S0 : Nat → List MsgV} {g : Nat → Nat} {o : OpS} {p8 gt : Nat} {l : List Nat} {V : Nat → Value} {b : Nat} {mm : MsgV} {ob : Obj} {v' : Value} (H : SL n0 w0 wr B mb t k ν base Sb Gb mc S S0 g o p8 gt l) (P : LP n0 B mb base Sb Gb mc) (R : Rws wr base Sb Gb V (rowsTo S S0 g)) (hfar : ∀ r, r < 32 → ∀ q, (V r).ownBlock = some q → q ≠ p8 ∧ q ≠ gt) (hb : b < 16)
    (ho : w3.ownsRow base 40 9 v' ((S b).length + 1) (msgCells (S b) ++ msg9 mm)) (hg : ((World.drew wr).alloc ob).grownBy w3 (V b).ownBlock) (hk : v'.ownBlock = (V b).ownBlock ∨ v'.ownBlock = some ((World.drew wr).alloc ob).heap.size) :
    SL n0 w0 (w3.setCell ⟨Sb, b, none⟩ v') B mb t k ν base Sb Gb mc (upd S b (S b ++ [mm])) S0 g o p8 gt l := by
  have e : rowsTo S S0 g b = S b := by simp [rowsTo, hb]
  rw [← e] at ho
  obtain ⟨M', R', c', b', s', far, hsz⟩ := pushed P H.m R H.c H.b H.hb (r := b) (by omega) ho hg hk
  rw [rowA_s hb] at M' R' c' b' s' far hsz
  rw [rowsTo_push hb] at R'
  obtain ⟨q1, q2, q3⟩ := H.hp
  have f1 := far p8 q1 H.op.lt (fun s hs e => (hfar s hs p8 e).1 rfl)
  have f2 := far gt q2 q3 (fun s hs e => (hfar s hs gt e).2 rfl)
  exact ⟨M', ⟨_, R', fun r hr q hq => ⟨fun e => f1.2 r hr (by rw [hq, e]), fun e => f2.2 r hr (by rw [hq, e])⟩⟩, H.op.blk f1.1, fun j c hc => (World.cell?_of_block (a := ⟨gt, j, none⟩) f2.1).trans (H.tg j c hc), c', b', s', q1, q2, by omega⟩
theorem sendAll_len (kd now x y : Int) : ∀ (l : List Nat) (S : Nat → List MsgV) (i : Nat), (sendAll kd now x y S l i).length ≤ (S i).length + l.length
  | [], S, i => by simp [sendAll]
  | b :: l, S, i => by
    have h1 := sendAll_len kd now x y l (sendOne kd now x y S b) i
    have h2 := sendOne_len kd now x y S b i
    show (sendAll kd now x y (sendOne kd now x y S b) l i).length ≤ _
    simp only [List.length_cons]
    omega
theorem tgt_len {o : OpS} {l : List Nat} (h : tgtOf o l) : l.length ≤ 4 := by
  rcases h with ⟨_, x, y, _, _, _, _, rfl⟩ | ⟨_, x, _, _, rfl⟩
  · simp
  · exact tgX_len 4
theorem wrap_u32_id {v : Int} (h : 0 ≤ v ∧ v < 4294967296) : IntKind.u32.wrap v = v := by
  have e : IntKind.u32.wrap v = v % 4294967296 := by simp [IntKind.wrap, IntKind.bits, IntKind.signed]
  rw [e]; omega
theorem LS.drewN {n0 : Nat} {w0 w : World} {B mb t k : Nat} {ν : Net} {base Sb Gb mc : Nat} {S : Nat → List MsgV} {g : Nat → Nat} (H : LS n0 w0 w B mb t k ν base Sb Gb mc S g) (n : Nat) : LS n0 w0 (w.drewN n) B mb t k ν base Sb Gb mc S g := by
  obtain ⟨V, R⟩ := H.r
  exact ⟨H.m.keep ((Mut.refl B 0 0 w).drewN n), H.n, ⟨V, R.keep (fun _ _ _ => rfl)⟩, H.c, ⟨H.b.os, H.b.tape, H.b.output, H.b.size, H.b.block⟩, H.hb⟩
theorem Rws.drewN {w : World} {base Sb Gb : Nat} {V : Nat → Value} {L : Nat → List MsgV} (h : Rws w base Sb Gb V L) (n : Nat) : Rws (w.drewN n) base Sb Gb V L := h.keep fun _ _ _ => rfl
theorem StepSend.kept {o : OpS} {t : Nat} {ν ν' : Net} {c : Int} (h : StepSend o t ν c ν') (hc : c ≠ 0) : ν' = ν := by
  rcases h with ⟨_, h⟩ | ⟨h, _⟩
  · exact h
  · exact absurd h hc
end Go.Proofs.Qxb6500877aGreatDoor
