import Derived.Test.Qxb6500877aGreatDoorNPg0
set_option linter.unusedVariables false
set_option linter.unusedSimpArgs false
namespace Go.Proofs.Qxb6500877aGreatDoor
open Go.RowKit

/-- Inside a delivery: the answer in block b6, all else as the law keeps it. -/
structure TK (n0 : Nat) (w0 w : World) (B mb t k : Nat) (ν : Net) (base Sb Gb mc : Nat) (L : Nat → List MsgV) (V : Nat → Value) (b6 : Nat) (z co : Int) (hm : Bool) (m : MsgV) : Prop where
  rc : RcAt w b6 z co hm m
  mach : Mach w B mb t k ν
  rows : Rws w base Sb Gb V L
  own : ∀ r, r < 32 → ∀ q, (V r).ownBlock = some q → q ≠ b6
  c : w.cell? ⟨mc, 0, none⟩ = some (.pointer (some ⟨B, 0, none⟩))
  b : Below n0 w0 w
  hb : base ≤ b6
theorem TK.drewN {n0 : Nat} {w0 w : World} {B mb t k : Nat} {ν : Net} {base Sb Gb mc : Nat} {L : Nat → List MsgV} {V : Nat → Value} {b6 : Nat} {z co : Int} {hm : Bool} {m : MsgV} (h : TK n0 w0 w B mb t k ν base Sb Gb mc L V b6 z co hm m) (n : Nat) : TK n0 w0 (w.drewN n) B mb t k ν base Sb Gb mc L V b6 z co hm m :=
  ⟨⟨h.rc.c0, h.rc.c1, h.rc.c4, h.rc.m0, h.rc.m1, h.rc.m2, h.rc.m3, h.rc.m4, h.rc.m5, h.rc.m6, h.rc.m7, h.rc.m8⟩, h.mach.keep ((Mut.refl B 0 0 w).drewN n), h.rows.keep (fun _ _ _ => rfl), h.own, h.c, ⟨h.b.os, h.b.tape, h.b.output, h.b.size, h.b.block⟩, h.hb⟩
theorem TK.drew {n0 : Nat} {w0 w : World} {B mb t k : Nat} {ν : Net} {base Sb Gb mc : Nat} {L : Nat → List MsgV} {V : Nat → Value} {b6 : Nat} {z co : Int} {hm : Bool} {m : MsgV} (h : TK n0 w0 w B mb t k ν base Sb Gb mc L V b6 z co hm m) : TK n0 w0 w.drew B mb t k ν base Sb Gb mc L V b6 z co hm m :=
  ⟨⟨h.rc.c0, h.rc.c1, h.rc.c4, h.rc.m0, h.rc.m1, h.rc.m2, h.rc.m3, h.rc.m4, h.rc.m5, h.rc.m6, h.rc.m7, h.rc.m8⟩, h.mach.drew, h.rows.drew, h.own, h.c, ⟨h.b.os, h.b.tape, h.b.output, h.b.size, h.b.block⟩, h.hb⟩
theorem rows_len_g {S : Nat → List MsgV} {g : Nat → Nat} {i : Nat} (h : g i ≤ (S i).length) : (rowsOf S g (16 + i)).length = g i := by rw [rowsOf_g, List.length_take]; omega
theorem rows_len_s {S : Nat → List MsgV} {g : Nat → Nat} {i : Nat} (hi : i < 16) : (rowsOf S g i).length = (S i).length := by rw [rowsOf_s _ _ hi]
end Go.Proofs.Qxb6500877aGreatDoor
