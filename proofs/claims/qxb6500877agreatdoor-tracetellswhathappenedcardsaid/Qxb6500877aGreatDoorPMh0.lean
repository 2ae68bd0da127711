import Derived.Test.Qxb6500877aGreatDoorPMg
set_option linter.unusedVariables false
set_option linter.unusedSimpArgs false
namespace Go.Proofs.Qxb6500877aGreatDoor
open Go.RowKit



/-- A number is returned. -/
def One (e : Ending) : Prop := ∃ a : Int, e = .returned (.int .i64 a)
theorem one_mk (a : Int) : One (.returned (.int .i64 a)) := ⟨a, rfl⟩
/-- What a sending does to the mailboxes: box i is full, or takes message m. -/
def SendR (ν : Net) (i : Nat) (m : MsgV) (ok : Bool) (ν' : Net) : Prop :=
  ((ν.box i).n = 32 ∧ ok = false ∧ ν' = ν) ∨ ((ν.box i).n ≠ 32 ∧ ok = true ∧ m.mq = (ν.box i).acc + 1 ∧ ∃ h n : Nat, (ν.box i).head = h ∧ h < 32 ∧ (ν.box i).n = n ∧ n < 32 ∧ ν' = sendF ν i h n m)
theorem send_net {w : World} {B mb t k : Nat} {ν : Net} {τ : TSt} {σ : Sg} {a b : Nat} {now kd x0 x1 x2 x3 : Int} (M : Mach w B mb t k ν τ σ) (hk : k < 900000) (ha : a < 4) (hb : b < 4) :
    Calls Tryz.prog 182 #[.pointer (some ⟨B, 1939, none⟩), .int .u64 now, .int .i64 (a : Int), .int .i64 (b : Int), .int .u32 kd, .agg #[.int .u64 x0, .int .u64 x1, .int .u64 x2, .int .u64 x3]] w fun e w' => ∃ (m : MsgV) (ok : Bool) (ν' : Net), e = .returned (.tuple #[msgV m, .bool ok]) ∧ Done w w' B mb t (k + 1) ν' τ σ ∧ SendR ν (a * 4 + b) m ok ν' ∧ (ok = true → m = ⟨a, b, kd, m.mq, now, x0, x1, x2, x3⟩) := by
  obtain ⟨N, K⟩ := M.net
  have KB := K (a * 4 + b) (by omega)
  obtain ⟨h, eh, hh⟩ := KB.head
  obtain ⟨n, en, hn⟩ := KB.n
  have hacc := KB.acc
  by_cases h32 : n = 32
  · have e32 : (ν.box (a * 4 + b)).n = 32 := by rw [en, h32]; rfl
    refine (send_full N ha hb e32).mono ?_
    rintro e w1 ⟨rfl, N1, M1⟩
    exact ⟨msg0, false, ν, rfl, (Done.refl M).mut M1 (by omega) ((M.mono (by omega)).nets M1 ⟨N1, K.mono (by omega)⟩), .inl ⟨e32, rfl, rfl⟩, fun q => by simp at q⟩
  · refine (send_ok N ha hb eh hh en (by omega) (by omega)).mono ?_
    rintro e w1 ⟨rfl, N1, M1⟩
    exact ⟨_, true, _, rfl, (Done.refl M).mut M1 (by omega) ((M.mono (by omega)).nets M1 ⟨N1, K.push (by omega) eh hh (by omega) ⟨by show (0 : Int) ≤ b; omega, by show (b : Int) < 4; omega⟩⟩), .inr ⟨by rw [en]; omega, rfl, rfl, h, n, eh, hh, en, by omega, rfl⟩, fun _ => rfl⟩
theorem Nine.blk {w w' : World} {b : Nat} {m : MsgV} (h : Nine w b m) (e : w'.heap[b]? = w.heap[b]?) : Nine w' b m :=
  ⟨(World.cell?_of_block (a := ⟨b, 0, none⟩) e).trans h.c0, (World.cell?_of_block (a := ⟨b, 1, none⟩) e).trans h.c1, (World.cell?_of_block (a := ⟨b, 2, none⟩) e).trans h.c2, (World.cell?_of_block (a := ⟨b, 3, none⟩) e).trans h.c3, (World.cell?_of_block (a := ⟨b, 4, none⟩) e).trans h.c4, (World.cell?_of_block (a := ⟨b, 5, none⟩) e).trans h.c5, (World.cell?_of_block (a := ⟨b, 6, none⟩) e).trans h.c6, (World.cell?_of_block (a := ⟨b, 7, none⟩) e).trans h.c7, (World.cell?_of_block (a := ⟨b, 8, none⟩) e).trans h.c8, fun o => (World.frozen?_of_block (a := ⟨b, o, none⟩) e).trans (h.fz o)⟩
theorem nine_new (w : World) : Nine (w.alloc (.cells #[.int .i64 0, .int .i64 0, .int .u32 0, .int .u64 0, .int .u64 0, .int .u64 0, .int .u64 0, .int .u64 0, .int .u64 0] 40)).drew w.heap.size msg0 := by
  refine ⟨?_, ?_, ?_, ?_, ?_, ?_, ?_, ?_, ?_, fun o => ?_⟩ <;> simp [msg0]
/-- What a delivery does to the mailboxes: box i is empty, or hands over its oldest message m. -/
def DelR (ν : Net) (i : Nat) (m : MsgV) (ok : Bool) (ν' : Net) : Prop :=
  ((ν.box i).n = 0 ∧ ok = false ∧ ν' = ν ∧ m = msg0) ∨ (ok = true ∧ ∃ h n : Nat, (ν.box i).head = h ∧ h < 32 ∧ (ν.box i).n = n ∧ 0 < n ∧ n ≤ 32 ∧ m = (ν.box i).ring h ∧ ν' = deliverF ν i h n)
theorem deliver_net {w : World} {B mb t k : Nat} {ν : Net} {τ : TSt} {σ : Sg} {i : Nat} (M : Mach w B mb t k ν τ σ) (hi : i < 16) :
    Calls Tryz.prog 132 #[.pointer (some ⟨B, 1939, none⟩), .int .i64 (i : Int)] w fun e w' => ∃ (m : MsgV) (ok : Bool) (ν' : Net), (0 ≤ m.mt ∧ m.mt < 4) ∧ e = .returned (.tuple #[msgV m, .bool ok]) ∧ Done w w' B mb t k ν' τ σ ∧ DelR ν i m ok ν' := by
  obtain ⟨N, K⟩ := M.net
  have KB := K i hi
  obtain ⟨h, eh, hh⟩ := KB.head
  obtain ⟨n, en, hn⟩ := KB.n
  by_cases h0 : n = 0
  · have e0 : (ν.box i).n = 0 := by rw [en, h0]; rfl
    refine (deliver_empty N hi e0).mono ?_
    rintro e w1 ⟨rfl, N1, M1⟩
    exact ⟨msg0, false, ν, ⟨Int.le_refl _, by show (0 : Int) < 4; omega⟩, rfl, (Done.refl M).mut M1 (by omega) (M.nets M1 ⟨N1, K⟩), .inl ⟨e0, rfl, rfl, rfl⟩⟩
  · refine (deliver_some N hi eh hh en (by omega)).mono ?_
    rintro e w1 ⟨rfl, N1, M1⟩
    exact ⟨_, true, _, KB.to_ h hh, rfl, (Done.refl M).mut M1 (by omega) (M.nets M1 ⟨N1, K.pop hi hh (by omega)⟩), .inr ⟨rfl, h, n, eh, hh, en, by omega, hn, rfl, rfl⟩⟩

end Go.Proofs.Qxb6500877aGreatDoor
