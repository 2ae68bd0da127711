import Derived.Test.Qxb6500877aGreatDoorWy
import Derived.Test.Qxb6500877aGreatDoorNf
import Derived.Test.Qxb6500877aGreatDoorXb
import Derived.Test.Qxb6500877aGreatDoorXc
import Derived.Test.Qxb6500877aGreatDoorTd
import Derived.Test.Qxb6500877aGreatDoorTf
import Derived.Test.Qxb6500877aGreatDoorTg
set_option linter.unusedVariables false
set_option linter.unusedSimpArgs false
namespace Go.Proofs.Qxb6500877aGreatDoor
open Go.RowKit



/-- The mailboxes in order; no box has taken in more than k messages. -/
structure BOk (x : BoxS) (k : Nat) : Prop where
  head : ∃ h : Nat, x.head = h ∧ h < 32
  n : ∃ n : Nat, x.n = n ∧ n ≤ 32
  acc : 0 ≤ x.acc ∧ x.acc ≤ k
  to_ : ∀ j, j < 32 → 0 ≤ (x.ring j).mt ∧ (x.ring j).mt < 4
def NOk (s : Net) (k : Nat) : Prop := ∀ i, i < 16 → BOk (s.box i) k
theorem BOk.mono {x : BoxS} {k k' : Nat} (h : BOk x k) (hk : k ≤ k') : BOk x k' := ⟨h.head, h.n, ⟨h.acc.1, by have := h.acc.2; omega⟩, h.to_⟩
theorem NOk.mono {s : Net} {k k' : Nat} (h : NOk s k) (hk : k ≤ k') : NOk s k' := fun i hi => (h i hi).mono hk
theorem NOk.set {s : Net} {k i : Nat} {x : BoxS} (h : NOk s k) (hx : BOk x k) : NOk (s.setBox i x) k := fun j hj => by
  by_cases e : j = i
  · subst e; rw [Net.setBox_box]; exact hx
  · have : (s.setBox i x).box j = s.box j := by simp [Net.setBox, e]
    rw [this]; exact h j hj
theorem NOk.pop {s : Net} {k i h n : Nat} (K : NOk s k) (hi : i < 16) (hh : h < 32) (hn : 0 < n ∧ n ≤ 32) : NOk (deliverF s i h n) k := by
  have hb : BOk ((((s.box i).pMsg h msg0).pHead (plc h 1)).pN (n - 1)) k := by
    refine ⟨⟨plc h 1, rfl, plc_lt hh (by omega)⟩, ⟨n - 1, by show (n : Int) - 1 = _; omega, by omega⟩, (K i hi).acc, fun j hj => ?_⟩
    by_cases e : j = h
    · subst e; simp [BoxS.pMsg, BoxS.pHead, BoxS.pN, msg0]
    · simp [BoxS.pMsg, BoxS.pHead, BoxS.pN, e]; exact (K i hi).to_ j hj
  have := K.set (i := i) hb
  unfold deliverF
  split
  · exact this
  · exact this
theorem NOk.push {s : Net} {k i h n : Nat} {m : MsgV} (K : NOk s k) (hi : i < 16) (eh : (s.box i).head = h) (hh : h < 32) (hn : n < 32) (hm : 0 ≤ m.mt ∧ m.mt < 4) : NOk (sendF s i h n m) (k + 1) := by
  have hb : BOk ((((s.box i).pMsg (plc h n) m).pN (n + 1)).pAcc ((s.box i).acc + 1)) (k + 1) := by
    refine ⟨⟨h, eh, hh⟩, ⟨n + 1, rfl, by omega⟩, ?_, fun j hj => ?_⟩
    · have := (K i hi).acc
      show 0 ≤ (s.box i).acc + 1 ∧ (s.box i).acc + 1 ≤ _
      omega
    · by_cases e : j = plc h n
      · subst e; simp [BoxS.pMsg, BoxS.pN, BoxS.pAcc]; exact hm
      · simp [BoxS.pMsg, BoxS.pN, BoxS.pAcc, e]; exact (K i hi).to_ j hj
  exact (K.mono (k' := k + 1) (by omega)).set hb

theorem TimersAt.mut {w w' : World} {B n lo hi : Nat} {s : Wheel} {f : Int → Option Int} (h : TimersAt w B n s f) (M : Mut B lo hi w w') (hd : hi ≤ 1 ∨ 1939 ≤ lo) : TimersAt w' B n s f := ⟨h.wh.mut M hd, h.mp.mut M h.ne, h.ne⟩

/-- The timers of the machine, and the id that the next one gets. -/
structure TSt where
  tm : Int → Option TmV
  nx : Int
def τ0 : TSt := ⟨fun _ => none, 1⟩
structure TW (s : Wheel) (L : Option (Nat × Nat) → List Nat) (fr : List Nat) (f : Int → Option Int) (τ : TSt) (k : Nat) : Prop where
  wo : WO s L fr f []
  tm : tmOf s f = τ.tm
  nx : s.nid = τ.nx
  n0 : 0 < s.nid
  n1 : s.nid ≤ k + 1
theorem TW.mono {s : Wheel} {L : Option (Nat × Nat) → List Nat} {fr : List Nat} {f : Int → Option Int} {τ : TSt} {k k' : Nat} (h : TW s L fr f τ k) (hk : k ≤ k') : TW s L fr f τ k' := ⟨h.wo, h.tm, h.nx, h.n0, by have := h.n1; omega⟩
/-- The scheduler, and the counters of the cores. -/
structure Sg where
  s : Sched
  st : Nat → Int
def inc64 (v : Int) : Int := IntKind.u64.wrap (v + 1)
def Sg.inc (σ : Sg) (j : Nat) : Sg := { σ with st := fun i => if i = j then inc64 (σ.st j) else σ.st i }
def Sg.put (σ : Sg) (s : Sched) : Sg := { σ with s := s }
theorem inc64_rng (v : Int) : 0 ≤ inc64 v ∧ inc64 v < 18446744073709551616 := by
  unfold inc64 IntKind.wrap
  simp [IntKind.bits, IntKind.signed]
  omega
/-- The machine in order: its clock at t, its map in block mb, its counts at most k. -/
structure Mach (w : World) (B mb t k : Nat) (ν : Net) (τ : TSt) (σ : Sg) : Prop where
  clk : w.cell? ⟨B, 0, none⟩ = some (.int .u64 (t : Int))
  tlt : t < 18446744073709551616
  tim : ∃ s L fr f, TimersAt w B k s f ∧ WInv s L fr f [] ∧ s.now = t ∧ s.mb = mb ∧ TW s L fr f τ k
  net : NetAt w B ν ∧ NOk ν k
  sch : SchedAt w B σ.s ∧ SOk σ.s
  sts : ∀ j, j < 28 → w.cell? ⟨B, 6724 + j, none⟩ = some (.int .u64 (σ.st j))
  stb : ∀ j, 0 ≤ σ.st j ∧ σ.st j < 18446744073709551616
  snk : w.cell? ⟨B, 6752, none⟩ = some .nilIface
  vac : Vac w
  tab : TabAt w
  hB : 2 < B
  hm : 2 < mb
theorem Mach.lt {w : World} {B mb t k : Nat} {ν : Net} {τ : TSt} {σ : Sg} (h : Mach w B mb t k ν τ σ) : B < w.heap.size := World.block_lt_of_cell? _ _ h.clk
theorem Mach.mlt {w : World} {B mb t k : Nat} {ν : Net} {τ : TSt} {σ : Sg} (h : Mach w B mb t k ν τ σ) : mb < w.heap.size := by
  obtain ⟨s, L, fr, f, T, _, _, e, _⟩ := h.tim
  rw [← e]; exact T.mp.lt
theorem Mach.ne {w : World} {B mb t k : Nat} {ν : Net} {τ : TSt} {σ : Sg} (h : Mach w B mb t k ν τ σ) : mb ≠ B := by
  obtain ⟨s, L, fr, f, T, _, _, e, _⟩ := h.tim
  rw [← e]; exact T.ne
theorem Mach.frz {w : World} {B mb t k : Nat} {ν : Net} {τ : TSt} {σ : Sg} (h : Mach w B mb t k ν τ σ) : ∀ o, w.frozen? ⟨B, o, none⟩ = false := by
  exact h.sch.1.frz
theorem Mach.mono {w : World} {B mb t k k' : Nat} {ν : Net} {τ : TSt} {σ : Sg} (h : Mach w B mb t k ν τ σ) (hk : k ≤ k') : Mach w B mb t k' ν τ σ := by
  obtain ⟨s, L, fr, f, T, r1, r2, r3, r4⟩ := h.tim
  obtain ⟨H, K⟩ := h.net
  exact ⟨h.clk, h.tlt, ⟨s, L, fr, f, ⟨T.wh, T.mp.mono hk, T.ne⟩, r1, r2, r3, r4.mono hk⟩, ⟨H, K.mono hk⟩, h.sch, h.sts, h.stb, h.snk, h.vac, h.tab, h.hB, h.hm⟩
/-- Cells lo .. hi-1 have been written: the parts that lie elsewhere are as they were. -/
theorem Mach.turn {w w' : World} {B mb t k lo hi : Nat} {ν ν' : Net} {τ : TSt} {σ σ' : Sg} (h : Mach w B mb t k ν τ σ) (M : Mut B lo hi w w') (hlo : 1 ≤ lo) (hhi : hi ≤ 6752) (ht : (hi ≤ 1 ∨ 1939 ≤ lo) ∨ ∃ s L fr f, TimersAt w' B k s f ∧ WInv s L fr f [] ∧ s.now = t ∧ s.mb = mb ∧ TW s L fr f τ k) (hn : ((hi ≤ 1939 ∨ 6596 ≤ lo) ∧ ν' = ν) ∨ (NetAt w' B ν' ∧ NOk ν' k))
    (hs : ((hi ≤ 6596 ∨ 6724 ≤ lo) ∧ σ'.s = σ.s) ∨ (SchedAt w' B σ'.s ∧ SOk σ'.s)) (hc : (hi ≤ 6724 ∧ σ'.st = σ.st) ∨ ((∀ j, j < 28 → w'.cell? ⟨B, 6724 + j, none⟩ = some (.int .u64 (σ'.st j))) ∧ ∀ j, 0 ≤ σ'.st j ∧ σ'.st j < 18446744073709551616)) : Mach w' B mb t k ν' τ σ' := by
  have hB := h.hB
  refine ⟨by rw [M.cell _ (by omega)]; exact h.clk, h.tlt, ?_, ?_, ?_, ?_, ?_, by rw [M.cell _ (by omega)]; exact h.snk, h.vac.mut M (by omega), h.tab.mut M (by omega), hB, h.hm⟩
  · rcases ht with q | q
    · obtain ⟨s, L, fr, f, T, r⟩ := h.tim
      exact ⟨s, L, fr, f, T.mut M q, r⟩
    · exact q
  · rcases hn with q | q
    · obtain ⟨H, K⟩ := h.net
      rw [q.2]
      exact ⟨H.mut M q.1, K⟩
    · exact q
  · rcases hs with q | q
    · obtain ⟨H, K⟩ := h.sch
      rw [q.2]
      exact ⟨H.mut M q.1, K⟩
    · exact q
  · rcases hc with q | q
    · intro j hj
      rw [M.cell _ (by omega), q.2]
      exact h.sts j hj
    · exact q.1
  · rcases hc with q | q
    · rw [q.2]; exact h.stb
    · exact q.2
theorem Mach.keep {w w' : World} {B mb t k : Nat} {ν : Net} {τ : TSt} {σ : Sg} (h : Mach w B mb t k ν τ σ) (M : Mut B 0 0 w w') : Mach w' B mb t k ν τ σ :=
  h.turn (lo := 1) (hi := 1) ⟨M.os, M.tape, M.output, M.size, M.block, M.frz, fun o _ => M.cell o (by omega)⟩ (by omega) (by omega) (.inl (by omega)) (.inl ⟨by omega, rfl⟩) (.inl ⟨by omega, rfl⟩) (.inl ⟨by omega, rfl⟩)
theorem Mach.below {w w' : World} {B mb t k : Nat} {ν : Net} {τ : TSt} {σ : Sg} (h : Mach w B mb t k ν τ σ) (hb : Below w.heap.size w w') : Mach w' B mb t k ν τ σ := h.keep (Mut.of_below hb h.lt)
theorem Mach.drew {w : World} {B mb t k : Nat} {ν : Net} {τ : TSt} {σ : Sg} (h : Mach w B mb t k ν τ σ) : Mach w.drew B mb t k ν τ σ := h.keep (Mut.refl B 0 0 w).drew
theorem Mach.fresh {w : World} {B mb t k : Nat} {ν : Net} {τ : TSt} {σ : Sg} (h : Mach w B mb t k ν τ σ) (q : Addr) (hq : q.block ≠ B ∧ q.block ≠ mb ∧ 2 < q.block) (v : Value) : Mach (w.setCell q v) B mb t k ν τ σ := by
  have key : ∀ b, b ≠ q.block → (w.setCell q v).heap[b]? = w.heap[b]? := fun b hb => by
    simp only [World.setCell, Array.getElem?_modify]
    rw [if_neg (fun e => hb e.symm)]
  have cellB : ∀ o, (w.setCell q v).cell? ⟨B, o, none⟩ = w.cell? ⟨B, o, none⟩ := fun o => World.cell?_setCell_far _ _ _ _ hq.1
  have cellk : ∀ b o, b ≠ q.block → (w.setCell q v).cell? ⟨b, o, none⟩ = w.cell? ⟨b, o, none⟩ := fun b o hb => World.cell?_setCell_far _ _ _ _ (fun e => hb e.symm)
  obtain ⟨s, L, fr, f, T, I, e1, e2, e3⟩ := h.tim
  obtain ⟨N, K⟩ := h.net
  obtain ⟨S, O⟩ := h.sch
  have hv := h.vac
  refine ⟨by rw [cellB]; exact h.clk, h.tlt, ⟨s, L, fr, f, T.other q ⟨hq.1, by rw [e2]; exact hq.2.1⟩ v, I, e1, e2, e3⟩, ⟨N.other q hq.1 v, K⟩, ⟨⟨fun o ho => by rw [cellB]; exact S.cell o ho, fun o => by simpa using S.frz o⟩, O⟩, fun j hj => by rw [cellB]; exact h.sts j hj, h.stb, by rw [cellB]; exact h.snk, ?_, fun k hk => by rw [cellk 2 _ (by omega)]; exact h.tab k hk, h.hB, h.hm⟩
  exact ⟨by rw [cellk 0 _ (by omega)]; exact hv.v0, by rw [cellk 0 _ (by omega)]; exact hv.v1, by rw [cellk 0 _ (by omega)]; exact hv.v2, by rw [cellk 0 _ (by omega)]; exact hv.v3, by rw [cellk 0 _ (by omega)]; exact hv.v4⟩
/-- A counter turned. -/
theorem Mach.stat {w : World} {B mb t k j : Nat} {ν : Net} {τ : TSt} {σ : Sg} (h : Mach w B mb t k ν τ σ) (hj : j < 28) : Mach (w.setCell ⟨B, 6724 + j, none⟩ (.int .u64 (inc64 (σ.st j)))) B mb t k ν τ (σ.inc j) := by
  have M : Mut B 6724 6752 w (w.setCell ⟨B, 6724 + j, none⟩ (.int .u64 (inc64 (σ.st j)))) := (Mut.refl B 6724 6752 w).setCell (by omega) (by omega) _
  refine h.turn M (by omega) (by omega) (.inl (by omega)) (.inl ⟨by omega, rfl⟩) (.inl ⟨by omega, rfl⟩) (.inr ⟨fun i hi => ?_, fun i => ?_⟩)
  · by_cases e : i = j
    · subst e
      have : (σ.inc i).st i = inc64 (σ.st i) := by simp [Sg.inc]
      rw [this]
      exact World.cell?_setCell_same _ _ _ (h.sts i hi)
    · have : (σ.inc j).st i = σ.st i := by simp [Sg.inc, e]
      rw [this, World.cell?_setCell_other _ _ _ _ (by simp <;> omega)]
      exact h.sts i hi
  · show 0 ≤ (if i = j then inc64 (σ.st j) else σ.st i) ∧ (if i = j then inc64 (σ.st j) else σ.st i) < _
    split
    · exact inc64_rng _
    · exact h.stb i
theorem Mach.sched {w w' : World} {B mb t k : Nat} {ν : Net} {τ : TSt} {σ : Sg} {s : Sched} (h : Mach w B mb t k ν τ σ) (M : Mut B 6596 6724 w w') (hs : SchedAt w' B s ∧ SOk s) : Mach w' B mb t k ν τ (σ.put s) :=
  h.turn M (by omega) (by omega) (.inl (by omega)) (.inl ⟨by omega, rfl⟩) (.inr hs) (.inl ⟨by omega, rfl⟩)
theorem Mach.nets {w w' : World} {B mb t k : Nat} {ν ν' : Net} {τ : TSt} {σ : Sg} (h : Mach w B mb t k ν τ σ) (M : Mut B 1939 6596 w w') (hn : NetAt w' B ν' ∧ NOk ν' k) : Mach w' B mb t k ν' τ σ :=
  h.turn M (by omega) (by omega) (.inl (by omega)) (.inr hn) (.inl ⟨by omega, rfl⟩) (.inl ⟨by omega, rfl⟩)
/-- The wheel turned, and its map. -/
theorem Mach.wheel3 {w w' : World} {B mb t k base lo : Nat} {ν : Net} {τ τ' : TSt} {σ : Sg} (h : Mach w B mb t k ν τ σ) (M : Mut3 B lo 1939 mb base w w') (hlo : 1 ≤ lo) (hb : B < base) (hb2 : 2 < base) (ht : ∃ s L fr f, TimersAt w' B k s f ∧ WInv s L fr f [] ∧ s.now = t ∧ s.mb = mb ∧ TW s L fr f τ' k) : Mach w' B mb t k ν τ' σ := by
  have hB := h.hB
  have hm := h.hm
  obtain ⟨N, K⟩ := h.net
  obtain ⟨S, O⟩ := h.sch
  have hv := h.vac
  refine ⟨by rw [M.cell _ (by omega)]; exact h.clk, h.tlt, ht, ⟨⟨fun o ho => by rw [M.cell _ (by omega)]; exact N.cell o ho, fun o => by rw [M.frz]; exact N.frz o⟩, K⟩, ⟨⟨fun o ho => by rw [M.cell _ (by omega)]; exact S.cell o ho, fun o => by rw [M.frz]; exact S.frz o⟩, O⟩, fun j hj => by rw [M.cell _ (by omega)]; exact h.sts j hj, h.stb, by rw [M.cell _ (by omega)]; exact h.snk, ?_, h.tab.mut3 M hB hm hb2, hB, hm⟩
  exact ⟨M.far (by omega) (by omega) (by omega) hv.v0, M.far (by omega) (by omega) (by omega) hv.v1, M.far (by omega) (by omega) (by omega) hv.v2, M.far (by omega) (by omega) (by omega) hv.v3, M.far (by omega) (by omega) (by omega) hv.v4⟩
/-- The clock turned. -/
theorem Mach.tick {w : World} {B mb t k t' : Nat} {ν : Net} {τ τ' : TSt} {σ : Sg} (h : Mach w B mb t k ν τ σ) (ht : t' < 18446744073709551616) (hc : ∃ s L fr f, TimersAt w B k s f ∧ WInv s L fr f [] ∧ s.now = t' ∧ s.mb = mb ∧ TW s L fr f τ' k) (e : w.cell? ⟨B, 0, none⟩ = some (.int .u64 (t' : Int))) : Mach w B mb t' k ν τ' σ :=
  ⟨e, ht, hc, h.net, h.sch, h.sts, h.stb, h.snk, h.vac, h.tab, h.hB, h.hm⟩

/-- What a step leaves: the machine in order; of all that lay there before, only the machine and its map turned. -/
structure Done (w w' : World) (B mb t k : Nat) (ν : Net) (τ : TSt) (σ : Sg) : Prop where
  m : Mach w' B mb t k ν τ σ
  f : Mut3 B 0 6753 mb w.heap.size w w'
theorem Done.refl {w : World} {B mb t k : Nat} {ν : Net} {τ : TSt} {σ : Sg} (h : Mach w B mb t k ν τ σ) : Done w w B mb t k ν τ σ := ⟨h, Mut3.refl _ _ _ _ _ _⟩
theorem Done.mut {w w1 w2 : World} {B mb t t' k k' lo hi : Nat} {ν ν' : Net} {τ τ' : TSt} {σ σ' : Sg} (h : Done w w1 B mb t k ν τ σ) (M : Mut B lo hi w1 w2) (hi_ : hi ≤ 6753) (m : Mach w2 B mb t' k' ν' τ' σ') : Done w w2 B mb t' k' ν' τ' σ' :=
  ⟨m, h.f.trans (((M.mono (lo' := 0) (hi' := 6753) (by omega) hi_)).to3 h.f.size)⟩
theorem Done.mut2 {w w1 w2 : World} {B mb t t' k k' lo hi : Nat} {ν ν' : Net} {τ τ' : TSt} {σ σ' : Sg} (h : Done w w1 B mb t k ν τ σ) (M : Mut2 B lo hi mb w1 w2) (hi_ : hi ≤ 6753) (m : Mach w2 B mb t' k' ν' τ' σ') : Done w w2 B mb t' k' ν' τ' σ' :=
  ⟨m, h.f.trans ((M.to3 h.f.size).wide (by omega) hi_)⟩
theorem Done.mut3 {w w1 w2 : World} {B mb t t' k k' lo hi base : Nat} {ν ν' : Net} {τ τ' : TSt} {σ σ' : Sg} (h : Done w w1 B mb t k ν τ σ) (M : Mut3 B lo hi mb base w1 w2) (hb : w.heap.size ≤ base) (hi_ : hi ≤ 6753) (m : Mach w2 B mb t' k' ν' τ' σ') : Done w w2 B mb t' k' ν' τ' σ' :=
  ⟨m, h.f.trans ⟨M.os, M.tape, M.output, M.size, fun k hk => M.block k (by omega), M.frz, fun o ho => M.cell o (by omega)⟩⟩
theorem Done.trans {w w1 w2 : World} {B mb t t' k k' : Nat} {ν ν' : Net} {τ τ' : TSt} {σ σ' : Sg} (h : Done w w1 B mb t k ν τ σ) (h2 : Done w1 w2 B mb t' k' ν' τ' σ') : Done w w2 B mb t' k' ν' τ' σ' := h.mut3 h2.f h.f.size (by omega) h2.m
theorem Done.mono {w w1 : World} {B mb t k k' : Nat} {ν : Net} {τ : TSt} {σ : Sg} (h : Done w w1 B mb t k ν τ σ) (hk : k ≤ k') : Done w w1 B mb t k' ν τ σ := ⟨h.m.mono hk, h.f⟩
theorem Done.drew {w w1 : World} {B mb t k : Nat} {ν : Net} {τ : TSt} {σ : Sg} (h : Done w w1 B mb t k ν τ σ) : Done w w1.drew B mb t k ν τ σ := h.mut (Mut.refl B 0 0 w1).drew (by omega) h.m.drew
theorem Done.below {w w1 w2 : World} {B mb t k : Nat} {ν : Net} {τ : TSt} {σ : Sg} (h : Done w w1 B mb t k ν τ σ) (hb : Below w1.heap.size w1 w2) : Done w w2 B mb t k ν τ σ := h.mut (Mut.of_below (lo := 0) (hi := 0) hb h.m.lt) (by omega) (h.m.below hb)
theorem Done.stat {w w1 : World} {B mb t k j : Nat} {ν : Net} {τ : TSt} {σ : Sg} (h : Done w w1 B mb t k ν τ σ) (hj : j < 28) : Done w (w1.setCell ⟨B, 6724 + j, none⟩ (.int .u64 (inc64 (σ.st j)))) B mb t k ν τ (σ.inc j) :=
  h.mut ((Mut.refl B 6724 6752 w1).setCell (by omega) (by omega) _) (by omega) (h.m.stat hj)
theorem Done.fresh {w w1 : World} {B mb t k : Nat} {ν : Net} {τ : TSt} {σ : Sg} (h : Done w w1 B mb t k ν τ σ) (q : Addr) (hw : w.heap.size ≤ q.block) (hB : B < w.heap.size) (hm : mb < w.heap.size) (v : Value) : Done w (w1.setCell q v) B mb t k ν τ σ := by
  have h2 := h.m.hB
  refine ⟨h.m.fresh q ⟨by omega, by omega, by omega⟩ v, h.f.trans ⟨rfl, rfl, rfl, by simp, fun k hk _ _ => ?_, fun o => World.frozen?_setCell _ _ _ _, fun o _ => World.cell?_setCell_far _ _ _ _ (by show q.block ≠ B; omega)⟩⟩
  simp only [World.setCell, Array.getElem?_modify]
  rw [if_neg (by omega)]

end Go.Proofs.Qxb6500877aGreatDoor
