import Derived.Deep.CutBlock
import Derived.OwnWalk
import Derived.Maps.AppendAt
import Derived.Maps.OwnSet
import Derived.Maps.OwnOps
import Derived.Laws.ResultCell
import Derived.Test.Qxb6500880aZg
set_option linter.unusedVariables false
set_option linter.unusedSimpArgs false
namespace Go.Proofs.Qxb6500880a
open Go.RowKit

/-- What a step has besides: its key or its actions. -/
structure KaAt (w : World) (lo : Nat) (ρ : Rl) (kn : Bool) (j : Nat) (kv av : Value) : Prop where
  t : kn = true → w.ownsRow lo 120 2 kv 1 [.int .i64 (ρ.F j 0 : Int), .int .u32 0] ∧ av = .slice none 0 0
  f : kn = false → kv = .slice none 0 0 ∧ w.ownsRow lo 194 4 av ρ.n (actL (ρ.F j) ρ.n)
theorem KaAt.keep {w w' : World} {lo : Nat} {ρ : Rl} {kn : Bool} {j : Nat} {kv av : Value} (h : KaAt w lo ρ kn j kv av) (hk : ∀ q, kv.ownBlock = some q ∨ av.ownBlock = some q → w'.heap[q]? = w.heap[q]?) : KaAt w' lo ρ kn j kv av :=
  ⟨fun e => ⟨own_one (h.t e).1 (fun q hq => hk q (.inl hq)), (h.t e).2⟩, fun e => ⟨(h.f e).1, own_one (h.f e).2 (fun q hq => hk q (.inr hq))⟩⟩
theorem KaAt.lt {w : World} {lo : Nat} {ρ : Rl} {kn : Bool} {j : Nat} {kv av : Value} (h : KaAt w lo ρ kn j kv av) {q : Nat} (hq : kv.ownBlock = some q ∨ av.ownBlock = some q) : lo ≤ q ∧ q < w.heap.size := by
  cases kn
  · obtain ⟨e, o⟩ := h.f rfl
    rcases hq with z | z
    · rw [e] at z; simp [Value.ownBlock] at z
    · exact o.lt q z
  · obtain ⟨o, e⟩ := h.t rfl
    rcases hq with z | z
    · exact o.lt q z
    · rw [e] at z; simp [Value.ownBlock] at z
theorem KaAt.base {w : World} {lo lo' : Nat} {ρ : Rl} {kn : Bool} {j : Nat} {kv av : Value} (h : KaAt w lo ρ kn j kv av) (hl : lo' ≤ lo) : KaAt w lo' ρ kn j kv av :=
  ⟨fun e => ⟨own_base (h.t e).1 hl, (h.t e).2⟩, fun e => ⟨(h.f e).1, own_base (h.f e).2 hl⟩⟩
theorem KaAt.shape {w : World} {lo : Nat} {ρ : Rl} {kn : Bool} {j : Nat} {kv av : Value} (h : KaAt w lo ρ kn j kv av) : (∃ p n c, kv = .slice p n c) ∧ ∃ p n c, av = .slice p n c := by
  cases kn
  · obtain ⟨e, o⟩ := h.f rfl
    obtain ⟨p, c, z⟩ := own_shape o
    exact ⟨⟨_, _, _, e⟩, ⟨_, _, _, z⟩⟩
  · obtain ⟨o, e⟩ := h.t rfl
    obtain ⟨p, c, z⟩ := own_shape o
    exact ⟨⟨_, _, _, z⟩, ⟨_, _, _, e⟩⟩
def howV (kn : Bool) : Value := .int .u8 (if kn then 2 else 0)
theorem onB_same {b : Nat → Bool} {x : Nat} (h : b x = true) : onB b x = b := by
  funext y
  unfold onB
  split
  · rename_i e
    rw [e, h]
  · rfl
theorem step_any {w : World} {ρ : Rl} {PL E FL j : Nat} {b : Nat → Bool} {kn : Bool} (h0 : w.cell? ⟨PL, 0, none⟩ = some (.pointer (some ⟨E, 0, none⟩))) (h3 : w.cell? ⟨E, 3, none⟩ = some (.bool false)) (HR : RuX w ρ) (hj : j < ρ.m) (HB : BoolAt w FL ρ.R b) (hF : ∀ t, t < ρ.n → b (ρ.F j t) = kn) (hk1 : kn = true → ρ.n = 1) (hi : ∀ t t', t < ρ.n → t' < ρ.n → ρ.F j t = ρ.F j t' → t = t') (hFL : FL ≠ PL ∧ FL ≠ E ∧ ¬ ρ.has FL) (hm : ρ.m ≤ 100) (hn : ρ.n ≤ 100) (hR : ρ.R ≤ 1000) :
    Calls Try.prog 54 #[.pointer (some ⟨PL, 0, none⟩), .pointer (some ⟨ρ.gj, j * 3, none⟩), .int .u8 0, .slice (some ⟨FL, 0, none⟩) ρ.R ρ.R] w fun e w' => ∃ kv av, e = .returned (.agg #[.pointer (some ⟨ρ.gj, j * 3, none⟩), .int .i64 0, .int .u8 0, howV kn, .pointer none, kv, av, .slice none 0 0]) ∧ KaAt w' (w.heap.size + 2) ρ kn j kv av ∧ BoolAt w' FL ρ.R (fillF b (ρ.F j) ρ.n) ∧ Wr FL w w' := by
  cases kn
  · refine (step_free h0 h3 HR hj HB hF hi hFL hm hn hR).mono ?_
    rintro e w' ⟨av, rfl, own, B, W⟩
    exact ⟨_, av, rfl, ⟨fun h => by simp at h, fun _ => ⟨rfl, own⟩⟩, B, W⟩
  · have hn1 := hk1 rfl
    have hFl : FL < w.heap.size := World.block_lt_of_cell? _ _ (HB.c _ (HR.r j 0 hj HR.n0))
    refine (step_known h0 h3 HR hj HB hn1 (hF 0 HR.n0) hm hR).mono ?_
    rintro e w' ⟨kv, rfl, own, hb⟩
    refine ⟨kv, _, rfl, ⟨fun _ => ⟨own, rfl⟩, fun h => by simp at h⟩, ?_, Wr.of_below hb⟩
    rw [hn1]
    show BoolAt w' FL ρ.R (onB b (ρ.F j 0))
    rw [onB_same (hF 0 HR.n0)]
    exact HB.blk (hb.block FL hFl)
theorem StB.congr {w : World} {a : Nat} {v v' : Nat → Value} (h : StB w a v) (e : ∀ i, i < 8 → v i = v' i) : StB w a v' := ⟨fun i hi => by rw [← e i hi]; exact h.c i hi, h.fz⟩
theorem StB.fill {w : World} {a : Nat} {v : Nat → Value} (h : StB w a v) (p how ky ac : Value) : StB ((((((((w.setCell ⟨a, 0, none⟩ (p)).setCell ⟨a, 1, none⟩ (.int .i64 0)).setCell ⟨a, 2, none⟩ (.int .u8 0)).setCell ⟨a, 3, none⟩ (how)).setCell ⟨a, 4, none⟩ (.pointer none)).setCell ⟨a, 5, none⟩ (ky)).setCell ⟨a, 6, none⟩ (ac)).setCell ⟨a, 7, none⟩ (.slice none 0 0)) a (stV p how ky ac) := by
  refine (StB.congr ((((((((h.put (k := 0) (by omega) (p)).put (k := 1) (by omega) (.int .i64 0)).put (k := 2) (by omega) (.int .u8 0)).put (k := 3) (by omega) (how)).put (k := 4) (by omega) (.pointer none)).put (k := 5) (by omega) (ky)).put (k := 6) (by omega) (ac)).put (k := 7) (by omega) (.slice none 0 0)) ?_)
  intro i hi
  rcases (by omega : i = 0 ∨ i = 1 ∨ i = 2 ∨ i = 3 ∨ i = 4 ∨ i = 5 ∨ i = 6 ∨ i = 7) with h | h | h | h | h | h | h | h <;> (subst h; rfl)
set_option maxRecDepth 20000 in
set_option maxHeartbeats 8000000 in
theorem order_any {S : Nat → Prop} {w : World} {ρ : Rl} {nm : ByteArray} {s : RelS} {kn : Nat → Bool} {PL E : Nat} (h0 : w.cell? ⟨PL, 0, none⟩ = some (.pointer (some ⟨E, 0, none⟩))) (h1 : w.cell? ⟨E, 1, none⟩ = some (.int .u8 0)) (HR : RuX w ρ) (HK : RlK ρ kn) (H : RelAt w ρ.rb nm s) (hr : s.rows = 1) (hA : s.A = ρ.n) (hd : SymZ w s.data ρ.n) (hdr : s.data.ownBlock ≠ some ρ.rb) (hS : SprOk S w s) (hSl : ∀ q, S q → q < w.heap.size) (hSr : S ρ.rb) (hne : ∀ q, ρ.has q → q ≠ ρ.rb) (hm : ρ.m ≤ 100) (hn : ρ.n ≤ 100) (hR : ρ.R ≤ 1000) :
    Calls Try.prog 53 #[.pointer (some ⟨PL, 0, none⟩), .pointer (some ⟨ρ.RB, 0, none⟩), .int .i64 (-1)] w fun e w' => ∃ OR, e = .returned (.slice (some ⟨OR, 0, none⟩) ρ.m ρ.m) ∧ w.heap.size ≤ OR ∧ (∀ i, i < ρ.m → w'.cell? ⟨OR, i, none⟩ = some (.int .i64 (i : Int))) ∧ ∃ sp sa, RelAt w' ρ.rb nm { s with spr := sp, sat := sa } ∧ SprOk S w' { s with spr := sp, sat := sa } ∧ Wr ρ.rb w w' := by
  have hg := greedy_any (.pointer (some ⟨PL, 0, none⟩)) HR HK H hr hA hd hdr hS hSl hSr hne hm hn hR
  clear HR HK H hr hA hd hdr hS hSl hSr hne
  go_enter Try.func53, Try.ntmps53
  go_wp2_with fail
  refine hg.mono ?_
  rintro e w' ⟨OR, rfl, h⟩
  have HH := hideIt h
  clear h hg
  go_wp2
  go_ret
  exact ⟨OR, rfl, HH.out⟩
end Go.Proofs.Qxb6500880a
