import Derived.Deep.CutBlock
import Derived.OwnWalk
import Derived.Test.Qxb6500877aGreatDoorZh
import Derived.Test.Qxb6500877aGreatDoorZf
import Derived.Test.Qxb6500877aGreatDoorZg
import Derived.Test.Qxb6500877aGreatDoorAx2
import Derived.Test.Qxb6500877aGreatDoorEb
import Derived.Test.Qxb6500877aGreatDoorDa
set_option linter.unusedVariables false
set_option linter.unusedSimpArgs false
namespace Go.Proofs.Qxb6500877aGreatDoor
open Go.RowKit

/-- A step of the machine, its answer in one shape. -/
theorem step_r {w : World} {B mb t k : Nat} {ν : Net} {τ : TSt} {σ : Sg} (M : Mach w B mb t k ν τ σ) (hk : k < 800000) (o : OpS) (ho : o.ok) :
    Calls Tryz.prog 19 #[.pointer (some ⟨B, 0, none⟩), opV o] w fun e w' => ∃ (a : Ans) (p : Option Addr) (n c t' : Nat) (ν' : Net) (τ' : TSt) (σ' : Sg), e = .returned (.agg (resCs a.z a.co a.tk a.tm a.hm a.mm p n c)) ∧ FrAt w' w.heap.size (.slice p n c) a.fs ∧ Done w w' B mb t' (k + 4) ν' τ' σ' ∧ RealS o t ν τ σ a t' ν' τ' σ' := by
  have hkd : o.kd = 0 ∨ o.kd = 1 ∨ o.kd = 2 ∨ o.kd = 3 ∨ o.kd = 4 ∨ o.kd = 5 ∨ o.kd = 6 ∨ o.kd = 7 ∨ o.kd = 8 ∨ o.kd = 9 ∨ 9 < o.kd := by omega
  rcases hkd with h | h | h | h | h | h | h | h | h | h | h
  · refine (step_0 M hk o ho h).mono ?_
    rintro e w' ⟨c, hc, ec, hE, D⟩
    exact ⟨⟨(pickRes σ c).c, c, (pickRes σ c).tk, 0, false, msg0, []⟩, none, 0, 0, t, ν, τ, _, hE, .inl ⟨rfl, rfl⟩, D, real_k0 h ⟨c, hc, ec, rfl, rfl, rfl, rfl, rfl⟩⟩
  · refine (step_1 M hk o ho h).mono ?_
    rintro e w' ⟨i, ν', z, m, hi, ei, hE, hD, D⟩
    exact ⟨⟨z, ((i % 4 : Nat) : Int), -1, 0, decide (z = 0), m, []⟩, none, 0, 0, t, ν', τ, _, hE, .inl ⟨rfl, rfl⟩, D, real_k1 h ⟨i, z, m, hi, ei, rfl, hD, rfl, rfl, rfl⟩⟩
  · refine (step_2 M hk o ho h).mono ?_
    rintro e w' ⟨v, l, τ', ⟨p, n, c, rfl, hE⟩, hF, D, hA⟩
    exact ⟨⟨0, -1, -1, 0, false, msg0, l⟩, p, n, c, _, ν, τ', _, hE, fr_of hF, D, real_k2 h ⟨l, rfl, hA, rfl, rfl, rfl⟩⟩
  · refine (step_3 M hk o ho h).mono ?_
    rintro e w' ⟨v, l, τ', ⟨p, n, c, rfl, hE⟩, hF, D, hA⟩
    exact ⟨⟨0, -1, -1, 0, false, msg0, l⟩, p, n, c, _, ν, τ', _, hE, fr_of hF, D, real_k3 h ⟨l, rfl, hA, rfl, rfl, rfl⟩⟩
  · refine (step_4 M hk o ho h).mono ?_
    rintro e w' ⟨c, ν', hE, hS, D⟩
    exact ⟨⟨(sendRS o c).c, (sendRS o c).co, -1, 0, false, msg0, []⟩, none, 0, 0, t, ν', τ, _, hE, .inl ⟨rfl, rfl⟩, D, real_k4 (.inl h) ⟨c, rfl, hS, rfl, rfl, rfl⟩⟩
  · refine (step_5 M hk o ho h).mono ?_
    rintro e w' ⟨c, ν', hE, hS, D⟩
    exact ⟨⟨(sendRS o c).c, (sendRS o c).co, -1, 0, false, msg0, []⟩, none, 0, 0, t, ν', τ, _, hE, .inl ⟨rfl, rfl⟩, D, real_k4 (.inr h) ⟨c, rfl, hS, rfl, rfl, rfl⟩⟩
  · refine (step_6b M hk o ho h).mono ?_
    rintro e w' ⟨c, tm, τ', σ', hE, D, hA⟩
    exact ⟨⟨c, if c = 0 then o.a else -1, -1, tm, false, msg0, []⟩, none, 0, 0, t, ν, τ', σ', hE, .inl ⟨rfl, rfl⟩, D, real_k6 h ⟨c, tm, rfl, hA, rfl, rfl⟩⟩
  · refine (step_7b M hk o ho h).mono ?_
    rintro e w' ⟨c, tm, τ', σ', hE, D, hA⟩
    exact ⟨⟨c, if c = 0 then o.a else -1, -1, tm, false, msg0, []⟩, none, 0, 0, t, ν, τ', σ', hE, .inl ⟨rfl, rfl⟩, D, real_k7 h ⟨c, tm, rfl, hA, rfl, rfl⟩⟩
  · refine (step_8 M hk o ho h).mono ?_
    rintro e w' ⟨z, q, c, τ', hE, D, hA⟩
    exact ⟨⟨(tmRS z c q).c, (tmRS z c q).co, (tmRS z c q).tk, (tmRS z c q).tm, false, msg0, []⟩, none, 0, 0, t, ν, τ', σ, hE, .inl ⟨rfl, rfl⟩, D, real_k8 h ⟨z, q, c, rfl, hA, rfl, rfl, rfl⟩⟩
  · refine (step_9 M hk o ho h).mono ?_
    rintro e w' ⟨z, q, c, τ', σ', hE, D, hA⟩
    exact ⟨⟨(tmRS z c q).c, (tmRS z c q).co, (tmRS z c q).tk, (tmRS z c q).tm, false, msg0, []⟩, none, 0, 0, t, ν, τ', σ', hE, .inl ⟨rfl, rfl⟩, D, real_k9 h ⟨z, q, c, rfl, hA, rfl, rfl⟩⟩
  · refine (step_x M hk o ho h).mono ?_
    rintro e w' ⟨hE, D⟩
    exact ⟨⟨(taskF σ.s o).c, (taskF σ.s o).co, if (taskF σ.s o).c = 0 then argF 16 o.a else -1, 0, false, msg0, []⟩, none, 0, 0, t, ν, τ, _, hE, .inl ⟨rfl, rfl⟩, D, real_kt h ⟨rfl, rfl, rfl, rfl, rfl⟩⟩
set_option maxRecDepth 20000 in
set_option maxHeartbeats 8000000 in
theorem resEq_any {w : World} {b1 b2 n1 c1 n2 c2 : Nat} {p1 p2 : Option Addr} {z co tk tm : Int} {hm : Bool} {mm : MsgV} {fs : List FiredS} (H1 : FrAt w b1 (.slice p1 n1 c1) fs) (H2 : FrAt w b2 (.slice p2 n2 c2) fs) (hb : fs.length ≤ 1000000) :
    Calls Tryz.prog 20 #[.agg (resCs z co tk tm hm mm p1 n1 c1), .agg (resCs z co tk tm hm mm p2 n2 c2)] w fun e w' => e = .returned (.bool true) ∧ Below w.heap.size w w' := by
  have g40 := guard40
  have hme := fun w => msg_same mm w
  unfold msgV at hme
  have bb : Below w.heap.size w ((w.alloc (.cells (resCs z co tk tm hm mm p1 n1 c1) 43)).alloc (.cells (resCs z co tk tm hm mm p2 n2 c2) 43)) := (one_alloc w _).trans ((one_alloc _ _).mono (by simp))
  have hfe := eq_fired (H1.below bb) (H2.below bb) hb
  have HB := hideIt bb
  clear bb H1 H2 hb
  obtain ⟨mf, mt, md, mq, ma, x0, x1, x2, x3⟩ := mm
  unfold resCs at *
  go_enter Tryz.func20, Tryz.ntmps20
  go_wp2_with fail
  refine hfe.mono ?_
  rintro e w2 ⟨rfl, hb2⟩
  have HB2 := hideIt hb2
  clear hb2 hfe
  go_wp2
  go_ret
  exact ⟨rfl, HB.out.trans (HB2.out.mono HB.out.size)⟩
theorem rel_start {σ : Sg} (K : SOk σ.s) (h1 : ∀ x, x < 16 → r3 σ.s x = (0, -1, 0)) (h2 : ∀ j, σ.st j = 0) : Rel 0 net0 τ0 σ (mK 16) := by
  obtain ⟨⟨Q, I⟩, _⟩ := K
  obtain ⟨e1, e2, e3, e4, e5, e6, e7⟩ := mK_oth 16
  have hQ : ∀ c b, Q c b = [] := fun c b => List.eq_nil_iff_forall_not_mem.2 (fun x hx => by
    have hm := I.mem c b x hx
    have h0 := h1 x hm.2.2.1
    simp only [r3, Prod.mk.injEq] at h0
    omega)
  have hbox : ∀ b, boxL (net0.box b) = [] := fun b => List.eq_nil_of_length_eq_zero (by rw [boxL_len]; rfl)
  refine ⟨by rw [e1]; rfl, ⟨Q, I, fun x hx => by rw [mK_tk 16 x hx, h1 x hx], ⟨fun _ => 0, fun c _ x hx => by show (0 : Nat) < 4; omega, fun c b _ _ => by rw [hQ, e2]; rfl⟩, fun x hx => by rw [mK_tk 16 x hx]; exact ⟨by show (0 : Int) ≤ 0; omega, by show (0 : Int) < 4; omega⟩⟩, ⟨fun b _ => by rw [hbox, e3], fun b _ => by rw [e4]; rfl, fun b _ x hx => by rw [e3] at hx; simp at hx⟩, ⟨fun e => ?_, by rw [e5]; exact List.nodup_nil, by rw [e6]; rfl, fun e he => by rw [e5] at he; simp at he, fun e he => by rw [e5] at he; simp at he, by rw [e5]; simp⟩, fun j _ => by rw [e7, h2]⟩
  rw [e5]
  constructor
  · intro h; simp at h
  · intro h; cases h
end Go.Proofs.Qxb6500877aGreatDoor
